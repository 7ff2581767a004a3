/- The code of the functions that the claim reaches, in the small machine's form: written by a program of mine, off the loaded program; the checks compare the two. -/
import Derived.Test.YtbfhlajbjfahiaaAmCore
set_option linter.unusedVariables false
set_option maxRecDepth 100000
namespace Go.Am
open Go
/-! laws_FnNamings -/
def A_laws_FnNamings.r0 : ACode := (.region none [⟨some 2, .move (.c (.bool false)), none⟩])
def A_laws_FnNamings.r1 : ACode := (.region none [⟨some 32, .move (.t 0), none⟩,
    ⟨some 33, .call 41 [(.t 32)], none⟩])
def A_laws_FnNamings.r2 : ACode := (.region none [⟨some 2, .move (.c (.bool true)), none⟩])
def A_laws_FnNamings.r3 : ACode := (.region none [⟨some 35, .move (.t 0), none⟩,
    ⟨some 36, .call 321 [(.t 35)], none⟩,
    ⟨some 34, .move (.t 36), none⟩,
    ⟨some 37, .extract (.t 34) 0, none⟩,
    ⟨some 38, .extract (.t 34) 1, none⟩,
    ⟨some 3, .alloc ([.int .i64 0] ++ List.replicate 32 (.int .u8 0)), none⟩,
    ⟨some 4, .alloc (List.replicate 16 (.int .u8 0)), none⟩,
    ⟨none, .store 33 (.t 3) (.t 37), none⟩,
    ⟨none, .store 16 (.t 4) (.t 38), none⟩])
def A_laws_FnNamings.r4 : ACode := (.region none [⟨some 40, .load (some 33) (.t 3), none⟩,
    ⟨some 41, .load (some 16) (.t 4), none⟩,
    ⟨some 42, .call 322 [(.t 40), (.t 41)], none⟩,
    ⟨some 39, .move (.t 42), none⟩,
    ⟨some 43, .extract (.t 39) 0, none⟩,
    ⟨some 44, .extract (.t 39) 1, none⟩,
    ⟨some 5, .alloc ([.int .i64 0] ++ List.replicate 32 (.int .u8 0)), none⟩,
    ⟨none, .store 33 (.t 5) (.t 43), none⟩,
    ⟨some 6, .move (.t 44), none⟩])
def A_laws_FnNamings.r5 : ACode := (.region none [⟨some 46, .load (some 33) (.t 3), none⟩,
    ⟨some 47, .load (some 16) (.t 4), none⟩,
    ⟨some 48, .call 323 [(.t 46), (.t 47)], none⟩,
    ⟨some 45, .move (.t 48), none⟩,
    ⟨some 49, .extract (.t 45) 0, none⟩,
    ⟨some 50, .extract (.t 45) 1, none⟩,
    ⟨some 7, .alloc ([.int .i64 0] ++ List.replicate 32 (.int .u8 0)), none⟩,
    ⟨none, .store 33 (.t 7) (.t 49), none⟩,
    ⟨some 8, .move (.t 50), none⟩])
def A_laws_FnNamings.r6 : ACode := (.region none [⟨some 51, .move (.t 6), none⟩,
    ⟨some 52, .move (.t 8), none⟩,
    ⟨some 53, .bin .neq (.t 51) (.t 52), none⟩,
    ⟨some 54, .move (.t 53), none⟩,
    ⟨some 55, .load (some 33) (.t 5), some (54, false)⟩,
    ⟨some 56, .load (some 33) (.t 7), some (54, false)⟩,
    ⟨some 57, .eqa true 33 (.t 55) (.t 56), some (54, false)⟩,
    ⟨some 58, .pick (.t 54) (.c (.bool true)) (.t 57), none⟩])
def A_laws_FnNamings.r7 : ACode := (.region none [⟨some 2, .move (.c (.bool false)), none⟩])
def A_laws_FnNamings.r8 : ACode := (.region none [⟨some 60, .move (.t 0), none⟩,
    ⟨some 61, .call 324 [(.t 60)], none⟩,
    ⟨some 59, .move (.t 61), none⟩,
    ⟨some 62, .extract (.t 59) 0, none⟩,
    ⟨some 63, .extract (.t 59) 1, none⟩,
    ⟨some 9, .alloc ([.int .i64 0] ++ List.replicate 32 (.int .u8 0)), none⟩,
    ⟨none, .store 33 (.t 9) (.t 62), none⟩,
    ⟨some 10, .move (.t 63), none⟩])
def A_laws_FnNamings.r9 : ACode := (.region none [⟨some 65, .load (some 33) (.t 9), none⟩,
    ⟨some 66, .move (.t 10), none⟩,
    ⟨some 67, .call 325 [(.t 65), (.t 66)], none⟩,
    ⟨some 64, .move (.t 67), none⟩,
    ⟨some 68, .extract (.t 64) 0, none⟩,
    ⟨some 69, .extract (.t 64) 1, none⟩,
    ⟨some 11, .alloc (List.replicate 16 (.int .u8 0)), none⟩,
    ⟨none, .store 16 (.t 11) (.t 68), none⟩,
    ⟨some 12, .move (.t 69), none⟩])
def A_laws_FnNamings.r10 : ACode := (.region none [⟨some 71, .load (some 33) (.t 9), none⟩,
    ⟨some 72, .move (.t 10), none⟩,
    ⟨some 73, .call 326 [(.t 71), (.t 72)], none⟩,
    ⟨some 70, .move (.t 73), none⟩,
    ⟨some 74, .extract (.t 70) 0, none⟩,
    ⟨some 75, .extract (.t 70) 1, none⟩,
    ⟨some 13, .alloc (List.replicate 16 (.int .u8 0)), none⟩,
    ⟨none, .store 16 (.t 13) (.t 74), none⟩,
    ⟨some 14, .move (.t 75), none⟩])
def A_laws_FnNamings.r11 : ACode := (.region none [⟨some 76, .move (.t 12), none⟩,
    ⟨some 77, .move (.t 14), none⟩,
    ⟨some 78, .bin .neq (.t 76) (.t 77), none⟩,
    ⟨some 79, .move (.t 78), none⟩,
    ⟨some 80, .load (some 16) (.t 11), some (79, false)⟩,
    ⟨some 81, .load (some 16) (.t 13), some (79, false)⟩,
    ⟨some 82, .eqa true 16 (.t 80) (.t 81), some (79, false)⟩,
    ⟨some 83, .pick (.t 79) (.c (.bool true)) (.t 82), none⟩])
def A_laws_FnNamings.r12 : ACode := (.region none [⟨some 2, .move (.c (.bool false)), none⟩])
def A_laws_FnNamings.r13 : ACode := (.region none [⟨some 84, .move (.t 0), none⟩,
    ⟨some 85, .call 327 [(.t 84)], none⟩,
    ⟨some 15, .alloc ([.int .i64 0] ++ List.replicate 32 (.int .u8 0)), none⟩,
    ⟨none, .store 33 (.t 15) (.t 85), none⟩])
def A_laws_FnNamings.r14 : ACode := (.region none [⟨some 87, .load (some 33) (.t 15), none⟩,
    ⟨some 88, .call 328 [(.t 87)], none⟩,
    ⟨some 86, .move (.t 88), none⟩,
    ⟨some 89, .extract (.t 86) 0, none⟩,
    ⟨some 90, .extract (.t 86) 1, none⟩,
    ⟨some 16, .alloc ([.int .i64 0] ++ List.replicate 32 (.int .u8 0)), none⟩,
    ⟨none, .store 33 (.t 16) (.t 89), none⟩,
    ⟨some 17, .move (.t 90), none⟩])
def A_laws_FnNamings.r15 : ACode := (.region none [⟨some 92, .load (some 33) (.t 15), none⟩,
    ⟨some 93, .call 329 [(.t 92)], none⟩,
    ⟨some 91, .move (.t 93), none⟩,
    ⟨some 94, .extract (.t 91) 0, none⟩,
    ⟨some 95, .extract (.t 91) 1, none⟩,
    ⟨some 18, .alloc ([.int .i64 0] ++ List.replicate 32 (.int .u8 0)), none⟩,
    ⟨none, .store 33 (.t 18) (.t 94), none⟩,
    ⟨some 19, .move (.t 95), none⟩])
def A_laws_FnNamings.r16 : ACode := (.region none [⟨some 96, .move (.t 17), none⟩,
    ⟨some 97, .move (.t 19), none⟩,
    ⟨some 98, .bin .neq (.t 96) (.t 97), none⟩,
    ⟨some 99, .move (.t 98), none⟩,
    ⟨some 100, .load (some 33) (.t 16), some (99, false)⟩,
    ⟨some 101, .load (some 33) (.t 18), some (99, false)⟩,
    ⟨some 102, .eqa true 33 (.t 100) (.t 101), some (99, false)⟩,
    ⟨some 103, .pick (.t 99) (.c (.bool true)) (.t 102), none⟩])
def A_laws_FnNamings.r17 : ACode := (.region none [⟨some 2, .move (.c (.bool false)), none⟩])
def A_laws_FnNamings.r18 : ACode := (.region none [⟨some 104, .move (.t 12), none⟩,
    ⟨some 105, .bin .eql (.t 104) (.c (.int .i64 0)), none⟩,
    ⟨some 106, .move (.t 105), none⟩,
    ⟨some 107, .move (.t 10), some (106, true)⟩,
    ⟨some 108, .indexAddr (some 16) 1 (.t 11) (.t 107), some (106, true)⟩,
    ⟨some 109, .load none (.t 108), some (106, true)⟩,
    ⟨some 110, .bin .neq (.t 109) (.c (.int .u8 0)), some (106, true)⟩,
    ⟨some 111, .pick (.t 106) (.t 110) (.c (.bool false)), none⟩])
def A_laws_FnNamings.r19 : ACode := (.region none [⟨some 2, .move (.c (.bool false)), none⟩])
def A_laws_FnNamings.r20 : ACode := (.region none [⟨some 112, .move (.t 17), none⟩,
    ⟨some 113, .bin .eql (.t 112) (.c (.int .i64 0)), none⟩])
def A_laws_FnNamings.r21 : ACode := (.region none [⟨some 115, .load (some 33) (.t 16), none⟩,
    ⟨some 116, .call 328 [(.t 115)], none⟩,
    ⟨some 114, .move (.t 116), none⟩,
    ⟨some 117, .extract (.t 114) 0, none⟩,
    ⟨some 118, .extract (.t 114) 1, none⟩,
    ⟨some 20, .alloc ([.int .i64 0] ++ List.replicate 32 (.int .u8 0)), none⟩,
    ⟨none, .store 33 (.t 20) (.t 117), none⟩,
    ⟨some 21, .move (.t 118), none⟩])
def A_laws_FnNamings.r22 : ACode := (.region none [⟨some 120, .load (some 33) (.t 15), none⟩,
    ⟨some 121, .load (some 33) (.t 16), none⟩,
    ⟨some 122, .call 158 [(.t 120), (.t 121)], none⟩,
    ⟨some 119, .move (.t 122), none⟩,
    ⟨some 123, .extract (.t 119) 0, none⟩,
    ⟨some 124, .extract (.t 119) 1, none⟩,
    ⟨some 22, .move (.t 123), none⟩,
    ⟨some 23, .move (.t 124), none⟩])
def A_laws_FnNamings.r23 : ACode := (.region none [⟨some 125, .move (.t 21), none⟩,
    ⟨some 126, .bin .neq (.t 125) (.c (.int .i64 0)), none⟩,
    ⟨some 127, .move (.t 126), none⟩,
    ⟨some 128, .load (some 33) (.t 20), some (127, false)⟩,
    ⟨some 129, .load (some 33) (.t 16), some (127, false)⟩,
    ⟨some 130, .eqa true 33 (.t 128) (.t 129), some (127, false)⟩,
    ⟨some 131, .pick (.t 127) (.c (.bool true)) (.t 130), none⟩,
    ⟨some 132, .move (.t 131), none⟩,
    ⟨some 133, .move (.t 23), some (132, false)⟩,
    ⟨some 134, .bin .neq (.t 133) (.c (.int .i64 0)), some (132, false)⟩,
    ⟨some 135, .pick (.t 132) (.c (.bool true)) (.t 134), none⟩,
    ⟨some 136, .move (.t 135), none⟩,
    ⟨some 137, .move (.t 22), some (136, false)⟩,
    ⟨some 138, .not (.t 137), some (136, false)⟩,
    ⟨some 139, .pick (.t 136) (.c (.bool true)) (.t 138), none⟩])
def A_laws_FnNamings.r24 : ACode := (.region none [⟨some 2, .move (.c (.bool false)), none⟩])
def A_laws_FnNamings.r25 : ACode := (.region none [⟨some 140, .move (.t 6), none⟩,
    ⟨some 141, .bin .neq (.t 140) (.c (.int .i64 0)), none⟩])
def A_laws_FnNamings.r26 : ACode := (.region none [⟨some 142, .fieldAddr 0 (.t 5), none⟩,
    ⟨some 143, .load none (.t 142), none⟩,
    ⟨some 144, .bin .eql (.t 143) (.c (.int .i64 0)), none⟩,
    ⟨some 2, .move (.t 144), none⟩])
def A_laws_FnNamings.r27 : ACode := (.region none [⟨some 146, .load (some 33) (.t 3), none⟩,
    ⟨some 147, .call 328 [(.t 146)], none⟩,
    ⟨some 145, .move (.t 147), none⟩,
    ⟨some 148, .extract (.t 145) 0, none⟩,
    ⟨some 149, .extract (.t 145) 1, none⟩,
    ⟨some 24, .alloc ([.int .i64 0] ++ List.replicate 32 (.int .u8 0)), none⟩,
    ⟨none, .store 33 (.t 24) (.t 148), none⟩,
    ⟨some 25, .move (.t 149), none⟩])
def A_laws_FnNamings.r28 : ACode := (.region none [⟨some 151, .load (some 33) (.t 5), none⟩,
    ⟨some 152, .call 328 [(.t 151)], none⟩,
    ⟨some 150, .move (.t 152), none⟩,
    ⟨some 153, .extract (.t 150) 0, none⟩,
    ⟨some 154, .extract (.t 150) 1, none⟩,
    ⟨some 26, .alloc ([.int .i64 0] ++ List.replicate 32 (.int .u8 0)), none⟩,
    ⟨none, .store 33 (.t 26) (.t 153), none⟩,
    ⟨some 27, .move (.t 154), none⟩])
def A_laws_FnNamings.r29 : ACode := (.region none [⟨some 156, .load (some 33) (.t 3), none⟩,
    ⟨some 157, .call 330 [(.t 156)], none⟩,
    ⟨some 155, .move (.t 157), none⟩,
    ⟨some 158, .extract (.t 155) 0, none⟩,
    ⟨some 159, .extract (.t 155) 1, none⟩,
    ⟨some 28, .move (.t 158), none⟩,
    ⟨some 29, .move (.t 159), none⟩])
def A_laws_FnNamings.r30 : ACode := (.region none [⟨some 161, .load (some 33) (.t 5), none⟩,
    ⟨some 162, .call 330 [(.t 161)], none⟩,
    ⟨some 160, .move (.t 162), none⟩,
    ⟨some 163, .extract (.t 160) 0, none⟩,
    ⟨some 164, .extract (.t 160) 1, none⟩,
    ⟨some 30, .move (.t 163), none⟩,
    ⟨some 31, .move (.t 164), none⟩])
def A_laws_FnNamings.r31 : ACode := (.region none [⟨some 165, .move (.t 25), none⟩,
    ⟨some 166, .bin .eql (.t 165) (.c (.int .i64 0)), none⟩,
    ⟨some 167, .move (.t 166), none⟩,
    ⟨some 168, .move (.t 27), some (167, true)⟩,
    ⟨some 169, .bin .eql (.t 168) (.c (.int .i64 0)), some (167, true)⟩,
    ⟨some 170, .pick (.t 167) (.t 169) (.c (.bool false)), none⟩,
    ⟨some 171, .move (.t 170), none⟩,
    ⟨some 172, .load (some 33) (.t 24), some (171, true)⟩,
    ⟨some 173, .load (some 33) (.t 26), some (171, true)⟩,
    ⟨some 174, .eqa false 33 (.t 172) (.t 173), some (171, true)⟩,
    ⟨some 175, .pick (.t 171) (.t 174) (.c (.bool false)), none⟩,
    ⟨some 176, .move (.t 175), none⟩,
    ⟨some 177, .move (.t 29), some (176, true)⟩,
    ⟨some 178, .bin .eql (.t 177) (.c (.int .i64 0)), some (176, true)⟩,
    ⟨some 179, .pick (.t 176) (.t 178) (.c (.bool false)), none⟩,
    ⟨some 180, .move (.t 179), none⟩,
    ⟨some 181, .move (.t 31), some (180, true)⟩,
    ⟨some 182, .bin .eql (.t 181) (.c (.int .i64 0)), some (180, true)⟩,
    ⟨some 183, .pick (.t 180) (.t 182) (.c (.bool false)), none⟩,
    ⟨some 184, .move (.t 183), none⟩,
    ⟨some 185, .move (.t 28), some (184, true)⟩,
    ⟨some 186, .move (.t 30), some (184, true)⟩,
    ⟨some 187, .call 51 [(.t 185), (.t 186)], some (184, true)⟩,
    ⟨some 188, .pick (.t 184) (.t 187) (.c (.bool false)), none⟩,
    ⟨some 2, .move (.t 188), none⟩])
def A_laws_FnNamings : AFunc := ⟨[.tmp 2], (.seq A_laws_FnNamings.r0 (.seq (.seq A_laws_FnNamings.r1 (.cond (.t 33) (.seq A_laws_FnNamings.r2 .ret) .skip)) (.seq A_laws_FnNamings.r3 (.seq A_laws_FnNamings.r4 (.seq (.seq A_laws_FnNamings.r5 (.seq A_laws_FnNamings.r6 (.cond (.t 58) (.seq A_laws_FnNamings.r7 .ret) .skip))) (.seq A_laws_FnNamings.r8 (.seq A_laws_FnNamings.r9 (.seq (.seq A_laws_FnNamings.r10 (.seq A_laws_FnNamings.r11 (.cond (.t 83) (.seq A_laws_FnNamings.r12 .ret) .skip))) (.seq A_laws_FnNamings.r13 (.seq A_laws_FnNamings.r14 (.seq (.seq A_laws_FnNamings.r15 (.seq A_laws_FnNamings.r16 (.cond (.t 103) (.seq A_laws_FnNamings.r17 .ret) .skip))) (.seq (.seq A_laws_FnNamings.r18 (.cond (.t 111) (.seq A_laws_FnNamings.r19 .ret) .skip)) (.seq (.seq A_laws_FnNamings.r20 (.cond (.t 113) (.seq A_laws_FnNamings.r21 (.seq A_laws_FnNamings.r22 (.seq A_laws_FnNamings.r23 (.cond (.t 139) (.seq A_laws_FnNamings.r24 .ret) .skip)))) .skip)) (.seq (.seq A_laws_FnNamings.r25 (.cond (.t 141) (.seq A_laws_FnNamings.r26 .ret) .skip)) (.seq A_laws_FnNamings.r27 (.seq A_laws_FnNamings.r28 (.seq A_laws_FnNamings.r29 (.seq A_laws_FnNamings.r30 (.seq A_laws_FnNamings.r31 .ret)))))))))))))))))))⟩
/-! laws_big -/
def A_laws_big.r0 : ACode := (.region none [⟨some 2, .move (.c (.bool false)), none⟩])
def A_laws_big.r1 : ACode := (.region none [⟨some 3, .move (.t 0), none⟩,
    ⟨some 4, .len (.t 3), none⟩,
    ⟨some 5, .bin .gtr (.t 4) (.c (.int .i64 4096)), none⟩,
    ⟨some 2, .move (.t 5), none⟩])
def A_laws_big : AFunc := ⟨[.tmp 2], (.seq A_laws_big.r0 (.seq A_laws_big.r1 .ret))⟩
/-! impl_PassportOf -/
def A_impl_PassportOf.r0 : ACode := (.region none [⟨some 1, .box (.t 0), none⟩,
    ⟨some 2, .move (.c (.slice none 0 0)), none⟩,
    ⟨some 3, .move (.c (.int .i64 0)), none⟩])
def A_impl_PassportOf.r1 : ACode := (.region none [⟨some 4, .load (some 33) (.t 1), none⟩,
    ⟨some 5, .call 187 [(.t 4)], none⟩,
    ⟨some 6, .not (.t 5), none⟩])
def A_impl_PassportOf.r2 : ACode := (.region none [⟨some 2, .move (.c (.slice none 0 0)), none⟩,
    ⟨some 3, .move (.c (.int .i64 1)), none⟩])
def A_impl_PassportOf.r3 : ACode := (.region none [⟨some 7, .load (some 33) (.t 1), none⟩,
    ⟨some 8, .call 280 [(.t 7)], none⟩,
    ⟨some 2, .move (.t 8), none⟩,
    ⟨some 3, .move (.c (.int .i64 0)), none⟩])
def A_impl_PassportOf : AFunc := ⟨[.tmp 2, .tmp 3], (.seq A_impl_PassportOf.r0 (.seq (.seq A_impl_PassportOf.r1 (.cond (.t 6) (.seq A_impl_PassportOf.r2 .ret) .skip)) (.seq A_impl_PassportOf.r3 .ret)))⟩
/-! impl_AreAlike -/
def A_impl_AreAlike.r0 : ACode := (.region none [⟨some 2, .box (.t 0), none⟩,
    ⟨some 3, .box (.t 1), none⟩,
    ⟨some 4, .move (.c (.bool false)), none⟩,
    ⟨some 5, .move (.c (.int .i64 0)), none⟩])
def A_impl_AreAlike.r1 : ACode := (.region none [⟨some 6, .load (some 33) (.t 2), none⟩,
    ⟨some 7, .call 187 [(.t 6)], none⟩,
    ⟨some 8, .not (.t 7), none⟩,
    ⟨some 9, .move (.t 8), none⟩,
    ⟨some 10, .load (some 33) (.t 3), some (9, false)⟩,
    ⟨some 11, .call 187 [(.t 10)], some (9, false)⟩,
    ⟨some 12, .not (.t 11), some (9, false)⟩,
    ⟨some 13, .pick (.t 9) (.c (.bool true)) (.t 12), none⟩])
def A_impl_AreAlike.r2 : ACode := (.region none [⟨some 4, .move (.c (.bool false)), none⟩,
    ⟨some 5, .move (.c (.int .i64 1)), none⟩])
def A_impl_AreAlike.r3 : ACode := (.region (some 14) [⟨some 14, .fieldAddr 0 (.t 2), none⟩,
    ⟨some 15, .load none (.t 14), none⟩,
    ⟨some 16, .fieldAddr 0 (.t 3), none⟩,
    ⟨some 17, .load none (.t 16), none⟩,
    ⟨some 18, .bin .eql (.t 15) (.t 17), none⟩,
    ⟨some 19, .move (.t 18), none⟩,
    ⟨some 20, .load (some 33) (.t 2), some (19, true)⟩,
    ⟨some 21, .call 198 [(.t 20)], some (19, true)⟩,
    ⟨some 22, .load (some 33) (.t 3), some (19, true)⟩,
    ⟨some 23, .call 198 [(.t 22)], some (19, true)⟩,
    ⟨some 24, .eqa false 33 (.t 21) (.t 23), some (19, true)⟩,
    ⟨some 25, .pick (.t 19) (.t 24) (.c (.bool false)), none⟩,
    ⟨some 4, .move (.t 25), none⟩,
    ⟨some 5, .move (.c (.int .i64 0)), none⟩])
def A_impl_AreAlike : AFunc := ⟨[.tmp 4, .tmp 5], (.seq A_impl_AreAlike.r0 (.seq (.seq A_impl_AreAlike.r1 (.cond (.t 13) (.seq A_impl_AreAlike.r2 .ret) .skip)) (.seq A_impl_AreAlike.r3 .ret)))⟩
/-! impl_CanonicalDessin -/
def A_impl_CanonicalDessin.r0 : ACode := (.region none [⟨some 1, .box (.t 0), none⟩,
    ⟨some 2, .alloc ([.int .i64 0] ++ List.replicate 32 (.int .u8 0)), none⟩,
    ⟨some 3, .move (.c (.int .i64 0)), none⟩])
def A_impl_CanonicalDessin.r1 : ACode := (.region none [⟨some 4, .load (some 33) (.t 1), none⟩,
    ⟨some 5, .call 187 [(.t 4)], none⟩,
    ⟨some 6, .not (.t 5), none⟩])
def A_impl_CanonicalDessin.r2 : ACode := (.region none [⟨some 7, .build ([.int .i64 0] ++ List.replicate 32 (.int .u8 0)) [], none⟩,
    ⟨none, .store 33 (.t 2) (.t 7), none⟩,
    ⟨some 3, .move (.c (.int .i64 1)), none⟩])
def A_impl_CanonicalDessin.r3 : ACode := (.region none [⟨some 8, .load (some 33) (.t 1), none⟩,
    ⟨some 9, .call 198 [(.t 8)], none⟩,
    ⟨none, .store 33 (.t 2) (.t 9), none⟩,
    ⟨some 3, .move (.c (.int .i64 0)), none⟩])
def A_impl_CanonicalDessin : AFunc := ⟨[.cell 2 (some 33), .tmp 3], (.seq A_impl_CanonicalDessin.r0 (.seq (.seq A_impl_CanonicalDessin.r1 (.cond (.t 6) (.seq A_impl_CanonicalDessin.r2 .ret) .skip)) (.seq A_impl_CanonicalDessin.r3 .ret)))⟩
/-! laws_likeInts -/
def A_laws_likeInts.r0 : ACode := (.region none [⟨some 4, .move (.c (.bool false)), none⟩])
def A_laws_likeInts.r1 : ACode := (.region none [⟨some 6, .move (.t 0), none⟩,
    ⟨some 7, .len (.t 6), none⟩,
    ⟨some 8, .move (.t 1), none⟩,
    ⟨some 9, .len (.t 8), none⟩,
    ⟨some 10, .bin .neq (.t 7) (.t 9), none⟩])
def A_laws_likeInts.r2 : ACode := (.region none [⟨some 4, .move (.c (.bool false)), none⟩])
def A_laws_likeInts.r3 : ACode := (.region none [⟨some 5, .move (.c (.int .i64 0)), none⟩])
def A_laws_likeInts.r4 : ACode := (.region none [⟨some 11, .move (.t 5), none⟩,
    ⟨some 12, .move (.t 0), none⟩,
    ⟨some 13, .len (.t 12), none⟩,
    ⟨some 14, .bin .lss (.t 11) (.t 13), none⟩])
def A_laws_likeInts.r6 : ACode := (.region (some 9) [⟨some 17, .move (.t 0), none⟩,
    ⟨some 18, .move (.t 5), none⟩,
    ⟨some 19, .indexAddr none 1 (.t 17) (.t 18), none⟩,
    ⟨some 20, .load none (.t 19), none⟩,
    ⟨some 21, .move (.t 1), none⟩,
    ⟨some 22, .move (.t 5), none⟩,
    ⟨some 23, .indexAddr none 1 (.t 21) (.t 22), none⟩,
    ⟨some 24, .load none (.t 23), none⟩,
    ⟨some 25, .bin .neq (.t 20) (.t 24), none⟩])
def A_laws_likeInts.r7 : ACode := (.region none [⟨some 4, .move (.c (.bool false)), none⟩])
def A_laws_likeInts.r5 : ACode := (.region none [⟨some 15, .move (.t 5), none⟩,
    ⟨some 16, .bin .add (.t 15) (.c (.int .i64 1)), none⟩,
    ⟨some 5, .move (.t 16), none⟩])
def A_laws_likeInts.l0 : ACode := (.seq (.seq A_laws_likeInts.r4 (.cond (.t 14) .skip (.exit 0))) (.seq (.block 1 (.seq A_laws_likeInts.r6 (.cond (.t 25) (.seq A_laws_likeInts.r7 .ret) .skip))) A_laws_likeInts.r5))
def A_laws_likeInts.r8 : ACode := (.region none [⟨some 4, .move (.c (.bool true)), none⟩])
def A_laws_likeInts : AFunc := ⟨[.tmp 4], (.seq A_laws_likeInts.r0 (.seq (.seq A_laws_likeInts.r1 (.cond (.t 10) (.seq A_laws_likeInts.r2 .ret) .skip)) (.seq (.seq A_laws_likeInts.r3 (.block 0 (.loop A_laws_likeInts.l0))) (.seq A_laws_likeInts.r8 .ret))))⟩
/-! laws_lists9 -/
def A_laws_lists9.r0 : ACode := (.region none [⟨some 4, .move (.c (.bool false)), none⟩])
def A_laws_lists9.r1 : ACode := (.region none [⟨some 6, .move (.t 0), none⟩,
    ⟨some 7, .len (.t 6), none⟩,
    ⟨some 8, .move (.t 1), none⟩,
    ⟨some 9, .len (.t 8), none⟩,
    ⟨some 10, .bin .neq (.t 7) (.t 9), none⟩])
def A_laws_lists9.r2 : ACode := (.region none [⟨some 4, .move (.c (.bool false)), none⟩])
def A_laws_lists9.r3 : ACode := (.region none [⟨some 5, .move (.c (.int .i64 0)), none⟩])
def A_laws_lists9.r4 : ACode := (.region none [⟨some 11, .move (.t 5), none⟩,
    ⟨some 12, .move (.t 0), none⟩,
    ⟨some 13, .len (.t 12), none⟩,
    ⟨some 14, .bin .lss (.t 11) (.t 13), none⟩])
def A_laws_lists9.r6 : ACode := (.region (some 10) [⟨some 17, .move (.t 0), none⟩,
    ⟨some 18, .move (.t 5), none⟩,
    ⟨some 19, .indexAddr none 1 (.t 17) (.t 18), none⟩,
    ⟨some 20, .load none (.t 19), none⟩,
    ⟨some 21, .move (.t 1), none⟩,
    ⟨some 22, .move (.t 5), none⟩,
    ⟨some 23, .indexAddr none 1 (.t 21) (.t 22), none⟩,
    ⟨some 24, .load none (.t 23), none⟩,
    ⟨some 25, .call 43 [(.t 20), (.t 24)], none⟩,
    ⟨some 26, .not (.t 25), none⟩])
def A_laws_lists9.r7 : ACode := (.region none [⟨some 4, .move (.c (.bool false)), none⟩])
def A_laws_lists9.r5 : ACode := (.region none [⟨some 15, .move (.t 5), none⟩,
    ⟨some 16, .bin .add (.t 15) (.c (.int .i64 1)), none⟩,
    ⟨some 5, .move (.t 16), none⟩])
def A_laws_lists9.l0 : ACode := (.seq (.seq A_laws_lists9.r4 (.cond (.t 14) .skip (.exit 0))) (.seq (.block 1 (.seq A_laws_lists9.r6 (.cond (.t 26) (.seq A_laws_lists9.r7 .ret) .skip))) A_laws_lists9.r5))
def A_laws_lists9.r8 : ACode := (.region none [⟨some 4, .move (.c (.bool true)), none⟩])
def A_laws_lists9 : AFunc := ⟨[.tmp 4], (.seq A_laws_lists9.r0 (.seq (.seq A_laws_lists9.r1 (.cond (.t 10) (.seq A_laws_lists9.r2 .ret) .skip)) (.seq (.seq A_laws_lists9.r3 (.block 0 (.loop A_laws_lists9.l0))) (.seq A_laws_lists9.r8 .ret))))⟩
/-! spec_DrawRenameDessin -/
def A_spec_DrawRenameDessin.r0 : ACode := (.region none [⟨some 2, .alloc ([.int .i64 0] ++ List.replicate 32 (.int .u8 0)), none⟩,
    ⟨some 3, .alloc (List.replicate 16 (.int .u8 0)), none⟩])
def A_spec_DrawRenameDessin.r1 : ACode := (.region none [⟨some 6, .move (.t 0), none⟩,
    ⟨some 7, .call 97 [(.t 6)], none⟩,
    ⟨some 4, .move (.t 7), none⟩])
def A_spec_DrawRenameDessin.r2 : ACode := (.region none [⟨some 8, .move (.t 4), none⟩,
    ⟨some 9, .call 355 [(.t 8)], none⟩,
    ⟨some 5, .alloc ([.int .i64 0] ++ List.replicate 32 (.int .u8 0)), none⟩,
    ⟨none, .store 33 (.t 5) (.t 9), none⟩])
def A_spec_DrawRenameDessin.r3 : ACode := (.region (some 5) [⟨some 10, .load (some 33) (.t 5), none⟩,
    ⟨some 11, .move (.t 4), none⟩,
    ⟨some 12, .fieldAddr 0 (.t 5), none⟩,
    ⟨some 13, .load none (.t 12), none⟩,
    ⟨some 14, .move (.t 4), none⟩,
    ⟨some 15, .callF 102 [(.t 14), (.c (.int .i64 24))] [(.t 5), (.t 12)], none⟩,
    ⟨some 16, .bin .quo (.t 15) (.c (.int .i64 23)), none⟩,
    ⟨some 17, .bin .add (.t 13) (.t 16), none⟩,
    ⟨some 18, .min [(.t 17), (.c (.int .i64 16))], none⟩,
    ⟨some 19, .max [(.c (.int .i64 1)), (.t 18)], none⟩,
    ⟨some 20, .callF 356 [(.t 11), (.t 19)] [(.t 5)], none⟩,
    ⟨none, .store 33 (.t 2) (.t 10), none⟩,
    ⟨none, .store 16 (.t 3) (.t 20), none⟩])
def A_spec_DrawRenameDessin : AFunc := ⟨[.cell 2 (some 33), .cell 3 (some 16)], (.seq A_spec_DrawRenameDessin.r0 (.seq A_spec_DrawRenameDessin.r1 (.seq A_spec_DrawRenameDessin.r2 (.seq A_spec_DrawRenameDessin.r3 .ret))))⟩
/-! impl_RenameDessin -/
def A_impl_RenameDessin.r0 : ACode := (.region none [⟨some 2, .box (.t 0), none⟩,
    ⟨some 3, .box (.t 1), none⟩,
    ⟨some 4, .alloc ([.int .i64 0] ++ List.replicate 32 (.int .u8 0)), none⟩,
    ⟨some 5, .move (.c (.int .i64 0)), none⟩])
def A_impl_RenameDessin.r1 : ACode := (.region none [⟨some 6, .load (some 33) (.t 2), none⟩,
    ⟨some 7, .call 187 [(.t 6)], none⟩,
    ⟨some 8, .not (.t 7), none⟩,
    ⟨some 9, .move (.t 8), none⟩,
    ⟨some 10, .load (some 16) (.t 3), some (9, false)⟩,
    ⟨some 11, .fieldAddr 0 (.t 2), some (9, false)⟩,
    ⟨some 12, .load none (.t 11), some (9, false)⟩,
    ⟨some 13, .call 209 [(.t 10), (.t 12)], some (9, false)⟩,
    ⟨some 14, .not (.t 13), some (9, false)⟩,
    ⟨some 15, .pick (.t 9) (.c (.bool true)) (.t 14), none⟩])
def A_impl_RenameDessin.r2 : ACode := (.region none [⟨some 16, .build ([.int .i64 0] ++ List.replicate 32 (.int .u8 0)) [], none⟩,
    ⟨none, .store 33 (.t 4) (.t 16), none⟩,
    ⟨some 5, .move (.c (.int .i64 1)), none⟩])
def A_impl_RenameDessin.r3 : ACode := (.region none [⟨some 17, .load (some 33) (.t 2), none⟩,
    ⟨some 18, .load (some 16) (.t 3), none⟩,
    ⟨some 19, .call 216 [(.t 17), (.t 18)], none⟩,
    ⟨none, .store 33 (.t 4) (.t 19), none⟩,
    ⟨some 5, .move (.c (.int .i64 0)), none⟩])
def A_impl_RenameDessin : AFunc := ⟨[.cell 4 (some 33), .tmp 5], (.seq A_impl_RenameDessin.r0 (.seq (.seq A_impl_RenameDessin.r1 (.cond (.t 15) (.seq A_impl_RenameDessin.r2 .ret) .skip)) (.seq A_impl_RenameDessin.r3 .ret)))⟩
/-! spec_RenameDessin -/
def A_spec_RenameDessin.r0 : ACode := (.region none [⟨some 2, .box (.t 0), none⟩,
    ⟨some 3, .box (.t 1), none⟩,
    ⟨some 4, .alloc ([.int .i64 0] ++ List.replicate 32 (.int .u8 0)), none⟩,
    ⟨some 5, .move (.c (.int .i64 0)), none⟩])
def A_spec_RenameDessin.r1 : ACode := (.region none [⟨some 6, .load (some 33) (.t 2), none⟩,
    ⟨some 7, .call 184 [(.t 6)], none⟩,
    ⟨some 8, .not (.t 7), none⟩,
    ⟨some 9, .move (.t 8), none⟩,
    ⟨some 10, .load (some 16) (.t 3), some (9, false)⟩,
    ⟨some 11, .fieldAddr 0 (.t 2), some (9, false)⟩,
    ⟨some 12, .load none (.t 11), some (9, false)⟩,
    ⟨some 13, .call 206 [(.t 10), (.t 12)], some (9, false)⟩,
    ⟨some 14, .not (.t 13), some (9, false)⟩,
    ⟨some 15, .pick (.t 9) (.c (.bool true)) (.t 14), none⟩])
def A_spec_RenameDessin.r2 : ACode := (.region none [⟨some 16, .build ([.int .i64 0] ++ List.replicate 32 (.int .u8 0)) [], none⟩,
    ⟨none, .store 33 (.t 4) (.t 16), none⟩,
    ⟨some 5, .move (.c (.int .i64 1)), none⟩])
def A_spec_RenameDessin.r3 : ACode := (.region none [⟨some 17, .load (some 33) (.t 2), none⟩,
    ⟨some 18, .load (some 16) (.t 3), none⟩,
    ⟨some 19, .call 357 [(.t 17), (.t 18)], none⟩,
    ⟨none, .store 33 (.t 4) (.t 19), none⟩,
    ⟨some 5, .move (.c (.int .i64 0)), none⟩])
def A_spec_RenameDessin : AFunc := ⟨[.cell 4 (some 33), .tmp 5], (.seq A_spec_RenameDessin.r0 (.seq (.seq A_spec_RenameDessin.r1 (.cond (.t 15) (.seq A_spec_RenameDessin.r2 .ret) .skip)) (.seq A_spec_RenameDessin.r3 .ret)))⟩
/-! spec_DrawNamingFrom -/
def A_spec_DrawNamingFrom.r0 : ACode := (.region none [⟨some 2, .alloc ([.int .i64 0] ++ List.replicate 32 (.int .u8 0)), none⟩,
    ⟨some 3, .move (.c (.int .i64 0)), none⟩])
def A_spec_DrawNamingFrom.r1 : ACode := (.region none [⟨some 6, .move (.t 0), none⟩,
    ⟨some 7, .call 97 [(.t 6)], none⟩,
    ⟨some 4, .move (.t 7), none⟩])
def A_spec_DrawNamingFrom.r2 : ACode := (.region none [⟨some 8, .move (.t 4), none⟩,
    ⟨some 9, .call 355 [(.t 8)], none⟩,
    ⟨some 5, .alloc ([.int .i64 0] ++ List.replicate 32 (.int .u8 0)), none⟩,
    ⟨none, .store 33 (.t 5) (.t 9), none⟩])
def A_spec_DrawNamingFrom.r3 : ACode := (.region (some 5) [⟨some 10, .load (some 33) (.t 5), none⟩,
    ⟨some 11, .move (.t 4), none⟩,
    ⟨some 12, .fieldAddr 0 (.t 5), none⟩,
    ⟨some 13, .load none (.t 12), none⟩,
    ⟨some 14, .move (.t 4), none⟩,
    ⟨some 15, .callF 102 [(.t 14), (.c (.int .i64 24))] [(.t 5), (.t 12)], none⟩,
    ⟨some 16, .bin .quo (.t 15) (.c (.int .i64 23)), none⟩,
    ⟨some 17, .bin .add (.t 13) (.t 16), none⟩,
    ⟨some 18, .callF 102 [(.t 11), (.t 17)] [(.t 5)], none⟩,
    ⟨none, .store 33 (.t 2) (.t 10), none⟩,
    ⟨some 3, .move (.t 18), none⟩])
def A_spec_DrawNamingFrom : AFunc := ⟨[.cell 2 (some 33), .tmp 3], (.seq A_spec_DrawNamingFrom.r0 (.seq A_spec_DrawNamingFrom.r1 (.seq A_spec_DrawNamingFrom.r2 (.seq A_spec_DrawNamingFrom.r3 .ret))))⟩
/-! impl_NamingFrom -/
def A_impl_NamingFrom.r0 : ACode := (.region none [⟨some 2, .box (.t 0), none⟩,
    ⟨some 4, .alloc (List.replicate 16 (.int .u8 0)), none⟩,
    ⟨some 5, .move (.c (.int .i64 0)), none⟩])
def A_impl_NamingFrom.r1 : ACode := (.region none [⟨some 7, .load (some 33) (.t 2), none⟩,
    ⟨some 8, .call 187 [(.t 7)], none⟩,
    ⟨some 9, .not (.t 8), none⟩,
    ⟨some 6, .move (.t 9), none⟩])
def A_impl_NamingFrom.r2 : ACode := (.region none [⟨some 10, .build (List.replicate 16 (.int .u8 0)) [], none⟩,
    ⟨none, .store 16 (.t 4) (.t 10), none⟩,
    ⟨some 5, .move (.c (.int .i64 1)), none⟩])
def A_impl_NamingFrom.r3 : ACode := (.region none [⟨some 12, .load (some 33) (.t 2), none⟩,
    ⟨some 13, .move (.t 1), none⟩,
    ⟨some 14, .buildSlice 1 1 [.int .i64 0] [(0, 1, (.t 13))], none⟩,
    ⟨some 15, .call 282 [(.t 12), (.t 14)], none⟩,
    ⟨some 16, .not (.t 15), none⟩,
    ⟨some 11, .move (.t 16), none⟩])
def A_impl_NamingFrom.r4 : ACode := (.region none [⟨some 17, .build (List.replicate 16 (.int .u8 0)) [], none⟩,
    ⟨none, .store 16 (.t 4) (.t 17), none⟩,
    ⟨some 5, .move (.c (.int .i64 2)), none⟩])
def A_impl_NamingFrom.r5 : ACode := (.region none [⟨some 18, .load (some 33) (.t 2), none⟩,
    ⟨some 19, .move (.t 1), none⟩,
    ⟨some 20, .call 215 [(.t 18), (.t 19)], none⟩,
    ⟨none, .store 16 (.t 4) (.t 20), none⟩,
    ⟨some 5, .move (.c (.int .i64 0)), none⟩])
def A_impl_NamingFrom : AFunc := ⟨[.cell 4 (some 16), .tmp 5], (.seq A_impl_NamingFrom.r0 (.seq (.block 0 (.seq A_impl_NamingFrom.r1 (.cond (.t 6) (.seq A_impl_NamingFrom.r2 .ret) (.seq A_impl_NamingFrom.r3 (.cond (.t 11) (.seq A_impl_NamingFrom.r4 .ret) .skip))))) (.seq A_impl_NamingFrom.r5 .ret)))⟩
/-! spec_NamingFrom -/
def A_spec_NamingFrom.r0 : ACode := (.region none [⟨some 2, .box (.t 0), none⟩,
    ⟨some 4, .alloc (List.replicate 16 (.int .u8 0)), none⟩,
    ⟨some 5, .move (.c (.int .i64 0)), none⟩])
def A_spec_NamingFrom.r1 : ACode := (.region none [⟨some 7, .load (some 33) (.t 2), none⟩,
    ⟨some 8, .call 184 [(.t 7)], none⟩,
    ⟨some 9, .not (.t 8), none⟩,
    ⟨some 6, .move (.t 9), none⟩])
def A_spec_NamingFrom.r2 : ACode := (.region none [⟨some 10, .build (List.replicate 16 (.int .u8 0)) [], none⟩,
    ⟨none, .store 16 (.t 4) (.t 10), none⟩,
    ⟨some 5, .move (.c (.int .i64 1)), none⟩])
def A_spec_NamingFrom.r3 : ACode := (.region none [⟨some 12, .move (.t 1), none⟩,
    ⟨some 13, .fieldAddr 0 (.t 2), none⟩,
    ⟨some 14, .load none (.t 13), none⟩,
    ⟨some 15, .bin .sub (.t 14) (.c (.int .i64 1)), none⟩,
    ⟨some 16, .call 58 [(.t 12), (.c (.int .i64 0)), (.t 15)], none⟩,
    ⟨some 17, .not (.t 16), none⟩,
    ⟨some 11, .move (.t 17), none⟩])
def A_spec_NamingFrom.r4 : ACode := (.region none [⟨some 18, .build (List.replicate 16 (.int .u8 0)) [], none⟩,
    ⟨none, .store 16 (.t 4) (.t 18), none⟩,
    ⟨some 5, .move (.c (.int .i64 2)), none⟩])
def A_spec_NamingFrom.r5 : ACode := (.region none [⟨some 19, .load (some 33) (.t 2), none⟩,
    ⟨some 20, .move (.t 1), none⟩,
    ⟨some 21, .call 358 [(.t 19), (.t 20)], none⟩,
    ⟨none, .store 16 (.t 4) (.t 21), none⟩,
    ⟨some 5, .move (.c (.int .i64 0)), none⟩])
def A_spec_NamingFrom : AFunc := ⟨[.cell 4 (some 16), .tmp 5], (.seq A_spec_NamingFrom.r0 (.seq (.block 0 (.seq A_spec_NamingFrom.r1 (.cond (.t 6) (.seq A_spec_NamingFrom.r2 .ret) (.seq A_spec_NamingFrom.r3 (.cond (.t 11) (.seq A_spec_NamingFrom.r4 .ret) .skip))))) (.seq A_spec_NamingFrom.r5 .ret)))⟩
/-! spec_DrawCanonicalDessin -/
def A_spec_DrawCanonicalDessin.r0 : ACode := (.region none [⟨some 2, .alloc ([.int .i64 0] ++ List.replicate 32 (.int .u8 0)), none⟩])
def A_spec_DrawCanonicalDessin.r1 : ACode := (.region none [⟨some 3, .move (.t 0), none⟩,
    ⟨some 4, .call 97 [(.t 3)], none⟩,
    ⟨some 5, .call 355 [(.t 4)], none⟩,
    ⟨none, .store 33 (.t 2) (.t 5), none⟩])
def A_spec_DrawCanonicalDessin : AFunc := ⟨[.cell 2 (some 33)], (.seq A_spec_DrawCanonicalDessin.r0 (.seq A_spec_DrawCanonicalDessin.r1 .ret))⟩
/-! spec_CanonicalDessin -/
def A_spec_CanonicalDessin.r0 : ACode := (.region none [⟨some 1, .box (.t 0), none⟩,
    ⟨some 2, .alloc ([.int .i64 0] ++ List.replicate 32 (.int .u8 0)), none⟩,
    ⟨some 3, .move (.c (.int .i64 0)), none⟩])
def A_spec_CanonicalDessin.r1 : ACode := (.region none [⟨some 4, .load (some 33) (.t 1), none⟩,
    ⟨some 5, .call 184 [(.t 4)], none⟩,
    ⟨some 6, .not (.t 5), none⟩])
def A_spec_CanonicalDessin.r2 : ACode := (.region none [⟨some 7, .build ([.int .i64 0] ++ List.replicate 32 (.int .u8 0)) [], none⟩,
    ⟨none, .store 33 (.t 2) (.t 7), none⟩,
    ⟨some 3, .move (.c (.int .i64 1)), none⟩])
def A_spec_CanonicalDessin.r3 : ACode := (.region none [⟨some 8, .load (some 33) (.t 1), none⟩,
    ⟨some 9, .call 359 [(.t 8)], none⟩,
    ⟨none, .store 33 (.t 2) (.t 9), none⟩,
    ⟨some 3, .move (.c (.int .i64 0)), none⟩])
def A_spec_CanonicalDessin : AFunc := ⟨[.cell 2 (some 33), .tmp 3], (.seq A_spec_CanonicalDessin.r0 (.seq (.seq A_spec_CanonicalDessin.r1 (.cond (.t 6) (.seq A_spec_CanonicalDessin.r2 .ret) .skip)) (.seq A_spec_CanonicalDessin.r3 .ret)))⟩
/-! spec_l01Spoil -/
def A_spec_l01Spoil.r0 : ACode := (.region none [⟨some 4, .alloc ([.int .i64 0] ++ List.replicate 32 (.int .u8 0)), none⟩])
def A_spec_l01Spoil.r1 : ACode := (.region none [⟨some 6, .move (.t 0), none⟩,
    ⟨some 7, .move (.t 1), none⟩,
    ⟨some 8, .call 372 [(.t 6), (.t 7)], none⟩,
    ⟨some 5, .alloc ([.int .i64 0] ++ List.replicate 32 (.int .u8 0)), none⟩,
    ⟨none, .store 33 (.t 5) (.t 8), none⟩])
def A_spec_l01Spoil.r2 : ACode := (.region none [⟨some 9, .move (.t 0), none⟩,
    ⟨some 10, .call 102 [(.t 9), (.c (.int .i64 40))], none⟩])
def A_spec_l01Spoil.r3 : ACode := (.region none [⟨some 12, .bin .eql (.t 10) (.c (.int .i64 0)), none⟩,
    ⟨some 11, .move (.t 12), none⟩])
def A_spec_l01Spoil.r4 : ACode := (.region none [⟨some 13, .fieldAddr 1 (.t 5), none⟩,
    ⟨some 14, .indexAddr (some 16) 1 (.t 13) (.c (.int .i64 0)), none⟩,
    ⟨some 15, .load none (.t 14), none⟩,
    ⟨some 16, .bin .add (.t 15) (.c (.int .u8 1)), none⟩,
    ⟨some 17, .fieldAddr 1 (.t 5), none⟩,
    ⟨some 18, .indexAddr (some 16) 1 (.t 17) (.c (.int .i64 0)), none⟩,
    ⟨none, .store 1 (.t 18) (.t 16), none⟩])
def A_spec_l01Spoil.r5 : ACode := (.region none [⟨some 20, .bin .eql (.t 10) (.c (.int .i64 1)), none⟩,
    ⟨some 19, .move (.t 20), none⟩])
def A_spec_l01Spoil.r6 : ACode := (.region none [⟨some 21, .move (.t 0), none⟩,
    ⟨some 22, .fieldAddr 0 (.t 5), none⟩,
    ⟨some 23, .load none (.t 22), none⟩,
    ⟨some 24, .bin .add (.t 23) (.c (.int .i64 1)), none⟩,
    ⟨some 25, .fieldAddr 0 (.t 5), none⟩,
    ⟨some 26, .load none (.t 25), none⟩,
    ⟨some 27, .bin .sub (.t 26) (.c (.int .i64 1)), none⟩,
    ⟨some 28, .buildSlice 1 5 [.int .i64 0] [(0, 1, (.c (.int .i64 0))), (1, 1, (.c (.int .i64 17))), (2, 1, (.c (.int .i64 (-1)))), (3, 1, (.t 24)), (4, 1, (.t 27))], none⟩,
    ⟨some 29, .call 98 [(.t 21), (.t 28)], none⟩,
    ⟨some 30, .fieldAddr 0 (.t 5), none⟩,
    ⟨none, .store 1 (.t 30) (.t 29), none⟩])
def A_spec_l01Spoil.r7 : ACode := (.region none [⟨some 32, .bin .eql (.t 10) (.c (.int .i64 2)), none⟩,
    ⟨some 31, .move (.t 32), none⟩])
def A_spec_l01Spoil.r8 : ACode := (.region none [⟨some 33, .fieldAddr 0 (.t 5), none⟩,
    ⟨some 34, .load none (.t 33), none⟩,
    ⟨some 35, .min [(.t 34), (.c (.int .i64 16))], none⟩,
    ⟨some 36, .call 364 [(.t 35)], none⟩,
    ⟨some 37, .fieldAddr 17 (.t 5), none⟩,
    ⟨none, .store 16 (.t 37) (.t 36), none⟩])
def A_spec_l01Spoil.r9 : ACode := (.region none [⟨some 39, .bin .eql (.t 10) (.c (.int .i64 3)), none⟩,
    ⟨some 38, .move (.t 39), none⟩])
def A_spec_l01Spoil.r10 : ACode := (.region none [⟨some 40, .move (.t 0), none⟩,
    ⟨some 41, .buildSlice 1 2 [.int .i64 0] [(0, 1, (.c (.int .i64 1))), (1, 1, (.c (.int .i64 255)))], none⟩,
    ⟨some 42, .call 98 [(.t 40), (.t 41)], none⟩,
    ⟨some 43, .conv .u8 (.t 42), none⟩,
    ⟨some 44, .fieldAddr 17 (.t 5), none⟩,
    ⟨some 45, .indexAddr (some 16) 1 (.t 44) (.c (.int .i64 15)), none⟩,
    ⟨none, .store 1 (.t 45) (.t 43), none⟩])
def A_spec_l01Spoil.r11 : ACode := (.region none [⟨some 46, .load (some 33) (.t 5), none⟩,
    ⟨none, .store 33 (.t 4) (.t 46), none⟩])
def A_spec_l01Spoil : AFunc := ⟨[.cell 4 (some 33)], (.seq A_spec_l01Spoil.r0 (.seq A_spec_l01Spoil.r1 (.seq (.seq A_spec_l01Spoil.r2 (.block 0 (.seq A_spec_l01Spoil.r3 (.cond (.t 11) A_spec_l01Spoil.r4 (.seq A_spec_l01Spoil.r5 (.cond (.t 19) A_spec_l01Spoil.r6 (.seq A_spec_l01Spoil.r7 (.cond (.t 31) A_spec_l01Spoil.r8 (.seq A_spec_l01Spoil.r9 (.cond (.t 38) A_spec_l01Spoil.r10 .skip)))))))))) (.seq A_spec_l01Spoil.r11 .ret))))⟩
/-! spec_l01From -/
def A_spec_l01From.r0 : ACode := (.region none [⟨some 2, .move (.c (.pointer none)), none⟩])
def A_spec_l01From.r1 : ACode := (.region none [⟨some 5, .move (.t 0), none⟩,
    ⟨some 6, .move (.t 0), none⟩,
    ⟨some 7, .len (.t 6), none⟩,
    ⟨some 8, .conv .u64 (.t 7), none⟩,
    ⟨some 9, .bin .add (.c (.int .u64 8117)) (.t 8), none⟩,
    ⟨some 10, .build ([.slice none 0 0] ++ [.int .i64 0] ++ [.int .u64 0]) [(0, 1, (.t 5)), (2, 1, (.t 9))], none⟩,
    ⟨some 11, .box (.t 10), none⟩,
    ⟨some 3, .move (.t 11), none⟩])
def A_spec_l01From.r2 : ACode := (.region none [⟨some 4, .move (.c (.int .i64 0)), none⟩])
def A_spec_l01From.r3 : ACode := (.region none [⟨some 12, .move (.t 4), none⟩,
    ⟨some 13, .move (.t 0), none⟩,
    ⟨some 14, .len (.t 13), none⟩,
    ⟨some 15, .bin .lss (.t 12) (.t 14), none⟩,
    ⟨some 16, .move (.t 15), none⟩,
    ⟨some 17, .move (.t 4), some (16, true)⟩,
    ⟨some 18, .bin .lss (.t 17) (.c (.int .i64 4096)), some (16, true)⟩,
    ⟨some 19, .pick (.t 16) (.t 18) (.c (.bool false)), none⟩])
def A_spec_l01From.r5 : ACode := (.region (some 15) [⟨some 22, .move (.t 3), none⟩,
    ⟨some 23, .move (.t 3), none⟩,
    ⟨some 24, .nilCheck (.t 23), none⟩,
    ⟨some 25, .fieldAddr 2 (.t 24), none⟩,
    ⟨some 26, .load none (.t 25), none⟩,
    ⟨some 27, .bin .mul (.t 26) (.c (.int .u64 1099511628211)), none⟩,
    ⟨some 28, .move (.t 0), none⟩,
    ⟨some 29, .move (.t 4), none⟩,
    ⟨some 30, .indexAddr none 1 (.t 28) (.t 29), none⟩,
    ⟨some 31, .load none (.t 30), none⟩,
    ⟨some 32, .conv .u64 (.t 31), none⟩,
    ⟨some 33, .bin .add (.t 27) (.t 32), none⟩,
    ⟨some 34, .bin .add (.t 33) (.c (.int .u64 23)), none⟩,
    ⟨some 35, .nilCheck (.t 22), none⟩,
    ⟨some 36, .fieldAddr 2 (.t 35), none⟩,
    ⟨none, .store 1 (.t 36) (.t 34), none⟩])
def A_spec_l01From.r4 : ACode := (.region none [⟨some 20, .move (.t 4), none⟩,
    ⟨some 21, .bin .add (.t 20) (.c (.int .i64 1)), none⟩,
    ⟨some 4, .move (.t 21), none⟩])
def A_spec_l01From.l0 : ACode := (.seq (.seq A_spec_l01From.r3 (.cond (.t 19) .skip (.exit 0))) (.seq (.block 1 A_spec_l01From.r5) A_spec_l01From.r4))
def A_spec_l01From.r6 : ACode := (.region none [⟨some 37, .move (.t 3), none⟩,
    ⟨some 2, .move (.t 37), none⟩])
def A_spec_l01From : AFunc := ⟨[.tmp 2], (.seq A_spec_l01From.r0 (.seq A_spec_l01From.r1 (.seq (.seq A_spec_l01From.r2 (.block 0 (.loop A_spec_l01From.l0))) (.seq A_spec_l01From.r6 .ret))))⟩
/-! impl_IsDessin -/
def A_impl_IsDessin.r0 : ACode := (.region none [⟨some 1, .box (.t 0), none⟩,
    ⟨some 2, .move (.c (.bool false)), none⟩])
def A_impl_IsDessin.r1 : ACode := (.region none [⟨some 4, .fieldAddr 0 (.t 1), none⟩,
    ⟨some 5, .load none (.t 4), none⟩,
    ⟨some 3, .move (.t 5), none⟩])
def A_impl_IsDessin.r2 : ACode := (.region none [⟨some 6, .fieldAddr 1 (.t 1), none⟩,
    ⟨some 7, .load (some 16) (.t 6), none⟩,
    ⟨some 8, .move (.t 3), none⟩,
    ⟨some 9, .call 209 [(.t 7), (.t 8)], none⟩,
    ⟨some 10, .move (.t 9), none⟩,
    ⟨some 11, .fieldAddr 17 (.t 1), some (10, true)⟩,
    ⟨some 12, .load (some 16) (.t 11), some (10, true)⟩,
    ⟨some 13, .move (.t 3), some (10, true)⟩,
    ⟨some 14, .call 209 [(.t 12), (.t 13)], some (10, true)⟩,
    ⟨some 15, .pick (.t 10) (.t 14) (.c (.bool false)), none⟩,
    ⟨some 16, .move (.t 15), none⟩,
    ⟨some 17, .move (.t 3), some (16, true)⟩,
    ⟨some 18, .fieldAddr 1 (.t 1), some (16, true)⟩,
    ⟨some 19, .load (some 16) (.t 18), some (16, true)⟩,
    ⟨some 20, .fieldAddr 17 (.t 1), some (16, true)⟩,
    ⟨some 21, .load (some 16) (.t 20), some (16, true)⟩,
    ⟨some 22, .buildSlice 16 2 (List.replicate 16 (.int .u8 0)) [(0, 16, (.t 19)), (16, 16, (.t 21))], some (16, true)⟩,
    ⟨some 23, .call 210 [(.t 17), (.t 22)], some (16, true)⟩,
    ⟨some 24, .move (.t 3), some (16, true)⟩,
    ⟨some 25, .bin .eql (.t 23) (.t 24), some (16, true)⟩,
    ⟨some 26, .pick (.t 16) (.t 25) (.c (.bool false)), none⟩,
    ⟨some 2, .move (.t 26), none⟩])
def A_impl_IsDessin : AFunc := ⟨[.tmp 2], (.seq A_impl_IsDessin.r0 (.seq A_impl_IsDessin.r1 (.seq A_impl_IsDessin.r2 .ret)))⟩
/-! impl_passport -/
def A_impl_passport.r0 : ACode := (.region none [⟨some 1, .box (.t 0), none⟩,
    ⟨some 2, .move (.c (.slice none 0 0)), none⟩])
def A_impl_passport.r1 : ACode := (.region (some 17) [⟨some 3, .fieldAddr 1 (.t 1), none⟩,
    ⟨some 4, .load (some 16) (.t 3), none⟩,
    ⟨some 5, .fieldAddr 0 (.t 1), none⟩,
    ⟨some 6, .load none (.t 5), none⟩,
    ⟨some 7, .call 218 [(.t 4), (.t 6)], none⟩,
    ⟨some 8, .fieldAddr 17 (.t 1), none⟩,
    ⟨some 9, .load (some 16) (.t 8), none⟩,
    ⟨some 10, .fieldAddr 0 (.t 1), none⟩,
    ⟨some 11, .load none (.t 10), none⟩,
    ⟨some 12, .call 218 [(.t 9), (.t 11)], none⟩,
    ⟨some 13, .load (some 33) (.t 1), none⟩,
    ⟨some 14, .call 193 [(.t 13)], none⟩,
    ⟨some 15, .fieldAddr 0 (.t 1), none⟩,
    ⟨some 16, .load none (.t 15), none⟩,
    ⟨some 17, .call 218 [(.t 14), (.t 16)], none⟩,
    ⟨some 18, .buildSlice 1 3 [.slice none 0 0] [(0, 1, (.t 7)), (1, 1, (.t 12)), (2, 1, (.t 17))], none⟩,
    ⟨some 2, .move (.t 18), none⟩])
def A_impl_passport : AFunc := ⟨[.tmp 2], (.seq A_impl_passport.r0 (.seq A_impl_passport.r1 .ret))⟩
/-! spec_l01Is -/
def A_spec_l01Is.r0 : ACode := (.region none [⟨some 1, .box (.t 0), none⟩,
    ⟨some 2, .move (.c (.bool false)), none⟩])
def A_spec_l01Is.r1 : ACode := (.region none [⟨some 3, .fieldAddr 1 (.t 1), none⟩,
    ⟨some 4, .load (some 16) (.t 3), none⟩,
    ⟨some 5, .fieldAddr 0 (.t 1), none⟩,
    ⟨some 6, .load none (.t 5), none⟩,
    ⟨some 7, .call 206 [(.t 4), (.t 6)], none⟩,
    ⟨some 8, .move (.t 7), none⟩,
    ⟨some 9, .fieldAddr 17 (.t 1), some (8, true)⟩,
    ⟨some 10, .load (some 16) (.t 9), some (8, true)⟩,
    ⟨some 11, .fieldAddr 0 (.t 1), some (8, true)⟩,
    ⟨some 12, .load none (.t 11), some (8, true)⟩,
    ⟨some 13, .call 206 [(.t 10), (.t 12)], some (8, true)⟩,
    ⟨some 14, .pick (.t 8) (.t 13) (.c (.bool false)), none⟩,
    ⟨some 15, .move (.t 14), none⟩,
    ⟨some 16, .fieldAddr 0 (.t 1), some (15, true)⟩,
    ⟨some 17, .load none (.t 16), some (15, true)⟩,
    ⟨some 18, .fieldAddr 1 (.t 1), some (15, true)⟩,
    ⟨some 19, .load (some 16) (.t 18), some (15, true)⟩,
    ⟨some 20, .fieldAddr 17 (.t 1), some (15, true)⟩,
    ⟨some 21, .load (some 16) (.t 20), some (15, true)⟩,
    ⟨some 22, .call 207 [(.t 17), (.t 19), (.t 21)], some (15, true)⟩,
    ⟨some 23, .pick (.t 15) (.t 22) (.c (.bool false)), none⟩,
    ⟨some 2, .move (.t 23), none⟩])
def A_spec_l01Is : AFunc := ⟨[.tmp 2], (.seq A_spec_l01Is.r0 (.seq A_spec_l01Is.r1 .ret))⟩
/-! impl_canonical -/
def A_impl_canonical.r0 : ACode := (.region none [⟨some 1, .box (.t 0), none⟩,
    ⟨some 2, .alloc ([.int .i64 0] ++ List.replicate 32 (.int .u8 0)), none⟩])
def A_impl_canonical.r1 : ACode := (.region (some 5) [⟨some 6, .load (some 33) (.t 1), none⟩,
    ⟨some 7, .load (some 33) (.t 1), none⟩,
    ⟨some 8, .call 215 [(.t 7), (.c (.int .i64 0))], none⟩,
    ⟨some 9, .call 216 [(.t 6), (.t 8)], none⟩,
    ⟨some 3, .alloc ([.int .i64 0] ++ List.replicate 32 (.int .u8 0)), none⟩,
    ⟨none, .store 33 (.t 3) (.t 9), none⟩])
def A_impl_canonical.r2 : ACode := (.region none [⟨some 4, .move (.c (.int .i64 1)), none⟩])
def A_impl_canonical.r3 : ACode := (.region none [⟨some 10, .move (.t 4), none⟩,
    ⟨some 11, .fieldAddr 0 (.t 1), none⟩,
    ⟨some 12, .load none (.t 11), none⟩,
    ⟨some 13, .bin .lss (.t 10) (.t 12), none⟩])
def A_impl_canonical.r5 : ACode := (.region (some 6) [⟨some 16, .load (some 33) (.t 1), none⟩,
    ⟨some 17, .load (some 33) (.t 1), none⟩,
    ⟨some 18, .move (.t 4), none⟩,
    ⟨some 19, .call 215 [(.t 17), (.t 18)], none⟩,
    ⟨some 20, .call 216 [(.t 16), (.t 19)], none⟩,
    ⟨some 5, .alloc ([.int .i64 0] ++ List.replicate 32 (.int .u8 0)), none⟩,
    ⟨none, .store 33 (.t 5) (.t 20), none⟩])
def A_impl_canonical.r6 : ACode := (.region none [⟨some 21, .load (some 33) (.t 5), none⟩,
    ⟨some 22, .load (some 33) (.t 3), none⟩,
    ⟨some 23, .call 217 [(.t 21), (.t 22)], none⟩,
    ⟨some 24, .bin .lss (.t 23) (.c (.int .i64 0)), none⟩])
def A_impl_canonical.r7 : ACode := (.region none [⟨some 25, .load (some 33) (.t 5), none⟩,
    ⟨none, .store 33 (.t 3) (.t 25), none⟩])
def A_impl_canonical.r4 : ACode := (.region none [⟨some 14, .move (.t 4), none⟩,
    ⟨some 15, .bin .add (.t 14) (.c (.int .i64 1)), none⟩,
    ⟨some 4, .move (.t 15), none⟩])
def A_impl_canonical.l0 : ACode := (.seq (.seq A_impl_canonical.r3 (.cond (.t 13) .skip (.exit 0))) (.seq (.block 1 (.seq A_impl_canonical.r5 (.seq A_impl_canonical.r6 (.cond (.t 24) A_impl_canonical.r7 .skip)))) A_impl_canonical.r4))
def A_impl_canonical.r8 : ACode := (.region none [⟨some 26, .load (some 33) (.t 3), none⟩,
    ⟨none, .store 33 (.t 2) (.t 26), none⟩])
def A_impl_canonical : AFunc := ⟨[.cell 2 (some 33)], (.seq A_impl_canonical.r0 (.seq A_impl_canonical.r1 (.seq (.seq A_impl_canonical.r2 (.block 0 (.loop A_impl_canonical.l0))) (.seq A_impl_canonical.r8 .ret))))⟩
/-! impl_face -/
def A_impl_face.r0 : ACode := (.region none [⟨some 1, .box (.t 0), none⟩,
    ⟨some 2, .alloc (List.replicate 16 (.int .u8 0)), none⟩])
def A_impl_face.r1 : ACode := (.region (some 10) [⟨some 3, .fieldAddr 1 (.t 1), none⟩,
    ⟨some 4, .load (some 16) (.t 3), none⟩,
    ⟨some 5, .fieldAddr 17 (.t 1), none⟩,
    ⟨some 6, .load (some 16) (.t 5), none⟩,
    ⟨some 7, .fieldAddr 0 (.t 1), none⟩,
    ⟨some 8, .load none (.t 7), none⟩,
    ⟨some 9, .call 213 [(.t 4), (.t 6), (.t 8)], none⟩,
    ⟨some 10, .fieldAddr 0 (.t 1), none⟩,
    ⟨some 11, .load none (.t 10), none⟩,
    ⟨some 12, .call 211 [(.t 9), (.t 11)], none⟩,
    ⟨none, .store 16 (.t 2) (.t 12), none⟩])
def A_impl_face : AFunc := ⟨[.cell 2 (some 16)], (.seq A_impl_face.r0 (.seq A_impl_face.r1 .ret))⟩
/-! spec_l01Next -/
def A_spec_l01Next.r0 : ACode := (.region none [⟨some 4, .move (.c (.int .i64 0)), none⟩])
def A_spec_l01Next.r1 : ACode := (.region none [⟨some 6, .move (.t 1), none⟩,
    ⟨some 7, .bin .lss (.t 6) (.c (.int .i64 1)), none⟩])
def A_spec_l01Next.r2 : ACode := (.region none [⟨some 4, .move (.c (.int .i64 0)), none⟩])
def A_spec_l01Next.r3 : ACode := (.region none [⟨some 8, .move (.t 0), none⟩,
    ⟨some 9, .move (.t 0), none⟩,
    ⟨some 10, .nilCheck (.t 9), none⟩,
    ⟨some 11, .fieldAddr 2 (.t 10), none⟩,
    ⟨some 12, .load none (.t 11), none⟩,
    ⟨some 13, .bin .mul (.t 12) (.c (.int .u64 6364136223846793005)), none⟩,
    ⟨some 14, .bin .add (.t 13) (.c (.int .u64 1442695040888963407)), none⟩,
    ⟨some 15, .nilCheck (.t 8), none⟩,
    ⟨some 16, .fieldAddr 2 (.t 15), none⟩,
    ⟨none, .store 1 (.t 16) (.t 14), none⟩])
def A_spec_l01Next.r4 : ACode := (.region none [⟨some 17, .move (.t 0), none⟩,
    ⟨some 18, .nilCheck (.t 17), none⟩,
    ⟨some 19, .fieldAddr 2 (.t 18), none⟩,
    ⟨some 20, .load none (.t 19), none⟩,
    ⟨some 21, .bin .shr (.t 20) (.c (.int .u64 33)), none⟩,
    ⟨some 22, .bin .and (.t 21) (.c (.int .u64 16777215)), none⟩,
    ⟨some 23, .conv .i64 (.t 22), none⟩,
    ⟨some 5, .move (.t 23), none⟩])
def A_spec_l01Next.r5 : ACode := (.region (some 10) [⟨some 24, .move (.t 0), none⟩,
    ⟨some 25, .nilCheck (.t 24), none⟩,
    ⟨some 26, .fieldAddr 1 (.t 25), none⟩,
    ⟨some 27, .load none (.t 26), none⟩,
    ⟨some 28, .move (.t 0), none⟩,
    ⟨some 29, .nilCheck (.t 28), none⟩,
    ⟨some 30, .fieldAddr 0 (.t 29), none⟩,
    ⟨some 31, .load none (.t 30), none⟩,
    ⟨some 32, .len (.t 31), none⟩,
    ⟨some 33, .bin .lss (.t 27) (.t 32), none⟩])
def A_spec_l01Next.r6 : ACode := (.region (some 14) [⟨some 34, .move (.t 5), none⟩,
    ⟨some 35, .move (.t 0), none⟩,
    ⟨some 36, .nilCheck (.t 35), none⟩,
    ⟨some 37, .fieldAddr 0 (.t 36), none⟩,
    ⟨some 38, .load none (.t 37), none⟩,
    ⟨some 39, .move (.t 0), none⟩,
    ⟨some 40, .nilCheck (.t 39), none⟩,
    ⟨some 41, .fieldAddr 1 (.t 40), none⟩,
    ⟨some 42, .load none (.t 41), none⟩,
    ⟨some 43, .indexAddr none 1 (.t 38) (.t 42), none⟩,
    ⟨some 44, .load none (.t 43), none⟩,
    ⟨some 45, .conv .i64 (.t 44), none⟩,
    ⟨some 46, .bin .add (.t 34) (.t 45), none⟩,
    ⟨some 5, .move (.t 46), none⟩])
def A_spec_l01Next.r7 : ACode := (.region none [⟨some 47, .move (.t 0), none⟩,
    ⟨some 48, .move (.t 0), none⟩,
    ⟨some 49, .nilCheck (.t 48), none⟩,
    ⟨some 50, .fieldAddr 1 (.t 49), none⟩,
    ⟨some 51, .load none (.t 50), none⟩,
    ⟨some 52, .bin .add (.t 51) (.c (.int .i64 1)), none⟩,
    ⟨some 53, .nilCheck (.t 47), none⟩,
    ⟨some 54, .fieldAddr 1 (.t 53), none⟩,
    ⟨none, .store 1 (.t 54) (.t 52), none⟩])
def A_spec_l01Next.r8 : ACode := (.region none [⟨some 55, .move (.t 5), none⟩,
    ⟨some 56, .move (.t 1), none⟩,
    ⟨some 57, .bin .rem (.t 55) (.t 56), none⟩,
    ⟨some 4, .move (.t 57), none⟩])
def A_spec_l01Next : AFunc := ⟨[.tmp 4], (.seq A_spec_l01Next.r0 (.seq (.seq A_spec_l01Next.r1 (.cond (.t 7) (.seq A_spec_l01Next.r2 .ret) .skip)) (.seq A_spec_l01Next.r3 (.seq A_spec_l01Next.r4 (.seq (.seq A_spec_l01Next.r5 (.cond (.t 33) (.seq A_spec_l01Next.r6 A_spec_l01Next.r7) .skip)) (.seq A_spec_l01Next.r8 .ret))))))⟩
/-! spec_l01Pick -/
def A_spec_l01Pick.r0 : ACode := (.region none [⟨some 4, .move (.c (.int .i64 0)), none⟩])
def A_spec_l01Pick.r1 : ACode := (.region none [⟨some 5, .move (.t 1), none⟩,
    ⟨some 6, .move (.t 0), none⟩,
    ⟨some 7, .move (.t 1), none⟩,
    ⟨some 8, .len (.t 7), none⟩,
    ⟨some 9, .call 102 [(.t 6), (.t 8)], none⟩,
    ⟨some 10, .indexAddr none 1 (.t 5) (.t 9), none⟩,
    ⟨some 11, .load none (.t 10), none⟩,
    ⟨some 4, .move (.t 11), none⟩])
def A_spec_l01Pick : AFunc := ⟨[.tmp 4], (.seq A_spec_l01Pick.r0 (.seq A_spec_l01Pick.r1 .ret))⟩
/-! impl_isSize -/
def A_impl_isSize.r0 : ACode := (.region none [⟨some 2, .move (.c (.bool false)), none⟩])
def A_impl_isSize.r1 : ACode := (.region none [⟨some 3, .move (.t 0), none⟩,
    ⟨some 4, .bin .geq (.t 3) (.c (.int .i64 1)), none⟩,
    ⟨some 5, .move (.t 4), none⟩,
    ⟨some 6, .move (.t 0), some (5, true)⟩,
    ⟨some 7, .bin .leq (.t 6) (.c (.int .i64 16)), some (5, true)⟩,
    ⟨some 8, .pick (.t 5) (.t 7) (.c (.bool false)), none⟩,
    ⟨some 2, .move (.t 8), none⟩])
def A_impl_isSize : AFunc := ⟨[.tmp 2], (.seq A_impl_isSize.r0 (.seq A_impl_isSize.r1 .ret))⟩
/-! spec_l01In -/
def A_spec_l01In.r0 : ACode := (.region none [⟨some 6, .move (.c (.bool false)), none⟩])
def A_spec_l01In.r1 : ACode := (.region none [⟨some 7, .move (.t 0), none⟩,
    ⟨some 8, .move (.t 1), none⟩,
    ⟨some 9, .bin .geq (.t 7) (.t 8), none⟩,
    ⟨some 10, .move (.t 9), none⟩,
    ⟨some 11, .move (.t 0), some (10, true)⟩,
    ⟨some 12, .move (.t 2), some (10, true)⟩,
    ⟨some 13, .bin .leq (.t 11) (.t 12), some (10, true)⟩,
    ⟨some 14, .pick (.t 10) (.t 13) (.c (.bool false)), none⟩,
    ⟨some 6, .move (.t 14), none⟩])
def A_spec_l01In : AFunc := ⟨[.tmp 6], (.seq A_spec_l01In.r0 (.seq A_spec_l01In.r1 .ret))⟩
/-! spec_l02Some -/
def A_spec_l02Some.r0 : ACode := (.region none [⟨some 2, .alloc ([.int .i64 0] ++ List.replicate 32 (.int .u8 0)), none⟩])
def A_spec_l02Some.r1 : ACode := (.region none [⟨some 4, .move (.t 0), none⟩,
    ⟨some 5, .call 102 [(.t 4), (.c (.int .i64 3))], none⟩,
    ⟨some 6, .bin .eql (.t 5) (.c (.int .i64 0)), none⟩])
def A_spec_l02Some.r2 : ACode := (.region none [⟨some 7, .move (.t 0), none⟩,
    ⟨some 8, .call 373 [(.t 7)], none⟩,
    ⟨some 3, .alloc ([.int .i64 0] ++ List.replicate 32 (.int .u8 0)), none⟩,
    ⟨none, .store 33 (.t 3) (.t 8), none⟩])
def A_spec_l02Some.r3 : ACode := (.region (some 4) [⟨some 9, .load (some 33) (.t 3), none⟩,
    ⟨some 10, .move (.t 0), none⟩,
    ⟨some 11, .fieldAddr 0 (.t 3), none⟩,
    ⟨some 12, .load none (.t 11), none⟩,
    ⟨some 13, .callF 356 [(.t 10), (.t 12)] [(.t 3)], none⟩,
    ⟨some 14, .call 357 [(.t 9), (.t 13)], none⟩,
    ⟨none, .store 33 (.t 2) (.t 14), none⟩])
def A_spec_l02Some.r4 : ACode := (.region none [⟨some 15, .move (.t 0), none⟩,
    ⟨some 16, .move (.t 0), none⟩,
    ⟨some 17, .buildSlice 1 4 [.int .i64 0] [(0, 1, (.c (.int .i64 4))), (1, 1, (.c (.int .i64 6))), (2, 1, (.c (.int .i64 9))), (3, 1, (.c (.int .i64 16)))], none⟩,
    ⟨some 18, .call 98 [(.t 16), (.t 17)], none⟩,
    ⟨some 19, .call 374 [(.t 15), (.t 18)], none⟩,
    ⟨none, .store 33 (.t 2) (.t 19), none⟩])
def A_spec_l02Some : AFunc := ⟨[.cell 2 (some 33)], (.seq A_spec_l02Some.r0 (.seq (.seq A_spec_l02Some.r1 (.cond (.t 6) (.seq A_spec_l02Some.r2 (.seq A_spec_l02Some.r3 .ret)) .skip)) (.seq A_spec_l02Some.r4 .ret)))⟩
/-! spec_l01DrawPlaces -/
def A_spec_l01DrawPlaces.r0 : ACode := (.region none [⟨some 4, .alloc (List.replicate 16 (.int .u8 0)), none⟩])
def A_spec_l01DrawPlaces.r1 : ACode := (.region none [⟨some 9, .move (.t 1), none⟩,
    ⟨some 10, .call 364 [(.t 9)], none⟩,
    ⟨some 5, .alloc (List.replicate 16 (.int .u8 0)), none⟩,
    ⟨none, .store 16 (.t 5) (.t 10), none⟩])
def A_spec_l01DrawPlaces.r2 : ACode := (.region none [⟨some 11, .move (.t 0), none⟩,
    ⟨some 12, .call 102 [(.t 11), (.c (.int .i64 8))], none⟩,
    ⟨some 13, .bin .eql (.t 12) (.c (.int .i64 0)), none⟩])
def A_spec_l01DrawPlaces.r3 : ACode := (.region none [⟨some 14, .load (some 16) (.t 5), none⟩,
    ⟨none, .store 16 (.t 4) (.t 14), none⟩])
def A_spec_l01DrawPlaces.r4 : ACode := (.region none [⟨some 15, .move (.t 1), none⟩,
    ⟨some 16, .bin .sub (.t 15) (.c (.int .i64 1)), none⟩,
    ⟨some 6, .move (.t 16), none⟩])
def A_spec_l01DrawPlaces.r5 : ACode := (.region none [⟨some 17, .move (.t 6), none⟩,
    ⟨some 18, .bin .gtr (.t 17) (.c (.int .i64 0)), none⟩])
def A_spec_l01DrawPlaces.r7 : ACode := (.region none [⟨some 21, .move (.t 0), none⟩,
    ⟨some 22, .move (.t 6), none⟩,
    ⟨some 23, .bin .add (.t 22) (.c (.int .i64 1)), none⟩,
    ⟨some 24, .call 102 [(.t 21), (.t 23)], none⟩,
    ⟨some 7, .move (.t 24), none⟩])
def A_spec_l01DrawPlaces.r8 : ACode := (.region none [⟨some 25, .move (.t 6), none⟩,
    ⟨some 26, .indexAddr (some 16) 1 (.t 5) (.t 25), none⟩,
    ⟨some 27, .load none (.t 26), none⟩,
    ⟨some 8, .move (.t 27), none⟩])
def A_spec_l01DrawPlaces.r9 : ACode := (.region none [⟨some 28, .move (.t 6), none⟩,
    ⟨some 29, .move (.t 7), none⟩,
    ⟨some 30, .indexAddr (some 16) 1 (.t 5) (.t 29), none⟩,
    ⟨some 31, .load none (.t 30), none⟩,
    ⟨some 32, .indexAddr (some 16) 1 (.t 5) (.t 28), none⟩,
    ⟨none, .store 1 (.t 32) (.t 31), none⟩])
def A_spec_l01DrawPlaces.r10 : ACode := (.region none [⟨some 33, .move (.t 7), none⟩,
    ⟨some 34, .move (.t 8), none⟩,
    ⟨some 35, .indexAddr (some 16) 1 (.t 5) (.t 33), none⟩,
    ⟨none, .store 1 (.t 35) (.t 34), none⟩])
def A_spec_l01DrawPlaces.r6 : ACode := (.region none [⟨some 19, .move (.t 6), none⟩,
    ⟨some 20, .bin .sub (.t 19) (.c (.int .i64 1)), none⟩,
    ⟨some 6, .move (.t 20), none⟩])
def A_spec_l01DrawPlaces.l0 : ACode := (.seq (.seq A_spec_l01DrawPlaces.r5 (.cond (.t 18) .skip (.exit 0))) (.seq (.block 1 (.seq A_spec_l01DrawPlaces.r7 (.seq A_spec_l01DrawPlaces.r8 (.seq A_spec_l01DrawPlaces.r9 A_spec_l01DrawPlaces.r10)))) A_spec_l01DrawPlaces.r6))
def A_spec_l01DrawPlaces.r11 : ACode := (.region none [⟨some 36, .load (some 16) (.t 5), none⟩,
    ⟨none, .store 16 (.t 4) (.t 36), none⟩])
def A_spec_l01DrawPlaces : AFunc := ⟨[.cell 4 (some 16)], (.seq A_spec_l01DrawPlaces.r0 (.seq A_spec_l01DrawPlaces.r1 (.seq (.seq A_spec_l01DrawPlaces.r2 (.cond (.t 13) (.seq A_spec_l01DrawPlaces.r3 .ret) .skip)) (.seq (.seq A_spec_l01DrawPlaces.r4 (.block 0 (.loop A_spec_l01DrawPlaces.l0))) (.seq A_spec_l01DrawPlaces.r11 .ret)))))⟩
/-! impl_IsPermutation -/
def A_impl_IsPermutation.r0 : ACode := (.region none [⟨some 2, .box (.t 0), none⟩,
    ⟨some 4, .move (.c (.bool false)), none⟩])
def A_impl_IsPermutation.r1 : ACode := (.region none [⟨some 8, .move (.t 1), none⟩,
    ⟨some 9, .call 220 [(.t 8)], none⟩,
    ⟨some 10, .not (.t 9), none⟩])
def A_impl_IsPermutation.r2 : ACode := (.region none [⟨some 4, .move (.c (.bool false)), none⟩])
def A_impl_IsPermutation.r3 : ACode := (.region none [⟨some 11, .build (List.replicate 16 (.bool false)) [], none⟩,
    ⟨some 5, .alloc (List.replicate 16 (.bool false)), none⟩,
    ⟨none, .store 16 (.t 5) (.t 11), none⟩])
def A_impl_IsPermutation.r4 : ACode := (.region none [⟨some 12, .load (some 16) (.t 2), none⟩,
    ⟨some 13, .move (.c (.int .i64 0)), none⟩])
def A_impl_IsPermutation.r5 : ACode := (.region none [⟨some 14, .bin .lss (.t 13) (.c (.int .i64 16)), none⟩])
def A_impl_IsPermutation.r6 : ACode := (.region none [⟨some 15, .move (.t 13), none⟩,
    ⟨some 16, .index 16 1 none (.t 12) (.t 13), none⟩,
    ⟨some 6, .move (.t 15), none⟩,
    ⟨some 7, .move (.t 16), none⟩])
def A_impl_IsPermutation.r7 : ACode := (.region none [⟨some 17, .move (.t 6), none⟩,
    ⟨some 18, .move (.t 1), none⟩,
    ⟨some 19, .bin .geq (.t 17) (.t 18), none⟩])
def A_impl_IsPermutation.r8 : ACode := (.region none [⟨some 20, .move (.t 7), none⟩,
    ⟨some 21, .bin .neq (.t 20) (.c (.int .u8 0)), none⟩])
def A_impl_IsPermutation.r9 : ACode := (.region none [⟨some 4, .move (.c (.bool false)), none⟩])
def A_impl_IsPermutation.r10 : ACode := (.region none [⟨some 22, .move (.t 7), none⟩,
    ⟨some 23, .conv .i64 (.t 22), none⟩,
    ⟨some 24, .move (.t 1), none⟩,
    ⟨some 25, .bin .geq (.t 23) (.t 24), none⟩,
    ⟨some 26, .move (.t 25), none⟩,
    ⟨some 27, .move (.t 7), some (26, false)⟩,
    ⟨some 28, .indexAddr (some 16) 1 (.t 5) (.t 27), some (26, false)⟩,
    ⟨some 29, .load none (.t 28), some (26, false)⟩,
    ⟨some 30, .pick (.t 26) (.c (.bool true)) (.t 29), none⟩])
def A_impl_IsPermutation.r11 : ACode := (.region none [⟨some 4, .move (.c (.bool false)), none⟩])
def A_impl_IsPermutation.r12 : ACode := (.region none [⟨some 31, .move (.t 7), none⟩,
    ⟨some 32, .indexAddr (some 16) 1 (.t 5) (.t 31), none⟩,
    ⟨none, .store 1 (.t 32) (.c (.bool true)), none⟩])
def A_impl_IsPermutation.r13 : ACode := (.region none [⟨some 33, .bin .add (.t 13) (.c (.int .i64 1)), none⟩,
    ⟨some 13, .move (.t 33), none⟩])
def A_impl_IsPermutation.l0 : ACode := (.seq A_impl_IsPermutation.r5 (.seq (.cond (.t 14) .skip (.exit 0)) (.seq (.block 1 (.seq A_impl_IsPermutation.r6 (.seq (.seq A_impl_IsPermutation.r7 (.cond (.t 19) (.seq (.seq A_impl_IsPermutation.r8 (.cond (.t 21) (.seq A_impl_IsPermutation.r9 .ret) .skip)) (.exit 1)) .skip)) (.seq (.seq A_impl_IsPermutation.r10 (.cond (.t 30) (.seq A_impl_IsPermutation.r11 .ret) .skip)) A_impl_IsPermutation.r12)))) A_impl_IsPermutation.r13)))
def A_impl_IsPermutation.r14 : ACode := (.region none [⟨some 4, .move (.c (.bool true)), none⟩])
def A_impl_IsPermutation : AFunc := ⟨[.tmp 4], (.seq A_impl_IsPermutation.r0 (.seq (.seq A_impl_IsPermutation.r1 (.cond (.t 10) (.seq A_impl_IsPermutation.r2 .ret) .skip)) (.seq A_impl_IsPermutation.r3 (.seq (.seq A_impl_IsPermutation.r4 (.block 0 (.loop A_impl_IsPermutation.l0))) (.seq A_impl_IsPermutation.r14 .ret)))))⟩
/-! impl_rename -/
def A_impl_rename.r0 : ACode := (.region none [⟨some 2, .box (.t 0), none⟩,
    ⟨some 3, .box (.t 1), none⟩,
    ⟨some 4, .alloc ([.int .i64 0] ++ List.replicate 32 (.int .u8 0)), none⟩])
def A_impl_rename.r1 : ACode := (.region none [⟨some 7, .fieldAddr 0 (.t 2), none⟩,
    ⟨some 8, .load none (.t 7), none⟩,
    ⟨some 9, .build ([.int .i64 0] ++ List.replicate 32 (.int .u8 0)) [(0, 1, (.t 8))], none⟩,
    ⟨some 5, .alloc ([.int .i64 0] ++ List.replicate 32 (.int .u8 0)), none⟩,
    ⟨none, .store 33 (.t 5) (.t 9), none⟩])
def A_impl_rename.r2 : ACode := (.region none [⟨some 10, .fieldAddr 0 (.t 2), none⟩,
    ⟨some 11, .load none (.t 10), none⟩,
    ⟨some 12, .move (.c (.int .i64 0)), none⟩])
def A_impl_rename.r3 : ACode := (.region none [⟨some 13, .bin .lss (.t 12) (.t 11), none⟩])
def A_impl_rename.r4 : ACode := (.region none [⟨some 14, .move (.t 12), none⟩,
    ⟨some 6, .move (.t 14), none⟩])
def A_impl_rename.r5 : ACode := (.region (some 11) [⟨some 15, .move (.t 6), none⟩,
    ⟨some 16, .indexAddr (some 16) 1 (.t 3) (.t 15), none⟩,
    ⟨some 17, .load none (.t 16), none⟩,
    ⟨some 18, .move (.t 6), none⟩,
    ⟨some 19, .fieldAddr 1 (.t 2), none⟩,
    ⟨some 20, .indexAddr (some 16) 1 (.t 19) (.t 18), none⟩,
    ⟨some 21, .load none (.t 20), none⟩,
    ⟨some 22, .indexAddr (some 16) 1 (.t 3) (.t 21), none⟩,
    ⟨some 23, .load none (.t 22), none⟩,
    ⟨some 24, .fieldAddr 1 (.t 5), none⟩,
    ⟨some 25, .indexAddr (some 16) 1 (.t 24) (.t 17), none⟩,
    ⟨none, .store 1 (.t 25) (.t 23), none⟩])
def A_impl_rename.r6 : ACode := (.region (some 11) [⟨some 26, .move (.t 6), none⟩,
    ⟨some 27, .indexAddr (some 16) 1 (.t 3) (.t 26), none⟩,
    ⟨some 28, .load none (.t 27), none⟩,
    ⟨some 29, .move (.t 6), none⟩,
    ⟨some 30, .fieldAddr 17 (.t 2), none⟩,
    ⟨some 31, .indexAddr (some 16) 1 (.t 30) (.t 29), none⟩,
    ⟨some 32, .load none (.t 31), none⟩,
    ⟨some 33, .indexAddr (some 16) 1 (.t 3) (.t 32), none⟩,
    ⟨some 34, .load none (.t 33), none⟩,
    ⟨some 35, .fieldAddr 17 (.t 5), none⟩,
    ⟨some 36, .indexAddr (some 16) 1 (.t 35) (.t 28), none⟩,
    ⟨none, .store 1 (.t 36) (.t 34), none⟩])
def A_impl_rename.r7 : ACode := (.region none [⟨some 37, .bin .add (.t 12) (.c (.int .i64 1)), none⟩,
    ⟨some 12, .move (.t 37), none⟩])
def A_impl_rename.l0 : ACode := (.seq A_impl_rename.r3 (.seq (.cond (.t 13) .skip (.exit 0)) (.seq (.block 1 (.seq A_impl_rename.r4 (.seq A_impl_rename.r5 A_impl_rename.r6))) A_impl_rename.r7)))
def A_impl_rename.r8 : ACode := (.region none [⟨some 38, .load (some 33) (.t 5), none⟩,
    ⟨none, .store 33 (.t 4) (.t 38), none⟩])
def A_impl_rename : AFunc := ⟨[.cell 4 (some 33)], (.seq A_impl_rename.r0 (.seq A_impl_rename.r1 (.seq (.seq A_impl_rename.r2 (.block 0 (.loop A_impl_rename.l0))) (.seq A_impl_rename.r8 .ret))))⟩
/-! spec_l01Perm -/
def A_spec_l01Perm.r0 : ACode := (.region none [⟨some 2, .box (.t 0), none⟩,
    ⟨some 4, .move (.c (.bool false)), none⟩])
def A_spec_l01Perm.r1 : ACode := (.region none [⟨some 7, .move (.t 1), none⟩,
    ⟨some 8, .call 58 [(.t 7), (.c (.int .i64 1)), (.c (.int .i64 16))], none⟩,
    ⟨some 9, .not (.t 8), none⟩])
def A_spec_l01Perm.r2 : ACode := (.region none [⟨some 4, .move (.c (.bool false)), none⟩])
def A_spec_l01Perm.r3 : ACode := (.region none [⟨some 10, .build (List.replicate 16 (.bool false)) [], none⟩,
    ⟨some 5, .alloc (List.replicate 16 (.bool false)), none⟩,
    ⟨none, .store 16 (.t 5) (.t 10), none⟩])
def A_spec_l01Perm.r4 : ACode := (.region none [⟨some 6, .move (.c (.int .i64 0)), none⟩])
def A_spec_l01Perm.r5 : ACode := (.region none [⟨some 11, .move (.t 6), none⟩,
    ⟨some 12, .bin .lss (.t 11) (.c (.int .i64 16)), none⟩])
def A_spec_l01Perm.r8 : ACode := (.region none [⟨some 20, .move (.t 6), none⟩,
    ⟨some 21, .move (.t 1), none⟩,
    ⟨some 22, .bin .geq (.t 20) (.t 21), none⟩,
    ⟨some 19, .move (.t 22), none⟩])
def A_spec_l01Perm.r9 : ACode := (.region none [⟨some 23, .move (.t 6), none⟩,
    ⟨some 24, .indexAddr (some 16) 1 (.t 2) (.t 23), none⟩,
    ⟨some 25, .load none (.t 24), none⟩,
    ⟨some 26, .bin .neq (.t 25) (.c (.int .u8 0)), none⟩])
def A_spec_l01Perm.r10 : ACode := (.region none [⟨some 4, .move (.c (.bool false)), none⟩])
def A_spec_l01Perm.r11 : ACode := (.region none [⟨some 28, .move (.t 6), none⟩,
    ⟨some 29, .indexAddr (some 16) 1 (.t 2) (.t 28), none⟩,
    ⟨some 30, .load none (.t 29), none⟩,
    ⟨some 31, .conv .i64 (.t 30), none⟩,
    ⟨some 32, .move (.t 1), none⟩,
    ⟨some 33, .bin .geq (.t 31) (.t 32), none⟩,
    ⟨some 34, .move (.t 33), none⟩,
    ⟨some 35, .move (.t 6), some (34, false)⟩,
    ⟨some 36, .indexAddr (some 16) 1 (.t 2) (.t 35), some (34, false)⟩,
    ⟨some 37, .load none (.t 36), some (34, false)⟩,
    ⟨some 38, .indexAddr (some 16) 1 (.t 5) (.t 37), some (34, false)⟩,
    ⟨some 39, .load none (.t 38), some (34, false)⟩,
    ⟨some 40, .pick (.t 34) (.c (.bool true)) (.t 39), none⟩,
    ⟨some 27, .move (.t 40), none⟩])
def A_spec_l01Perm.r12 : ACode := (.region none [⟨some 4, .move (.c (.bool false)), none⟩])
def A_spec_l01Perm.r7 : ACode := (.region none [⟨some 15, .move (.t 6), none⟩,
    ⟨some 16, .indexAddr (some 16) 1 (.t 2) (.t 15), none⟩,
    ⟨some 17, .load none (.t 16), none⟩,
    ⟨some 18, .indexAddr (some 16) 1 (.t 5) (.t 17), none⟩,
    ⟨none, .store 1 (.t 18) (.c (.bool true)), none⟩])
def A_spec_l01Perm.r6 : ACode := (.region none [⟨some 13, .move (.t 6), none⟩,
    ⟨some 14, .bin .add (.t 13) (.c (.int .i64 1)), none⟩,
    ⟨some 6, .move (.t 14), none⟩])
def A_spec_l01Perm.l0 : ACode := (.seq (.seq A_spec_l01Perm.r5 (.cond (.t 12) .skip (.exit 0))) (.seq (.block 1 (.block 2 (.seq A_spec_l01Perm.r8 (.cond (.t 19) (.seq A_spec_l01Perm.r9 (.cond (.t 26) (.seq A_spec_l01Perm.r10 .ret) .skip)) (.seq A_spec_l01Perm.r11 (.cond (.t 27) (.seq A_spec_l01Perm.r12 .ret) A_spec_l01Perm.r7)))))) A_spec_l01Perm.r6))
def A_spec_l01Perm.r13 : ACode := (.region none [⟨some 4, .move (.c (.bool true)), none⟩])
def A_spec_l01Perm : AFunc := ⟨[.tmp 4], (.seq A_spec_l01Perm.r0 (.seq (.seq A_spec_l01Perm.r1 (.cond (.t 9) (.seq A_spec_l01Perm.r2 .ret) .skip)) (.seq A_spec_l01Perm.r3 (.seq (.seq A_spec_l01Perm.r4 (.block 0 (.loop A_spec_l01Perm.l0))) (.seq A_spec_l01Perm.r13 .ret)))))⟩
/-! spec_l02Rename -/
def A_spec_l02Rename.r0 : ACode := (.region none [⟨some 2, .box (.t 0), none⟩,
    ⟨some 3, .box (.t 1), none⟩,
    ⟨some 4, .alloc ([.int .i64 0] ++ List.replicate 32 (.int .u8 0)), none⟩])
def A_spec_l02Rename.r1 : ACode := (.region none [⟨some 7, .fieldAddr 0 (.t 2), none⟩,
    ⟨some 8, .load none (.t 7), none⟩,
    ⟨some 9, .build ([.int .i64 0] ++ List.replicate 32 (.int .u8 0)) [(0, 1, (.t 8))], none⟩,
    ⟨some 5, .alloc ([.int .i64 0] ++ List.replicate 32 (.int .u8 0)), none⟩,
    ⟨none, .store 33 (.t 5) (.t 9), none⟩])
def A_spec_l02Rename.r2 : ACode := (.region none [⟨some 6, .move (.c (.int .i64 0)), none⟩])
def A_spec_l02Rename.r3 : ACode := (.region none [⟨some 10, .move (.t 6), none⟩,
    ⟨some 11, .fieldAddr 0 (.t 2), none⟩,
    ⟨some 12, .load none (.t 11), none⟩,
    ⟨some 13, .bin .lss (.t 10) (.t 12), none⟩])
def A_spec_l02Rename.r5 : ACode := (.region (some 11) [⟨some 16, .move (.t 6), none⟩,
    ⟨some 17, .indexAddr (some 16) 1 (.t 3) (.t 16), none⟩,
    ⟨some 18, .load none (.t 17), none⟩,
    ⟨some 19, .move (.t 6), none⟩,
    ⟨some 20, .fieldAddr 1 (.t 2), none⟩,
    ⟨some 21, .indexAddr (some 16) 1 (.t 20) (.t 19), none⟩,
    ⟨some 22, .load none (.t 21), none⟩,
    ⟨some 23, .indexAddr (some 16) 1 (.t 3) (.t 22), none⟩,
    ⟨some 24, .load none (.t 23), none⟩,
    ⟨some 25, .fieldAddr 1 (.t 5), none⟩,
    ⟨some 26, .indexAddr (some 16) 1 (.t 25) (.t 18), none⟩,
    ⟨none, .store 1 (.t 26) (.t 24), none⟩])
def A_spec_l02Rename.r6 : ACode := (.region (some 11) [⟨some 27, .move (.t 6), none⟩,
    ⟨some 28, .indexAddr (some 16) 1 (.t 3) (.t 27), none⟩,
    ⟨some 29, .load none (.t 28), none⟩,
    ⟨some 30, .move (.t 6), none⟩,
    ⟨some 31, .fieldAddr 17 (.t 2), none⟩,
    ⟨some 32, .indexAddr (some 16) 1 (.t 31) (.t 30), none⟩,
    ⟨some 33, .load none (.t 32), none⟩,
    ⟨some 34, .indexAddr (some 16) 1 (.t 3) (.t 33), none⟩,
    ⟨some 35, .load none (.t 34), none⟩,
    ⟨some 36, .fieldAddr 17 (.t 5), none⟩,
    ⟨some 37, .indexAddr (some 16) 1 (.t 36) (.t 29), none⟩,
    ⟨none, .store 1 (.t 37) (.t 35), none⟩])
def A_spec_l02Rename.r4 : ACode := (.region none [⟨some 14, .move (.t 6), none⟩,
    ⟨some 15, .bin .add (.t 14) (.c (.int .i64 1)), none⟩,
    ⟨some 6, .move (.t 15), none⟩])
def A_spec_l02Rename.l0 : ACode := (.seq (.seq A_spec_l02Rename.r3 (.cond (.t 13) .skip (.exit 0))) (.seq (.block 1 (.seq A_spec_l02Rename.r5 A_spec_l02Rename.r6)) A_spec_l02Rename.r4))
def A_spec_l02Rename.r7 : ACode := (.region none [⟨some 38, .load (some 33) (.t 5), none⟩,
    ⟨none, .store 33 (.t 4) (.t 38), none⟩])
def A_spec_l02Rename : AFunc := ⟨[.cell 4 (some 33)], (.seq A_spec_l02Rename.r0 (.seq A_spec_l02Rename.r1 (.seq (.seq A_spec_l02Rename.r2 (.block 0 (.loop A_spec_l02Rename.l0))) (.seq A_spec_l02Rename.r7 .ret))))⟩
/-! impl_isDart -/
def A_impl_isDart.r0 : ACode := (.region none [⟨some 2, .box (.t 0), none⟩,
    ⟨some 4, .move (.c (.bool false)), none⟩])
def A_impl_isDart.r1 : ACode := (.region none [⟨some 7, .move (.t 1), none⟩,
    ⟨some 8, .len (.t 7), none⟩,
    ⟨some 9, .move (.c (.int .i64 0)), none⟩])
def A_impl_isDart.r2 : ACode := (.region none [⟨some 10, .bin .lss (.t 9) (.t 8), none⟩])
def A_impl_isDart.r3 : ACode := (.region none [⟨some 11, .indexAddr none 1 (.t 7) (.t 9), none⟩,
    ⟨some 12, .load none (.t 11), none⟩,
    ⟨some 6, .move (.t 12), none⟩])
def A_impl_isDart.r4 : ACode := (.region none [⟨some 13, .move (.t 6), none⟩,
    ⟨some 14, .bin .lss (.t 13) (.c (.int .i64 0)), none⟩,
    ⟨some 15, .move (.t 14), none⟩,
    ⟨some 16, .move (.t 6), some (15, false)⟩,
    ⟨some 17, .fieldAddr 0 (.t 2), some (15, false)⟩,
    ⟨some 18, .load none (.t 17), some (15, false)⟩,
    ⟨some 19, .bin .geq (.t 16) (.t 18), some (15, false)⟩,
    ⟨some 20, .pick (.t 15) (.c (.bool true)) (.t 19), none⟩])
def A_impl_isDart.r5 : ACode := (.region none [⟨some 4, .move (.c (.bool false)), none⟩])
def A_impl_isDart.r6 : ACode := (.region none [⟨some 21, .bin .add (.t 9) (.c (.int .i64 1)), none⟩,
    ⟨some 9, .move (.t 21), none⟩])
def A_impl_isDart.l0 : ACode := (.seq A_impl_isDart.r2 (.seq (.cond (.t 10) .skip (.exit 0)) (.seq (.block 1 (.seq A_impl_isDart.r3 (.seq A_impl_isDart.r4 (.cond (.t 20) (.seq A_impl_isDart.r5 .ret) .skip)))) A_impl_isDart.r6)))
def A_impl_isDart.r7 : ACode := (.region none [⟨some 4, .move (.c (.bool true)), none⟩])
def A_impl_isDart : AFunc := ⟨[.tmp 4], (.seq A_impl_isDart.r0 (.seq (.seq A_impl_isDart.r1 (.block 0 (.loop A_impl_isDart.l0))) (.seq A_impl_isDart.r7 .ret)))⟩
/-! impl_naming -/
def A_impl_naming.r0 : ACode := (.region none [⟨some 2, .box (.t 0), none⟩,
    ⟨some 4, .alloc (List.replicate 16 (.int .u8 0)), none⟩])
def A_impl_naming.r1 : ACode := (.region none [⟨some 8, .build (List.replicate 16 (.int .u8 0)) [], none⟩,
    ⟨some 5, .alloc (List.replicate 16 (.int .u8 0)), none⟩,
    ⟨none, .store 16 (.t 5) (.t 8), none⟩])
def A_impl_naming.r2 : ACode := (.region none [⟨some 9, .load (some 33) (.t 2), none⟩,
    ⟨some 10, .move (.t 1), none⟩,
    ⟨some 11, .call 221 [(.t 9), (.t 10)], none⟩,
    ⟨some 12, .len (.t 11), none⟩,
    ⟨some 13, .move (.c (.int .i64 0)), none⟩])
def A_impl_naming.r3 : ACode := (.region none [⟨some 14, .bin .lss (.t 13) (.t 12), none⟩])
def A_impl_naming.r4 : ACode := (.region none [⟨some 15, .move (.t 13), none⟩,
    ⟨some 16, .indexAddr none 1 (.t 11) (.t 13), none⟩,
    ⟨some 17, .load none (.t 16), none⟩,
    ⟨some 6, .move (.t 15), none⟩,
    ⟨some 7, .move (.t 17), none⟩])
def A_impl_naming.r5 : ACode := (.region none [⟨some 18, .move (.t 7), none⟩,
    ⟨some 19, .move (.t 6), none⟩,
    ⟨some 20, .conv .u8 (.t 19), none⟩,
    ⟨some 21, .indexAddr (some 16) 1 (.t 5) (.t 18), none⟩,
    ⟨none, .store 1 (.t 21) (.t 20), none⟩])
def A_impl_naming.r6 : ACode := (.region none [⟨some 22, .bin .add (.t 13) (.c (.int .i64 1)), none⟩,
    ⟨some 13, .move (.t 22), none⟩])
def A_impl_naming.l0 : ACode := (.seq A_impl_naming.r3 (.seq (.cond (.t 14) .skip (.exit 0)) (.seq (.block 1 (.seq A_impl_naming.r4 A_impl_naming.r5)) A_impl_naming.r6)))
def A_impl_naming.r7 : ACode := (.region none [⟨some 23, .load (some 16) (.t 5), none⟩,
    ⟨none, .store 16 (.t 4) (.t 23), none⟩])
def A_impl_naming : AFunc := ⟨[.cell 4 (some 16)], (.seq A_impl_naming.r0 (.seq A_impl_naming.r1 (.seq (.seq A_impl_naming.r2 (.block 0 (.loop A_impl_naming.l0))) (.seq A_impl_naming.r7 .ret))))⟩
/-! spec_l02Naming -/
def A_spec_l02Naming.r0 : ACode := (.region none [⟨some 2, .box (.t 0), none⟩,
    ⟨some 4, .alloc (List.replicate 16 (.int .u8 0)), none⟩])
def A_spec_l02Naming.r1 : ACode := (.region none [⟨some 12, .build (List.replicate 16 (.int .u8 0)) [], none⟩,
    ⟨some 13, .build (List.replicate 16 (.bool false)) [], none⟩,
    ⟨some 14, .move (.t 1), none⟩,
    ⟨some 15, .conv .u8 (.t 14), none⟩,
    ⟨some 16, .buildSlice 1 1 [.int .u8 0] [(0, 1, (.t 15))], none⟩,
    ⟨some 5, .alloc (List.replicate 16 (.int .u8 0)), none⟩,
    ⟨some 6, .alloc (List.replicate 16 (.bool false)), none⟩,
    ⟨none, .store 16 (.t 5) (.t 12), none⟩,
    ⟨none, .store 16 (.t 6) (.t 13), none⟩,
    ⟨some 7, .move (.t 16), none⟩])
def A_spec_l02Naming.r2 : ACode := (.region none [⟨some 17, .move (.t 1), none⟩,
    ⟨some 18, .indexAddr (some 16) 1 (.t 6) (.t 17), none⟩,
    ⟨none, .store 1 (.t 18) (.c (.bool true)), none⟩])
def A_spec_l02Naming.r3 : ACode := (.region none [⟨some 8, .move (.c (.int .i64 0)), none⟩])
def A_spec_l02Naming.r4 : ACode := (.region none [⟨some 19, .move (.t 8), none⟩,
    ⟨some 20, .move (.t 7), none⟩,
    ⟨some 21, .len (.t 20), none⟩,
    ⟨some 22, .bin .lss (.t 19) (.t 21), none⟩])
def A_spec_l02Naming.r6 : ACode := (.region none [⟨some 25, .move (.t 7), none⟩,
    ⟨some 26, .move (.t 8), none⟩,
    ⟨some 27, .indexAddr none 1 (.t 25) (.t 26), none⟩,
    ⟨some 28, .load none (.t 27), none⟩,
    ⟨some 9, .move (.t 28), none⟩])
def A_spec_l02Naming.r7 : ACode := (.region none [⟨some 29, .move (.t 9), none⟩,
    ⟨some 30, .move (.t 8), none⟩,
    ⟨some 31, .conv .u8 (.t 30), none⟩,
    ⟨some 32, .indexAddr (some 16) 1 (.t 5) (.t 29), none⟩,
    ⟨none, .store 1 (.t 32) (.t 31), none⟩])
def A_spec_l02Naming.r8 : ACode := (.region none [⟨some 10, .move (.c (.int .i64 0)), none⟩])
def A_spec_l02Naming.r9 : ACode := (.region none [⟨some 33, .move (.t 10), none⟩,
    ⟨some 34, .bin .lss (.t 33) (.c (.int .i64 2)), none⟩])
def A_spec_l02Naming.r11 : ACode := (.region none [⟨some 37, .move (.t 9), none⟩,
    ⟨some 38, .fieldAddr 1 (.t 2), none⟩,
    ⟨some 39, .indexAddr (some 16) 1 (.t 38) (.t 37), none⟩,
    ⟨some 40, .load none (.t 39), none⟩,
    ⟨some 11, .move (.t 40), none⟩])
def A_spec_l02Naming.r12 : ACode := (.region none [⟨some 41, .move (.t 10), none⟩,
    ⟨some 42, .bin .eql (.t 41) (.c (.int .i64 1)), none⟩])
def A_spec_l02Naming.r13 : ACode := (.region none [⟨some 43, .move (.t 9), none⟩,
    ⟨some 44, .fieldAddr 17 (.t 2), none⟩,
    ⟨some 45, .indexAddr (some 16) 1 (.t 44) (.t 43), none⟩,
    ⟨some 46, .load none (.t 45), none⟩,
    ⟨some 11, .move (.t 46), none⟩])
def A_spec_l02Naming.r14 : ACode := (.region none [⟨some 47, .move (.t 11), none⟩,
    ⟨some 48, .indexAddr (some 16) 1 (.t 6) (.t 47), none⟩,
    ⟨some 49, .load none (.t 48), none⟩,
    ⟨some 50, .not (.t 49), none⟩])
def A_spec_l02Naming.r15 : ACode := (.region none [⟨some 51, .move (.t 11), none⟩,
    ⟨some 52, .indexAddr (some 16) 1 (.t 6) (.t 51), none⟩,
    ⟨none, .store 1 (.t 52) (.c (.bool true)), none⟩])
def A_spec_l02Naming.r16 : ACode := (.region none [⟨some 53, .move (.t 7), none⟩,
    ⟨some 54, .move (.t 11), none⟩,
    ⟨some 55, .buildSlice 1 1 [.int .u8 0] [(0, 1, (.t 54))], none⟩,
    ⟨some 56, .append 1 1 (.t 53) (.t 55), none⟩,
    ⟨some 7, .move (.t 56), none⟩])
def A_spec_l02Naming.r10 : ACode := (.region none [⟨some 35, .move (.t 10), none⟩,
    ⟨some 36, .bin .add (.t 35) (.c (.int .i64 1)), none⟩,
    ⟨some 10, .move (.t 36), none⟩])
def A_spec_l02Naming.l0 : ACode := (.seq (.seq A_spec_l02Naming.r9 (.cond (.t 34) .skip (.exit 2))) (.seq (.block 3 (.seq A_spec_l02Naming.r11 (.seq (.seq A_spec_l02Naming.r12 (.cond (.t 42) A_spec_l02Naming.r13 .skip)) (.seq A_spec_l02Naming.r14 (.cond (.t 50) (.seq A_spec_l02Naming.r15 A_spec_l02Naming.r16) .skip))))) A_spec_l02Naming.r10))
def A_spec_l02Naming.r5 : ACode := (.region none [⟨some 23, .move (.t 8), none⟩,
    ⟨some 24, .bin .add (.t 23) (.c (.int .i64 1)), none⟩,
    ⟨some 8, .move (.t 24), none⟩])
def A_spec_l02Naming.l1 : ACode := (.seq (.seq A_spec_l02Naming.r4 (.cond (.t 22) .skip (.exit 0))) (.seq (.block 1 (.seq A_spec_l02Naming.r6 (.seq A_spec_l02Naming.r7 (.seq A_spec_l02Naming.r8 (.block 2 (.loop A_spec_l02Naming.l0)))))) A_spec_l02Naming.r5))
def A_spec_l02Naming.r17 : ACode := (.region none [⟨some 57, .load (some 16) (.t 5), none⟩,
    ⟨none, .store 16 (.t 4) (.t 57), none⟩])
def A_spec_l02Naming : AFunc := ⟨[.cell 4 (some 16)], (.seq A_spec_l02Naming.r0 (.seq A_spec_l02Naming.r1 (.seq A_spec_l02Naming.r2 (.seq (.seq A_spec_l02Naming.r3 (.block 0 (.loop A_spec_l02Naming.l1))) (.seq A_spec_l02Naming.r17 .ret)))))⟩
/-! spec_l02Canonical -/
def A_spec_l02Canonical.r0 : ACode := (.region none [⟨some 1, .box (.t 0), none⟩,
    ⟨some 2, .alloc ([.int .i64 0] ++ List.replicate 32 (.int .u8 0)), none⟩])
def A_spec_l02Canonical.r1 : ACode := (.region (some 5) [⟨some 6, .load (some 33) (.t 1), none⟩,
    ⟨some 7, .load (some 33) (.t 1), none⟩,
    ⟨some 8, .call 358 [(.t 7), (.c (.int .i64 0))], none⟩,
    ⟨some 9, .call 357 [(.t 6), (.t 8)], none⟩,
    ⟨some 3, .alloc ([.int .i64 0] ++ List.replicate 32 (.int .u8 0)), none⟩,
    ⟨none, .store 33 (.t 3) (.t 9), none⟩])
def A_spec_l02Canonical.r2 : ACode := (.region none [⟨some 4, .move (.c (.int .i64 1)), none⟩])
def A_spec_l02Canonical.r3 : ACode := (.region none [⟨some 10, .move (.t 4), none⟩,
    ⟨some 11, .fieldAddr 0 (.t 1), none⟩,
    ⟨some 12, .load none (.t 11), none⟩,
    ⟨some 13, .bin .lss (.t 10) (.t 12), none⟩])
def A_spec_l02Canonical.r5 : ACode := (.region (some 6) [⟨some 16, .load (some 33) (.t 1), none⟩,
    ⟨some 17, .load (some 33) (.t 1), none⟩,
    ⟨some 18, .move (.t 4), none⟩,
    ⟨some 19, .call 358 [(.t 17), (.t 18)], none⟩,
    ⟨some 20, .call 357 [(.t 16), (.t 19)], none⟩,
    ⟨some 5, .alloc ([.int .i64 0] ++ List.replicate 32 (.int .u8 0)), none⟩,
    ⟨none, .store 33 (.t 5) (.t 20), none⟩])
def A_spec_l02Canonical.r6 : ACode := (.region none [⟨some 21, .load (some 33) (.t 5), none⟩,
    ⟨some 22, .load (some 33) (.t 3), none⟩,
    ⟨some 23, .call 375 [(.t 21), (.t 22)], none⟩])
def A_spec_l02Canonical.r7 : ACode := (.region none [⟨some 24, .load (some 33) (.t 5), none⟩,
    ⟨none, .store 33 (.t 3) (.t 24), none⟩])
def A_spec_l02Canonical.r4 : ACode := (.region none [⟨some 14, .move (.t 4), none⟩,
    ⟨some 15, .bin .add (.t 14) (.c (.int .i64 1)), none⟩,
    ⟨some 4, .move (.t 15), none⟩])
def A_spec_l02Canonical.l0 : ACode := (.seq (.seq A_spec_l02Canonical.r3 (.cond (.t 13) .skip (.exit 0))) (.seq (.block 1 (.seq A_spec_l02Canonical.r5 (.seq A_spec_l02Canonical.r6 (.cond (.t 23) A_spec_l02Canonical.r7 .skip)))) A_spec_l02Canonical.r4))
def A_spec_l02Canonical.r8 : ACode := (.region none [⟨some 25, .load (some 33) (.t 3), none⟩,
    ⟨none, .store 33 (.t 2) (.t 25), none⟩])
def A_spec_l02Canonical : AFunc := ⟨[.cell 2 (some 33)], (.seq A_spec_l02Canonical.r0 (.seq A_spec_l02Canonical.r1 (.seq (.seq A_spec_l02Canonical.r2 (.block 0 (.loop A_spec_l02Canonical.l0))) (.seq A_spec_l02Canonical.r8 .ret))))⟩
/-! spec_l01Draw -/
def A_spec_l01Draw.r0 : ACode := (.region none [⟨some 4, .alloc ([.int .i64 0] ++ List.replicate 32 (.int .u8 0)), none⟩])
def A_spec_l01Draw.r1 : ACode := (.region none [⟨some 9, .move (.t 0), none⟩,
    ⟨some 10, .move (.t 1), none⟩,
    ⟨some 11, .call 102 [(.t 9), (.t 10)], none⟩,
    ⟨some 12, .bin .add (.c (.int .i64 1)) (.t 11), none⟩,
    ⟨some 5, .move (.t 12), none⟩])
def A_spec_l01Draw.r2 : ACode := (.region none [⟨some 6, .move (.c (.int .i64 0)), none⟩])
def A_spec_l01Draw.r3 : ACode := (.region none [⟨some 13, .move (.t 6), none⟩,
    ⟨some 14, .bin .lss (.t 13) (.c (.int .i64 8)), none⟩])
def A_spec_l01Draw.r5 : ACode := (.region none [⟨some 17, .move (.t 5), none⟩,
    ⟨some 18, .move (.t 0), none⟩,
    ⟨some 19, .move (.t 5), none⟩,
    ⟨some 20, .move (.t 0), none⟩,
    ⟨some 21, .move (.t 5), none⟩,
    ⟨some 22, .buildSlice 1 4 [.int .i64 0] [(0, 1, (.c (.int .i64 2))), (1, 1, (.c (.int .i64 3))), (2, 1, (.c (.int .i64 4))), (3, 1, (.t 21))], none⟩,
    ⟨some 23, .call 98 [(.t 20), (.t 22)], none⟩,
    ⟨some 24, .call 387 [(.t 18), (.t 19), (.t 23)], none⟩,
    ⟨some 25, .move (.t 0), none⟩,
    ⟨some 26, .move (.t 5), none⟩,
    ⟨some 27, .move (.t 0), none⟩,
    ⟨some 28, .move (.t 5), none⟩,
    ⟨some 29, .buildSlice 1 4 [.int .i64 0] [(0, 1, (.c (.int .i64 2))), (1, 1, (.c (.int .i64 2))), (2, 1, (.c (.int .i64 3))), (3, 1, (.t 28))], none⟩,
    ⟨some 30, .call 98 [(.t 27), (.t 29)], none⟩,
    ⟨some 31, .call 387 [(.t 25), (.t 26), (.t 30)], none⟩,
    ⟨some 32, .build ([.int .i64 0] ++ List.replicate 32 (.int .u8 0)) [(0, 1, (.t 17)), (1, 16, (.t 24)), (17, 16, (.t 31))], none⟩,
    ⟨some 7, .alloc ([.int .i64 0] ++ List.replicate 32 (.int .u8 0)), none⟩,
    ⟨none, .store 33 (.t 7) (.t 32), none⟩])
def A_spec_l01Draw.r6 : ACode := (.region none [⟨some 33, .load (some 33) (.t 7), none⟩,
    ⟨some 34, .call 184 [(.t 33)], none⟩])
def A_spec_l01Draw.r7 : ACode := (.region none [⟨some 35, .load (some 33) (.t 7), none⟩,
    ⟨none, .store 33 (.t 4) (.t 35), none⟩])
def A_spec_l01Draw.r4 : ACode := (.region none [⟨some 15, .move (.t 6), none⟩,
    ⟨some 16, .bin .add (.t 15) (.c (.int .i64 1)), none⟩,
    ⟨some 6, .move (.t 16), none⟩])
def A_spec_l01Draw.l0 : ACode := (.seq (.seq A_spec_l01Draw.r3 (.cond (.t 14) .skip (.exit 0))) (.seq (.block 1 (.seq A_spec_l01Draw.r5 (.seq A_spec_l01Draw.r6 (.cond (.t 34) (.seq A_spec_l01Draw.r7 .ret) .skip)))) A_spec_l01Draw.r4))
def A_spec_l01Draw.r8 : ACode := (.region none [⟨some 36, .move (.t 5), none⟩,
    ⟨some 37, .call 388 [(.t 36)], none⟩,
    ⟨some 8, .alloc ([.int .i64 0] ++ List.replicate 32 (.int .u8 0)), none⟩,
    ⟨none, .store 33 (.t 8) (.t 37), none⟩])
def A_spec_l01Draw.r9 : ACode := (.region none [⟨some 38, .move (.t 0), none⟩,
    ⟨some 39, .move (.t 5), none⟩,
    ⟨some 40, .call 356 [(.t 38), (.t 39)], none⟩,
    ⟨some 41, .fieldAddr 17 (.t 8), none⟩,
    ⟨none, .store 16 (.t 41) (.t 40), none⟩])
def A_spec_l01Draw.r10 : ACode := (.region none [⟨some 42, .load (some 33) (.t 8), none⟩,
    ⟨none, .store 33 (.t 4) (.t 42), none⟩])
def A_spec_l01Draw : AFunc := ⟨[.cell 4 (some 33)], (.seq A_spec_l01Draw.r0 (.seq A_spec_l01Draw.r1 (.seq (.seq A_spec_l01Draw.r2 (.block 0 (.loop A_spec_l01Draw.l0))) (.seq A_spec_l01Draw.r8 (.seq A_spec_l01Draw.r9 (.seq A_spec_l01Draw.r10 .ret))))))⟩
/-! spec_l01Same -/
def A_spec_l01Same.r0 : ACode := (.region none [⟨some 2, .alloc (List.replicate 16 (.int .u8 0)), none⟩])
def A_spec_l01Same.r1 : ACode := (.region none [⟨some 5, .build (List.replicate 16 (.int .u8 0)) [], none⟩,
    ⟨some 3, .alloc (List.replicate 16 (.int .u8 0)), none⟩,
    ⟨none, .store 16 (.t 3) (.t 5), none⟩])
def A_spec_l01Same.r2 : ACode := (.region none [⟨some 4, .move (.c (.int .i64 0)), none⟩])
def A_spec_l01Same.r3 : ACode := (.region none [⟨some 6, .move (.t 4), none⟩,
    ⟨some 7, .move (.t 0), none⟩,
    ⟨some 8, .bin .lss (.t 6) (.t 7), none⟩])
def A_spec_l01Same.r5 : ACode := (.region none [⟨some 11, .move (.t 4), none⟩,
    ⟨some 12, .move (.t 4), none⟩,
    ⟨some 13, .conv .u8 (.t 12), none⟩,
    ⟨some 14, .indexAddr (some 16) 1 (.t 3) (.t 11), none⟩,
    ⟨none, .store 1 (.t 14) (.t 13), none⟩])
def A_spec_l01Same.r4 : ACode := (.region none [⟨some 9, .move (.t 4), none⟩,
    ⟨some 10, .bin .add (.t 9) (.c (.int .i64 1)), none⟩,
    ⟨some 4, .move (.t 10), none⟩])
def A_spec_l01Same.l0 : ACode := (.seq (.seq A_spec_l01Same.r3 (.cond (.t 8) .skip (.exit 0))) (.seq (.block 1 A_spec_l01Same.r5) A_spec_l01Same.r4))
def A_spec_l01Same.r6 : ACode := (.region none [⟨some 15, .load (some 16) (.t 3), none⟩,
    ⟨none, .store 16 (.t 2) (.t 15), none⟩])
def A_spec_l01Same : AFunc := ⟨[.cell 2 (some 16)], (.seq A_spec_l01Same.r0 (.seq A_spec_l01Same.r1 (.seq (.seq A_spec_l01Same.r2 (.block 0 (.loop A_spec_l01Same.l0))) (.seq A_spec_l01Same.r6 .ret))))⟩
/-! impl_reached -/
def A_impl_reached.r0 : ACode := (.region none [⟨some 4, .move (.c (.int .i64 0)), none⟩])
def A_impl_reached.r1 : ACode := (.region none [⟨some 11, .build (List.replicate 16 (.bool false)) [(0, 1, (.c (.bool true)))], none⟩,
    ⟨some 5, .alloc (List.replicate 16 (.bool false)), none⟩,
    ⟨none, .store 16 (.t 5) (.t 11), none⟩])
def A_impl_reached.r2 : ACode := (.region none [⟨some 12, .buildSlice 1 1 [.int .u8 0] [(0, 1, (.c (.int .u8 0)))], none⟩,
    ⟨some 6, .move (.t 12), none⟩])
def A_impl_reached.r3 : ACode := (.region none [⟨some 7, .move (.c (.int .i64 0)), none⟩])
def A_impl_reached.r4 : ACode := (.region none [⟨some 13, .move (.t 7), none⟩,
    ⟨some 14, .move (.t 6), none⟩,
    ⟨some 15, .len (.t 14), none⟩,
    ⟨some 16, .bin .lss (.t 13) (.t 15), none⟩])
def A_impl_reached.r6 : ACode := (.region none [⟨some 19, .move (.t 1), none⟩,
    ⟨some 20, .len (.t 19), none⟩,
    ⟨some 21, .move (.c (.int .i64 0)), none⟩])
def A_impl_reached.r7 : ACode := (.region none [⟨some 22, .bin .lss (.t 21) (.t 20), none⟩])
def A_impl_reached.r8 : ACode := (.region none [⟨some 23, .indexAddr none 16 (.t 19) (.t 21), none⟩,
    ⟨some 24, .load (some 16) (.t 23), none⟩,
    ⟨some 9, .alloc (List.replicate 16 (.int .u8 0)), none⟩,
    ⟨none, .store 16 (.t 9) (.t 24), none⟩])
def A_impl_reached.r9 : ACode := (.region none [⟨some 25, .move (.t 6), none⟩,
    ⟨some 26, .move (.t 7), none⟩,
    ⟨some 27, .indexAddr none 1 (.t 25) (.t 26), none⟩,
    ⟨some 28, .load none (.t 27), none⟩,
    ⟨some 29, .indexAddr (some 16) 1 (.t 9) (.t 28), none⟩,
    ⟨some 30, .load none (.t 29), none⟩,
    ⟨some 10, .move (.t 30), none⟩])
def A_impl_reached.r10 : ACode := (.region none [⟨some 31, .move (.t 10), none⟩,
    ⟨some 32, .indexAddr (some 16) 1 (.t 5) (.t 31), none⟩,
    ⟨some 33, .load none (.t 32), none⟩,
    ⟨some 34, .not (.t 33), none⟩])
def A_impl_reached.r11 : ACode := (.region none [⟨some 35, .move (.t 10), none⟩,
    ⟨some 36, .indexAddr (some 16) 1 (.t 5) (.t 35), none⟩,
    ⟨none, .store 1 (.t 36) (.c (.bool true)), none⟩])
def A_impl_reached.r12 : ACode := (.region none [⟨some 37, .move (.t 6), none⟩,
    ⟨some 38, .move (.t 10), none⟩,
    ⟨some 39, .buildSlice 1 1 [.int .u8 0] [(0, 1, (.t 38))], none⟩,
    ⟨some 40, .append 1 1 (.t 37) (.t 39), none⟩,
    ⟨some 6, .move (.t 40), none⟩])
def A_impl_reached.r13 : ACode := (.region none [⟨some 41, .bin .add (.t 21) (.c (.int .i64 1)), none⟩,
    ⟨some 21, .move (.t 41), none⟩])
def A_impl_reached.l0 : ACode := (.seq A_impl_reached.r7 (.seq (.cond (.t 22) .skip (.exit 2)) (.seq (.block 3 (.seq A_impl_reached.r8 (.seq A_impl_reached.r9 (.seq A_impl_reached.r10 (.cond (.t 34) (.seq A_impl_reached.r11 A_impl_reached.r12) .skip))))) A_impl_reached.r13)))
def A_impl_reached.r5 : ACode := (.region none [⟨some 17, .move (.t 7), none⟩,
    ⟨some 18, .bin .add (.t 17) (.c (.int .i64 1)), none⟩,
    ⟨some 7, .move (.t 18), none⟩])
def A_impl_reached.l1 : ACode := (.seq (.seq A_impl_reached.r4 (.cond (.t 16) .skip (.exit 0))) (.seq (.block 1 (.seq A_impl_reached.r6 (.block 2 (.loop A_impl_reached.l0)))) A_impl_reached.r5))
def A_impl_reached.r14 : ACode := (.region none [⟨some 42, .move (.t 6), none⟩,
    ⟨some 43, .len (.t 42), none⟩,
    ⟨some 4, .move (.t 43), none⟩])
def A_impl_reached : AFunc := ⟨[.tmp 4], (.seq A_impl_reached.r0 (.seq A_impl_reached.r1 (.seq A_impl_reached.r2 (.seq (.seq A_impl_reached.r3 (.block 0 (.loop A_impl_reached.l1))) (.seq A_impl_reached.r14 .ret)))))⟩
/-! impl_typeOf -/
def A_impl_typeOf.r0 : ACode := (.region none [⟨some 2, .box (.t 0), none⟩,
    ⟨some 4, .move (.c (.slice none 0 0)), none⟩])
def A_impl_typeOf.r1 : ACode := (.region none [⟨some 8, .buildSlice 1 0 [.int .i64 0] [], none⟩,
    ⟨some 5, .move (.t 8), none⟩])
def A_impl_typeOf.r2 : ACode := (.region none [⟨some 9, .load (some 16) (.t 2), none⟩,
    ⟨some 10, .move (.t 1), none⟩,
    ⟨some 11, .call 223 [(.t 9), (.t 10)], none⟩,
    ⟨some 12, .len (.t 11), none⟩,
    ⟨some 13, .move (.c (.int .i64 0)), none⟩])
def A_impl_typeOf.r3 : ACode := (.region none [⟨some 14, .bin .lss (.t 13) (.t 12), none⟩])
def A_impl_typeOf.r4 : ACode := (.region none [⟨some 15, .indexAddr none 1 (.t 11) (.t 13), none⟩,
    ⟨some 16, .load none (.t 15), none⟩,
    ⟨some 7, .move (.t 16), none⟩])
def A_impl_typeOf.r5 : ACode := (.region none [⟨some 17, .move (.t 5), none⟩,
    ⟨some 18, .move (.t 7), none⟩,
    ⟨some 19, .len (.t 18), none⟩,
    ⟨some 20, .buildSlice 1 1 [.int .i64 0] [(0, 1, (.t 19))], none⟩,
    ⟨some 21, .append 1 8 (.t 17) (.t 20), none⟩,
    ⟨some 5, .move (.t 21), none⟩])
def A_impl_typeOf.r6 : ACode := (.region none [⟨some 22, .bin .add (.t 13) (.c (.int .i64 1)), none⟩,
    ⟨some 13, .move (.t 22), none⟩])
def A_impl_typeOf.l0 : ACode := (.seq A_impl_typeOf.r3 (.seq (.cond (.t 14) .skip (.exit 0)) (.seq (.block 1 (.seq A_impl_typeOf.r4 A_impl_typeOf.r5)) A_impl_typeOf.r6)))
def A_impl_typeOf.r7 : ACode := (.region none [⟨some 23, .move (.t 5), none⟩,
    ⟨some 24, .call 219 [(.t 23)], none⟩,
    ⟨some 4, .move (.t 24), none⟩])
def A_impl_typeOf : AFunc := ⟨[.tmp 4], (.seq A_impl_typeOf.r0 (.seq A_impl_typeOf.r1 (.seq (.seq A_impl_typeOf.r2 (.block 0 (.loop A_impl_typeOf.l0))) (.seq A_impl_typeOf.r7 .ret))))⟩
/-! spec_l01Connected -/
def A_spec_l01Connected.r0 : ACode := (.region none [⟨some 4, .box (.t 1), none⟩,
    ⟨some 5, .box (.t 2), none⟩,
    ⟨some 6, .move (.c (.bool false)), none⟩])
def A_spec_l01Connected.r1 : ACode := (.region none [⟨some 12, .build (List.replicate 16 (.bool false)) [], none⟩,
    ⟨some 13, .buildSlice 1 1 [.int .u8 0] [(0, 1, (.c (.int .u8 0)))], none⟩,
    ⟨some 7, .alloc (List.replicate 16 (.bool false)), none⟩,
    ⟨none, .store 16 (.t 7) (.t 12), none⟩,
    ⟨some 8, .move (.t 13), none⟩])
def A_spec_l01Connected.r2 : ACode := (.region none [⟨some 14, .indexAddr (some 16) 1 (.t 7) (.c (.int .i64 0)), none⟩,
    ⟨none, .store 1 (.t 14) (.c (.bool true)), none⟩])
def A_spec_l01Connected.r3 : ACode := (.region none [⟨some 9, .move (.c (.int .i64 0)), none⟩])
def A_spec_l01Connected.r4 : ACode := (.region none [⟨some 15, .move (.t 9), none⟩,
    ⟨some 16, .move (.t 8), none⟩,
    ⟨some 17, .len (.t 16), none⟩,
    ⟨some 18, .bin .lss (.t 15) (.t 17), none⟩])
def A_spec_l01Connected.r6 : ACode := (.region (some 14) [⟨some 21, .move (.t 8), none⟩,
    ⟨some 22, .move (.t 9), none⟩,
    ⟨some 23, .indexAddr none 1 (.t 21) (.t 22), none⟩,
    ⟨some 24, .load none (.t 23), none⟩,
    ⟨some 25, .indexAddr (some 16) 1 (.t 4) (.t 24), none⟩,
    ⟨some 26, .load none (.t 25), none⟩,
    ⟨some 27, .move (.t 8), none⟩,
    ⟨some 28, .move (.t 9), none⟩,
    ⟨some 29, .indexAddr none 1 (.t 27) (.t 28), none⟩,
    ⟨some 30, .load none (.t 29), none⟩,
    ⟨some 31, .indexAddr (some 16) 1 (.t 5) (.t 30), none⟩,
    ⟨some 32, .load none (.t 31), none⟩,
    ⟨some 33, .buildSlice 1 2 [.int .u8 0] [(0, 1, (.t 26)), (1, 1, (.t 32))], none⟩,
    ⟨some 10, .move (.t 33), none⟩])
def A_spec_l01Connected.r7 : ACode := (.region none [⟨some 11, .move (.c (.int .i64 0)), none⟩])
def A_spec_l01Connected.r8 : ACode := (.region none [⟨some 34, .move (.t 11), none⟩,
    ⟨some 35, .bin .lss (.t 34) (.c (.int .i64 2)), none⟩])
def A_spec_l01Connected.r10 : ACode := (.region none [⟨some 38, .move (.t 10), none⟩,
    ⟨some 39, .move (.t 11), none⟩,
    ⟨some 40, .indexAddr none 1 (.t 38) (.t 39), none⟩,
    ⟨some 41, .load none (.t 40), none⟩,
    ⟨some 42, .indexAddr (some 16) 1 (.t 7) (.t 41), none⟩,
    ⟨some 43, .load none (.t 42), none⟩,
    ⟨some 44, .not (.t 43), none⟩])
def A_spec_l01Connected.r11 : ACode := (.region none [⟨some 45, .move (.t 10), none⟩,
    ⟨some 46, .move (.t 11), none⟩,
    ⟨some 47, .indexAddr none 1 (.t 45) (.t 46), none⟩,
    ⟨some 48, .load none (.t 47), none⟩,
    ⟨some 49, .indexAddr (some 16) 1 (.t 7) (.t 48), none⟩,
    ⟨none, .store 1 (.t 49) (.c (.bool true)), none⟩])
def A_spec_l01Connected.r12 : ACode := (.region none [⟨some 50, .move (.t 8), none⟩,
    ⟨some 51, .move (.t 10), none⟩,
    ⟨some 52, .move (.t 11), none⟩,
    ⟨some 53, .indexAddr none 1 (.t 51) (.t 52), none⟩,
    ⟨some 54, .load none (.t 53), none⟩,
    ⟨some 55, .buildSlice 1 1 [.int .u8 0] [(0, 1, (.t 54))], none⟩,
    ⟨some 56, .append 1 1 (.t 50) (.t 55), none⟩,
    ⟨some 8, .move (.t 56), none⟩])
def A_spec_l01Connected.r9 : ACode := (.region none [⟨some 36, .move (.t 11), none⟩,
    ⟨some 37, .bin .add (.t 36) (.c (.int .i64 1)), none⟩,
    ⟨some 11, .move (.t 37), none⟩])
def A_spec_l01Connected.l0 : ACode := (.seq (.seq A_spec_l01Connected.r8 (.cond (.t 35) .skip (.exit 2))) (.seq (.block 3 (.seq A_spec_l01Connected.r10 (.cond (.t 44) (.seq A_spec_l01Connected.r11 A_spec_l01Connected.r12) .skip))) A_spec_l01Connected.r9))
def A_spec_l01Connected.r5 : ACode := (.region none [⟨some 19, .move (.t 9), none⟩,
    ⟨some 20, .bin .add (.t 19) (.c (.int .i64 1)), none⟩,
    ⟨some 9, .move (.t 20), none⟩])
def A_spec_l01Connected.l1 : ACode := (.seq (.seq A_spec_l01Connected.r4 (.cond (.t 18) .skip (.exit 0))) (.seq (.block 1 (.seq A_spec_l01Connected.r6 (.seq A_spec_l01Connected.r7 (.block 2 (.loop A_spec_l01Connected.l0))))) A_spec_l01Connected.r5))
def A_spec_l01Connected.r13 : ACode := (.region none [⟨some 57, .move (.t 8), none⟩,
    ⟨some 58, .len (.t 57), none⟩,
    ⟨some 59, .move (.t 0), none⟩,
    ⟨some 60, .bin .eql (.t 58) (.t 59), none⟩,
    ⟨some 6, .move (.t 60), none⟩])
def A_spec_l01Connected : AFunc := ⟨[.tmp 6], (.seq A_spec_l01Connected.r0 (.seq A_spec_l01Connected.r1 (.seq A_spec_l01Connected.r2 (.seq (.seq A_spec_l01Connected.r3 (.block 0 (.loop A_spec_l01Connected.l1))) (.seq A_spec_l01Connected.r13 .ret)))))⟩
/-! impl_compareDessins -/
def A_impl_compareDessins.r0 : ACode := (.region none [⟨some 2, .box (.t 0), none⟩,
    ⟨some 3, .box (.t 1), none⟩,
    ⟨some 4, .move (.c (.int .i64 0)), none⟩])
def A_impl_compareDessins.r1 : ACode := (.region none [⟨some 6, .fieldAddr 1 (.t 2), none⟩,
    ⟨some 7, .load (some 16) (.t 6), none⟩,
    ⟨some 8, .fieldAddr 1 (.t 3), none⟩,
    ⟨some 9, .load (some 16) (.t 8), none⟩,
    ⟨some 10, .call 222 [(.t 7), (.t 9)], none⟩,
    ⟨some 5, .move (.t 10), none⟩])
def A_impl_compareDessins.r2 : ACode := (.region none [⟨some 11, .move (.t 5), none⟩,
    ⟨some 12, .bin .neq (.t 11) (.c (.int .i64 0)), none⟩])
def A_impl_compareDessins.r3 : ACode := (.region none [⟨some 13, .move (.t 5), none⟩,
    ⟨some 4, .move (.t 13), none⟩])
def A_impl_compareDessins.r4 : ACode := (.region none [⟨some 14, .fieldAddr 17 (.t 2), none⟩,
    ⟨some 15, .load (some 16) (.t 14), none⟩,
    ⟨some 16, .fieldAddr 17 (.t 3), none⟩,
    ⟨some 17, .load (some 16) (.t 16), none⟩,
    ⟨some 18, .call 222 [(.t 15), (.t 17)], none⟩,
    ⟨some 4, .move (.t 18), none⟩])
def A_impl_compareDessins : AFunc := ⟨[.tmp 4], (.seq A_impl_compareDessins.r0 (.seq (.seq A_impl_compareDessins.r1 (.seq A_impl_compareDessins.r2 (.cond (.t 12) (.seq A_impl_compareDessins.r3 .ret) .skip))) (.seq A_impl_compareDessins.r4 .ret)))⟩
/-! impl_back -/
def A_impl_back.r0 : ACode := (.region none [⟨some 2, .box (.t 0), none⟩,
    ⟨some 4, .alloc (List.replicate 16 (.int .u8 0)), none⟩])
def A_impl_back.r1 : ACode := (.region none [⟨some 7, .build (List.replicate 16 (.int .u8 0)) [], none⟩,
    ⟨some 5, .alloc (List.replicate 16 (.int .u8 0)), none⟩,
    ⟨none, .store 16 (.t 5) (.t 7), none⟩])
def A_impl_back.r2 : ACode := (.region none [⟨some 8, .move (.t 1), none⟩,
    ⟨some 9, .move (.c (.int .i64 0)), none⟩])
def A_impl_back.r3 : ACode := (.region none [⟨some 10, .bin .lss (.t 9) (.t 8), none⟩])
def A_impl_back.r4 : ACode := (.region none [⟨some 11, .move (.t 9), none⟩,
    ⟨some 6, .move (.t 11), none⟩])
def A_impl_back.r5 : ACode := (.region none [⟨some 12, .move (.t 6), none⟩,
    ⟨some 13, .indexAddr (some 16) 1 (.t 2) (.t 12), none⟩,
    ⟨some 14, .load none (.t 13), none⟩,
    ⟨some 15, .move (.t 6), none⟩,
    ⟨some 16, .conv .u8 (.t 15), none⟩,
    ⟨some 17, .indexAddr (some 16) 1 (.t 5) (.t 14), none⟩,
    ⟨none, .store 1 (.t 17) (.t 16), none⟩])
def A_impl_back.r6 : ACode := (.region none [⟨some 18, .bin .add (.t 9) (.c (.int .i64 1)), none⟩,
    ⟨some 9, .move (.t 18), none⟩])
def A_impl_back.l0 : ACode := (.seq A_impl_back.r3 (.seq (.cond (.t 10) .skip (.exit 0)) (.seq (.block 1 (.seq A_impl_back.r4 A_impl_back.r5)) A_impl_back.r6)))
def A_impl_back.r7 : ACode := (.region none [⟨some 19, .load (some 16) (.t 5), none⟩,
    ⟨none, .store 16 (.t 4) (.t 19), none⟩])
def A_impl_back : AFunc := ⟨[.cell 4 (some 16)], (.seq A_impl_back.r0 (.seq A_impl_back.r1 (.seq (.seq A_impl_back.r2 (.block 0 (.loop A_impl_back.l0))) (.seq A_impl_back.r7 .ret))))⟩
/-! impl_then -/
def A_impl_then.r0 : ACode := (.region none [⟨some 3, .box (.t 0), none⟩,
    ⟨some 4, .box (.t 1), none⟩,
    ⟨some 6, .alloc (List.replicate 16 (.int .u8 0)), none⟩])
def A_impl_then.r1 : ACode := (.region none [⟨some 9, .build (List.replicate 16 (.int .u8 0)) [], none⟩,
    ⟨some 7, .alloc (List.replicate 16 (.int .u8 0)), none⟩,
    ⟨none, .store 16 (.t 7) (.t 9), none⟩])
def A_impl_then.r2 : ACode := (.region none [⟨some 10, .move (.t 2), none⟩,
    ⟨some 11, .move (.c (.int .i64 0)), none⟩])
def A_impl_then.r3 : ACode := (.region none [⟨some 12, .bin .lss (.t 11) (.t 10), none⟩])
def A_impl_then.r4 : ACode := (.region none [⟨some 13, .move (.t 11), none⟩,
    ⟨some 8, .move (.t 13), none⟩])
def A_impl_then.r5 : ACode := (.region none [⟨some 14, .move (.t 8), none⟩,
    ⟨some 15, .move (.t 8), none⟩,
    ⟨some 16, .indexAddr (some 16) 1 (.t 3) (.t 15), none⟩,
    ⟨some 17, .load none (.t 16), none⟩,
    ⟨some 18, .indexAddr (some 16) 1 (.t 4) (.t 17), none⟩,
    ⟨some 19, .load none (.t 18), none⟩,
    ⟨some 20, .indexAddr (some 16) 1 (.t 7) (.t 14), none⟩,
    ⟨none, .store 1 (.t 20) (.t 19), none⟩])
def A_impl_then.r6 : ACode := (.region none [⟨some 21, .bin .add (.t 11) (.c (.int .i64 1)), none⟩,
    ⟨some 11, .move (.t 21), none⟩])
def A_impl_then.l0 : ACode := (.seq A_impl_then.r3 (.seq (.cond (.t 12) .skip (.exit 0)) (.seq (.block 1 (.seq A_impl_then.r4 A_impl_then.r5)) A_impl_then.r6)))
def A_impl_then.r7 : ACode := (.region none [⟨some 22, .load (some 16) (.t 7), none⟩,
    ⟨none, .store 16 (.t 6) (.t 22), none⟩])
def A_impl_then : AFunc := ⟨[.cell 6 (some 16)], (.seq A_impl_then.r0 (.seq A_impl_then.r1 (.seq (.seq A_impl_then.r2 (.block 0 (.loop A_impl_then.l0))) (.seq A_impl_then.r7 .ret))))⟩
/-! math_bits_Len -/
def A_math_bits_Len.r0 : ACode := (.region none [⟨some 2, .move (.c (.int .i64 0)), none⟩])
def A_math_bits_Len.r1 : ACode := (.region none [⟨some 3, .move (.t 0), none⟩,
    ⟨some 4, .conv .u32 (.t 3), none⟩,
    ⟨some 5, .call 244 [(.t 4)], none⟩,
    ⟨some 2, .move (.t 5), none⟩])
def A_math_bits_Len.r2 : ACode := (.region none [⟨some 6, .move (.t 0), none⟩,
    ⟨some 7, .call 245 [(.t 6)], none⟩,
    ⟨some 2, .move (.t 7), none⟩])
def A_math_bits_Len : AFunc := ⟨[.tmp 2], (.seq A_math_bits_Len.r0 (.seq (.cond (.c (.bool false)) (.seq A_math_bits_Len.r1 .ret) .skip) (.seq A_math_bits_Len.r2 .ret)))⟩
/-! spec_l02Symmetric -/
def A_spec_l02Symmetric.r0 : ACode := (.region none [⟨some 2, .alloc ([.int .i64 0] ++ List.replicate 32 (.int .u8 0)), none⟩])
def A_spec_l02Symmetric.r1 : ACode := (.region none [⟨some 10, .move (.t 0), none⟩,
    ⟨some 11, .call 102 [(.t 10), (.c (.int .i64 12))], none⟩,
    ⟨some 12, .bin .add (.c (.int .i64 1)) (.t 11), none⟩,
    ⟨some 3, .move (.t 12), none⟩])
def A_spec_l02Symmetric.r2 : ACode := (.region none [⟨some 13, .move (.t 3), none⟩,
    ⟨some 14, .call 364 [(.t 13)], none⟩,
    ⟨some 4, .alloc (List.replicate 16 (.int .u8 0)), none⟩,
    ⟨none, .store 16 (.t 4) (.t 14), none⟩])
def A_spec_l02Symmetric.r3 : ACode := (.region none [⟨some 5, .move (.c (.int .i64 0)), none⟩])
def A_spec_l02Symmetric.r4 : ACode := (.region none [⟨some 15, .move (.t 5), none⟩,
    ⟨some 16, .move (.t 3), none⟩,
    ⟨some 17, .bin .lss (.t 15) (.t 16), none⟩])
def A_spec_l02Symmetric.r6 : ACode := (.region none [⟨some 20, .move (.t 5), none⟩,
    ⟨some 21, .move (.t 5), none⟩,
    ⟨some 22, .bin .add (.t 21) (.c (.int .i64 1)), none⟩,
    ⟨some 23, .move (.t 3), none⟩,
    ⟨some 24, .bin .rem (.t 22) (.t 23), none⟩,
    ⟨some 25, .conv .u8 (.t 24), none⟩,
    ⟨some 26, .indexAddr (some 16) 1 (.t 4) (.t 20), none⟩,
    ⟨none, .store 1 (.t 26) (.t 25), none⟩])
def A_spec_l02Symmetric.r5 : ACode := (.region none [⟨some 18, .move (.t 5), none⟩,
    ⟨some 19, .bin .add (.t 18) (.c (.int .i64 1)), none⟩,
    ⟨some 5, .move (.t 19), none⟩])
def A_spec_l02Symmetric.l0 : ACode := (.seq (.seq A_spec_l02Symmetric.r4 (.cond (.t 17) .skip (.exit 0))) (.seq (.block 1 A_spec_l02Symmetric.r6) A_spec_l02Symmetric.r5))
def A_spec_l02Symmetric.r7 : ACode := (.region none [⟨some 27, .move (.t 0), none⟩,
    ⟨some 28, .move (.t 3), none⟩,
    ⟨some 29, .call 102 [(.t 27), (.t 28)], none⟩,
    ⟨some 30, .move (.t 3), none⟩,
    ⟨some 31, .call 364 [(.t 30)], none⟩,
    ⟨some 7, .alloc (List.replicate 16 (.int .u8 0)), none⟩,
    ⟨some 6, .move (.t 29), none⟩,
    ⟨none, .store 16 (.t 7) (.t 31), none⟩])
def A_spec_l02Symmetric.r8 : ACode := (.region none [⟨some 8, .move (.c (.int .i64 0)), none⟩])
def A_spec_l02Symmetric.r9 : ACode := (.region none [⟨some 32, .move (.t 8), none⟩,
    ⟨some 33, .move (.t 3), none⟩,
    ⟨some 34, .bin .lss (.t 32) (.t 33), none⟩])
def A_spec_l02Symmetric.r11 : ACode := (.region none [⟨some 37, .move (.t 8), none⟩,
    ⟨some 38, .move (.t 8), none⟩,
    ⟨some 39, .move (.t 6), none⟩,
    ⟨some 40, .bin .add (.t 38) (.t 39), none⟩,
    ⟨some 41, .move (.t 3), none⟩,
    ⟨some 42, .bin .rem (.t 40) (.t 41), none⟩,
    ⟨some 43, .conv .u8 (.t 42), none⟩,
    ⟨some 44, .indexAddr (some 16) 1 (.t 7) (.t 37), none⟩,
    ⟨none, .store 1 (.t 44) (.t 43), none⟩])
def A_spec_l02Symmetric.r10 : ACode := (.region none [⟨some 35, .move (.t 8), none⟩,
    ⟨some 36, .bin .add (.t 35) (.c (.int .i64 1)), none⟩,
    ⟨some 8, .move (.t 36), none⟩])
def A_spec_l02Symmetric.l1 : ACode := (.seq (.seq A_spec_l02Symmetric.r9 (.cond (.t 34) .skip (.exit 2))) (.seq (.block 3 A_spec_l02Symmetric.r11) A_spec_l02Symmetric.r10))
def A_spec_l02Symmetric.r12 : ACode := (.region none [⟨some 45, .move (.t 3), none⟩,
    ⟨some 46, .load (some 16) (.t 4), none⟩,
    ⟨some 47, .load (some 16) (.t 7), none⟩,
    ⟨some 48, .build ([.int .i64 0] ++ List.replicate 32 (.int .u8 0)) [(0, 1, (.t 45)), (1, 16, (.t 46)), (17, 16, (.t 47))], none⟩,
    ⟨some 9, .alloc ([.int .i64 0] ++ List.replicate 32 (.int .u8 0)), none⟩,
    ⟨none, .store 33 (.t 9) (.t 48), none⟩])
def A_spec_l02Symmetric.r13 : ACode := (.region none [⟨some 49, .move (.t 0), none⟩,
    ⟨some 50, .call 102 [(.t 49), (.c (.int .i64 2))], none⟩,
    ⟨some 51, .bin .eql (.t 50) (.c (.int .i64 0)), none⟩])
def A_spec_l02Symmetric.r14 : ACode := (.region none [⟨some 52, .load (some 16) (.t 7), none⟩,
    ⟨some 53, .fieldAddr 1 (.t 9), none⟩,
    ⟨none, .store 16 (.t 53) (.t 52), none⟩])
def A_spec_l02Symmetric.r15 : ACode := (.region none [⟨some 54, .load (some 16) (.t 4), none⟩,
    ⟨some 55, .fieldAddr 17 (.t 9), none⟩,
    ⟨none, .store 16 (.t 55) (.t 54), none⟩])
def A_spec_l02Symmetric.r16 : ACode := (.region none [⟨some 56, .load (some 33) (.t 9), none⟩,
    ⟨none, .store 33 (.t 2) (.t 56), none⟩])
def A_spec_l02Symmetric : AFunc := ⟨[.cell 2 (some 33)], (.seq A_spec_l02Symmetric.r0 (.seq A_spec_l02Symmetric.r1 (.seq A_spec_l02Symmetric.r2 (.seq (.seq A_spec_l02Symmetric.r3 (.block 0 (.loop A_spec_l02Symmetric.l0))) (.seq A_spec_l02Symmetric.r7 (.seq (.seq A_spec_l02Symmetric.r8 (.block 2 (.loop A_spec_l02Symmetric.l1))) (.seq A_spec_l02Symmetric.r12 (.seq (.seq A_spec_l02Symmetric.r13 (.cond (.t 51) (.seq A_spec_l02Symmetric.r14 A_spec_l02Symmetric.r15) .skip)) (.seq A_spec_l02Symmetric.r16 .ret)))))))))⟩
/-! impl_named -/
def A_impl_named.r0 : ACode := (.region none [⟨some 2, .box (.t 0), none⟩,
    ⟨some 4, .move (.c (.slice none 0 0)), none⟩])
def A_impl_named.r1 : ACode := (.region none [⟨some 10, .build (List.replicate 16 (.bool false)) [], none⟩,
    ⟨some 5, .alloc (List.replicate 16 (.bool false)), none⟩,
    ⟨none, .store 16 (.t 5) (.t 10), none⟩])
def A_impl_named.r2 : ACode := (.region none [⟨some 11, .move (.t 1), none⟩,
    ⟨some 12, .indexAddr (some 16) 1 (.t 5) (.t 11), none⟩,
    ⟨none, .store 1 (.t 12) (.c (.bool true)), none⟩])
def A_impl_named.r3 : ACode := (.region none [⟨some 13, .move (.t 1), none⟩,
    ⟨some 14, .conv .u8 (.t 13), none⟩,
    ⟨some 15, .buildSlice 1 1 [.int .u8 0] [(0, 1, (.t 14))], none⟩,
    ⟨some 6, .move (.t 15), none⟩])
def A_impl_named.r4 : ACode := (.region none [⟨some 7, .move (.c (.int .i64 0)), none⟩])
def A_impl_named.r5 : ACode := (.region none [⟨some 16, .move (.t 7), none⟩,
    ⟨some 17, .move (.t 6), none⟩,
    ⟨some 18, .len (.t 17), none⟩,
    ⟨some 19, .bin .lss (.t 16) (.t 18), none⟩])
def A_impl_named.r7 : ACode := (.region (some 17) [⟨some 22, .move (.t 6), none⟩,
    ⟨some 23, .move (.t 7), none⟩,
    ⟨some 24, .indexAddr none 1 (.t 22) (.t 23), none⟩,
    ⟨some 25, .load none (.t 24), none⟩,
    ⟨some 26, .fieldAddr 1 (.t 2), none⟩,
    ⟨some 27, .indexAddr (some 16) 1 (.t 26) (.t 25), none⟩,
    ⟨some 28, .load none (.t 27), none⟩,
    ⟨some 29, .move (.t 6), none⟩,
    ⟨some 30, .move (.t 7), none⟩,
    ⟨some 31, .indexAddr none 1 (.t 29) (.t 30), none⟩,
    ⟨some 32, .load none (.t 31), none⟩,
    ⟨some 33, .fieldAddr 17 (.t 2), none⟩,
    ⟨some 34, .indexAddr (some 16) 1 (.t 33) (.t 32), none⟩,
    ⟨some 35, .load none (.t 34), none⟩,
    ⟨some 36, .buildSlice 1 2 [.int .u8 0] [(0, 1, (.t 28)), (1, 1, (.t 35))], none⟩,
    ⟨some 37, .len (.t 36), none⟩,
    ⟨some 38, .move (.c (.int .i64 0)), none⟩])
def A_impl_named.r8 : ACode := (.region none [⟨some 39, .bin .lss (.t 38) (.t 37), none⟩])
def A_impl_named.r9 : ACode := (.region none [⟨some 40, .indexAddr none 1 (.t 36) (.t 38), none⟩,
    ⟨some 41, .load none (.t 40), none⟩,
    ⟨some 9, .move (.t 41), none⟩])
def A_impl_named.r10 : ACode := (.region none [⟨some 42, .move (.t 9), none⟩,
    ⟨some 43, .indexAddr (some 16) 1 (.t 5) (.t 42), none⟩,
    ⟨some 44, .load none (.t 43), none⟩,
    ⟨some 45, .not (.t 44), none⟩])
def A_impl_named.r11 : ACode := (.region none [⟨some 46, .move (.t 9), none⟩,
    ⟨some 47, .indexAddr (some 16) 1 (.t 5) (.t 46), none⟩,
    ⟨none, .store 1 (.t 47) (.c (.bool true)), none⟩])
def A_impl_named.r12 : ACode := (.region none [⟨some 48, .move (.t 6), none⟩,
    ⟨some 49, .move (.t 9), none⟩,
    ⟨some 50, .buildSlice 1 1 [.int .u8 0] [(0, 1, (.t 49))], none⟩,
    ⟨some 51, .append 1 1 (.t 48) (.t 50), none⟩,
    ⟨some 6, .move (.t 51), none⟩])
def A_impl_named.r13 : ACode := (.region none [⟨some 52, .bin .add (.t 38) (.c (.int .i64 1)), none⟩,
    ⟨some 38, .move (.t 52), none⟩])
def A_impl_named.l0 : ACode := (.seq A_impl_named.r8 (.seq (.cond (.t 39) .skip (.exit 2)) (.seq (.block 3 (.seq A_impl_named.r9 (.seq A_impl_named.r10 (.cond (.t 45) (.seq A_impl_named.r11 A_impl_named.r12) .skip)))) A_impl_named.r13)))
def A_impl_named.r6 : ACode := (.region none [⟨some 20, .move (.t 7), none⟩,
    ⟨some 21, .bin .add (.t 20) (.c (.int .i64 1)), none⟩,
    ⟨some 7, .move (.t 21), none⟩])
def A_impl_named.l1 : ACode := (.seq (.seq A_impl_named.r5 (.cond (.t 19) .skip (.exit 0))) (.seq (.block 1 (.seq A_impl_named.r7 (.block 2 (.loop A_impl_named.l0)))) A_impl_named.r6))
def A_impl_named.r14 : ACode := (.region none [⟨some 53, .move (.t 6), none⟩,
    ⟨some 4, .move (.t 53), none⟩])
def A_impl_named : AFunc := ⟨[.tmp 4], (.seq A_impl_named.r0 (.seq A_impl_named.r1 (.seq A_impl_named.r2 (.seq A_impl_named.r3 (.seq (.seq A_impl_named.r4 (.block 0 (.loop A_impl_named.l1))) (.seq A_impl_named.r14 .ret))))))⟩
/-! spec_l02Before -/
def A_spec_l02Before.r0 : ACode := (.region none [⟨some 2, .box (.t 0), none⟩,
    ⟨some 3, .box (.t 1), none⟩,
    ⟨some 4, .move (.c (.bool false)), none⟩])
def A_spec_l02Before.r1 : ACode := (.region none [⟨some 5, .fieldAddr 1 (.t 2), none⟩,
    ⟨some 6, .load (some 16) (.t 5), none⟩,
    ⟨some 7, .fieldAddr 1 (.t 3), none⟩,
    ⟨some 8, .load (some 16) (.t 7), none⟩,
    ⟨some 9, .eqa true 16 (.t 6) (.t 8), none⟩])
def A_spec_l02Before.r2 : ACode := (.region none [⟨some 10, .fieldAddr 1 (.t 2), none⟩,
    ⟨some 11, .load (some 16) (.t 10), none⟩,
    ⟨some 12, .fieldAddr 1 (.t 3), none⟩,
    ⟨some 13, .load (some 16) (.t 12), none⟩,
    ⟨some 14, .call 389 [(.t 11), (.t 13)], none⟩,
    ⟨some 4, .move (.t 14), none⟩])
def A_spec_l02Before.r3 : ACode := (.region none [⟨some 15, .fieldAddr 17 (.t 2), none⟩,
    ⟨some 16, .load (some 16) (.t 15), none⟩,
    ⟨some 17, .fieldAddr 17 (.t 3), none⟩,
    ⟨some 18, .load (some 16) (.t 17), none⟩,
    ⟨some 19, .call 389 [(.t 16), (.t 18)], none⟩,
    ⟨some 4, .move (.t 19), none⟩])
def A_spec_l02Before : AFunc := ⟨[.tmp 4], (.seq A_spec_l02Before.r0 (.seq (.seq A_spec_l02Before.r1 (.cond (.t 9) (.seq A_spec_l02Before.r2 .ret) .skip)) (.seq A_spec_l02Before.r3 .ret)))⟩
/-! spec_l01Pairs -/
def A_spec_l01Pairs.r0 : ACode := (.region none [⟨some 6, .alloc (List.replicate 16 (.int .u8 0)), none⟩])
def A_spec_l01Pairs.r1 : ACode := (.region none [⟨some 12, .move (.t 0), none⟩,
    ⟨some 13, .move (.t 1), none⟩,
    ⟨some 14, .call 356 [(.t 12), (.t 13)], none⟩,
    ⟨some 15, .move (.t 1), none⟩,
    ⟨some 16, .call 364 [(.t 15)], none⟩,
    ⟨some 7, .alloc (List.replicate 16 (.int .u8 0)), none⟩,
    ⟨some 8, .alloc (List.replicate 16 (.int .u8 0)), none⟩,
    ⟨none, .store 16 (.t 7) (.t 14), none⟩,
    ⟨none, .store 16 (.t 8) (.t 16), none⟩])
def A_spec_l01Pairs.r2 : ACode := (.region none [⟨some 9, .move (.c (.int .i64 0)), none⟩])
def A_spec_l01Pairs.r3 : ACode := (.region none [⟨some 17, .move (.t 9), none⟩,
    ⟨some 18, .move (.t 1), none⟩,
    ⟨some 19, .bin .lss (.t 17) (.t 18), none⟩])
def A_spec_l01Pairs.r4 : ACode := (.region none [⟨some 20, .move (.t 0), none⟩,
    ⟨some 21, .move (.t 2), none⟩,
    ⟨some 22, .call 102 [(.t 20), (.t 21)], none⟩,
    ⟨some 23, .bin .add (.c (.int .i64 1)) (.t 22), none⟩,
    ⟨some 24, .move (.t 1), none⟩,
    ⟨some 25, .move (.t 9), none⟩,
    ⟨some 26, .bin .sub (.t 24) (.t 25), none⟩,
    ⟨some 27, .min [(.t 23), (.t 26)], none⟩,
    ⟨some 10, .move (.t 27), none⟩])
def A_spec_l01Pairs.r5 : ACode := (.region none [⟨some 11, .move (.c (.int .i64 0)), none⟩])
def A_spec_l01Pairs.r6 : ACode := (.region none [⟨some 28, .move (.t 11), none⟩,
    ⟨some 29, .move (.t 10), none⟩,
    ⟨some 30, .bin .lss (.t 28) (.t 29), none⟩])
def A_spec_l01Pairs.r8 : ACode := (.region (some 14) [⟨some 33, .move (.t 9), none⟩,
    ⟨some 34, .move (.t 11), none⟩,
    ⟨some 35, .bin .add (.t 33) (.t 34), none⟩,
    ⟨some 36, .indexAddr (some 16) 1 (.t 7) (.t 35), none⟩,
    ⟨some 37, .load none (.t 36), none⟩,
    ⟨some 38, .move (.t 9), none⟩,
    ⟨some 39, .move (.t 11), none⟩,
    ⟨some 40, .bin .add (.t 39) (.c (.int .i64 1)), none⟩,
    ⟨some 41, .move (.t 10), none⟩,
    ⟨some 42, .bin .rem (.t 40) (.t 41), none⟩,
    ⟨some 43, .bin .add (.t 38) (.t 42), none⟩,
    ⟨some 44, .indexAddr (some 16) 1 (.t 7) (.t 43), none⟩,
    ⟨some 45, .load none (.t 44), none⟩,
    ⟨some 46, .indexAddr (some 16) 1 (.t 8) (.t 37), none⟩,
    ⟨none, .store 1 (.t 46) (.t 45), none⟩])
def A_spec_l01Pairs.r7 : ACode := (.region none [⟨some 31, .move (.t 11), none⟩,
    ⟨some 32, .bin .add (.t 31) (.c (.int .i64 1)), none⟩,
    ⟨some 11, .move (.t 32), none⟩])
def A_spec_l01Pairs.l0 : ACode := (.seq (.seq A_spec_l01Pairs.r6 (.cond (.t 30) .skip (.exit 2))) (.seq (.block 3 A_spec_l01Pairs.r8) A_spec_l01Pairs.r7))
def A_spec_l01Pairs.r9 : ACode := (.region none [⟨some 47, .move (.t 9), none⟩,
    ⟨some 48, .move (.t 10), none⟩,
    ⟨some 49, .bin .add (.t 47) (.t 48), none⟩,
    ⟨some 9, .move (.t 49), none⟩])
def A_spec_l01Pairs.l1 : ACode := (.seq (.seq A_spec_l01Pairs.r3 (.cond (.t 19) .skip (.exit 0))) (.block 1 (.seq A_spec_l01Pairs.r4 (.seq (.seq A_spec_l01Pairs.r5 (.block 2 (.loop A_spec_l01Pairs.l0))) A_spec_l01Pairs.r9))))
def A_spec_l01Pairs.r10 : ACode := (.region none [⟨some 50, .load (some 16) (.t 8), none⟩,
    ⟨none, .store 16 (.t 6) (.t 50), none⟩])
def A_spec_l01Pairs : AFunc := ⟨[.cell 6 (some 16)], (.seq A_spec_l01Pairs.r0 (.seq A_spec_l01Pairs.r1 (.seq (.seq A_spec_l01Pairs.r2 (.block 0 (.loop A_spec_l01Pairs.l1))) (.seq A_spec_l01Pairs.r10 .ret))))⟩
/-! spec_l01Star -/
def A_spec_l01Star.r0 : ACode := (.region none [⟨some 2, .alloc ([.int .i64 0] ++ List.replicate 32 (.int .u8 0)), none⟩])
def A_spec_l01Star.r1 : ACode := (.region none [⟨some 3, .move (.t 0), none⟩,
    ⟨some 4, .move (.t 0), none⟩,
    ⟨some 5, .call 396 [(.t 4)], none⟩,
    ⟨some 6, .move (.t 0), none⟩,
    ⟨some 7, .call 364 [(.t 6)], none⟩,
    ⟨some 8, .build ([.int .i64 0] ++ List.replicate 32 (.int .u8 0)) [(0, 1, (.t 3)), (1, 16, (.t 5)), (17, 16, (.t 7))], none⟩,
    ⟨none, .store 33 (.t 2) (.t 8), none⟩])
def A_spec_l01Star : AFunc := ⟨[.cell 2 (some 33)], (.seq A_spec_l01Star.r0 (.seq A_spec_l01Star.r1 .ret))⟩
/-! impl_cycles -/
def A_impl_cycles.r0 : ACode := (.region none [⟨some 2, .box (.t 0), none⟩,
    ⟨some 4, .move (.c (.slice none 0 0)), none⟩])
def A_impl_cycles.r1 : ACode := (.region none [⟨some 10, .buildSlice 1 0 [.slice none 0 0] [], none⟩,
    ⟨some 5, .move (.t 10), none⟩])
def A_impl_cycles.r2 : ACode := (.region none [⟨some 11, .build (List.replicate 16 (.bool false)) [], none⟩,
    ⟨some 6, .alloc (List.replicate 16 (.bool false)), none⟩,
    ⟨none, .store 16 (.t 6) (.t 11), none⟩])
def A_impl_cycles.r3 : ACode := (.region none [⟨some 12, .move (.t 1), none⟩,
    ⟨some 13, .move (.c (.int .i64 0)), none⟩])
def A_impl_cycles.r4 : ACode := (.region none [⟨some 14, .bin .lss (.t 13) (.t 12), none⟩])
def A_impl_cycles.r5 : ACode := (.region none [⟨some 15, .move (.t 13), none⟩,
    ⟨some 7, .move (.t 15), none⟩])
def A_impl_cycles.r6 : ACode := (.region none [⟨some 16, .move (.t 7), none⟩,
    ⟨some 17, .indexAddr (some 16) 1 (.t 6) (.t 16), none⟩,
    ⟨some 18, .load none (.t 17), none⟩])
def A_impl_cycles.r7 : ACode := (.region none [⟨some 19, .buildSlice 1 0 [.int .i64 0] [], none⟩,
    ⟨some 8, .move (.t 19), none⟩])
def A_impl_cycles.r8 : ACode := (.region none [⟨some 20, .move (.t 7), none⟩,
    ⟨some 9, .move (.t 20), none⟩])
def A_impl_cycles.r9 : ACode := (.region none [⟨some 21, .move (.t 9), none⟩,
    ⟨some 22, .indexAddr (some 16) 1 (.t 6) (.t 21), none⟩,
    ⟨some 23, .load none (.t 22), none⟩,
    ⟨some 24, .not (.t 23), none⟩])
def A_impl_cycles.r11 : ACode := (.region none [⟨some 29, .move (.t 9), none⟩,
    ⟨some 30, .indexAddr (some 16) 1 (.t 6) (.t 29), none⟩,
    ⟨none, .store 1 (.t 30) (.c (.bool true)), none⟩])
def A_impl_cycles.r12 : ACode := (.region none [⟨some 31, .move (.t 8), none⟩,
    ⟨some 32, .move (.t 9), none⟩,
    ⟨some 33, .buildSlice 1 1 [.int .i64 0] [(0, 1, (.t 32))], none⟩,
    ⟨some 34, .append 1 8 (.t 31) (.t 33), none⟩,
    ⟨some 8, .move (.t 34), none⟩])
def A_impl_cycles.r10 : ACode := (.region none [⟨some 25, .move (.t 9), none⟩,
    ⟨some 26, .indexAddr (some 16) 1 (.t 2) (.t 25), none⟩,
    ⟨some 27, .load none (.t 26), none⟩,
    ⟨some 28, .conv .i64 (.t 27), none⟩,
    ⟨some 9, .move (.t 28), none⟩])
def A_impl_cycles.l0 : ACode := (.seq (.seq A_impl_cycles.r9 (.cond (.t 24) .skip (.exit 2))) (.seq (.block 3 (.seq A_impl_cycles.r11 A_impl_cycles.r12)) A_impl_cycles.r10))
def A_impl_cycles.r13 : ACode := (.region none [⟨some 35, .move (.t 5), none⟩,
    ⟨some 36, .move (.t 8), none⟩,
    ⟨some 37, .buildSlice 1 1 [.slice none 0 0] [(0, 1, (.t 36))], none⟩,
    ⟨some 38, .append 1 24 (.t 35) (.t 37), none⟩,
    ⟨some 5, .move (.t 38), none⟩])
def A_impl_cycles.r14 : ACode := (.region none [⟨some 39, .bin .add (.t 13) (.c (.int .i64 1)), none⟩,
    ⟨some 13, .move (.t 39), none⟩])
def A_impl_cycles.l1 : ACode := (.seq A_impl_cycles.r4 (.seq (.cond (.t 14) .skip (.exit 0)) (.seq (.block 1 (.seq A_impl_cycles.r5 (.seq (.seq A_impl_cycles.r6 (.cond (.t 18) (.exit 1) .skip)) (.seq A_impl_cycles.r7 (.seq (.seq A_impl_cycles.r8 (.block 2 (.loop A_impl_cycles.l0))) A_impl_cycles.r13))))) A_impl_cycles.r14)))
def A_impl_cycles.r15 : ACode := (.region none [⟨some 40, .move (.t 5), none⟩,
    ⟨some 4, .move (.t 40), none⟩])
def A_impl_cycles : AFunc := ⟨[.tmp 4], (.seq A_impl_cycles.r0 (.seq A_impl_cycles.r1 (.seq A_impl_cycles.r2 (.seq (.seq A_impl_cycles.r3 (.block 0 (.loop A_impl_cycles.l1))) (.seq A_impl_cycles.r15 .ret)))))⟩
/-! impl_descending -/
def A_impl_descending.r0 : ACode := (.region none [⟨some 2, .move (.c (.slice none 0 0)), none⟩])
def A_impl_descending.r1 : ACode := (.region none [⟨some 3, .move (.t 0), none⟩,
    ⟨some 4, .call 224 [(.t 3)], none⟩])
def A_impl_descending.r2 : ACode := (.region none [⟨some 5, .move (.t 0), none⟩,
    ⟨some 6, .call 225 [(.t 5)], none⟩])
def A_impl_descending.r3 : ACode := (.region none [⟨some 7, .move (.t 0), none⟩,
    ⟨some 2, .move (.t 7), none⟩])
def A_impl_descending : AFunc := ⟨[.tmp 2], (.seq A_impl_descending.r0 (.seq A_impl_descending.r1 (.seq A_impl_descending.r2 (.seq A_impl_descending.r3 .ret))))⟩
/-! impl_comparePlaces -/
def A_impl_comparePlaces.r0 : ACode := (.region none [⟨some 2, .box (.t 0), none⟩,
    ⟨some 3, .box (.t 1), none⟩,
    ⟨some 4, .move (.c (.int .i64 0)), none⟩])
def A_impl_comparePlaces.r1 : ACode := (.region (some 4) [⟨some 5, .sliceArr 16 1 (.t 2) none none, none⟩,
    ⟨some 6, .sliceArr 16 1 (.t 3) none none, none⟩,
    ⟨some 7, .call 226 [(.t 5), (.t 6)], none⟩,
    ⟨some 4, .move (.t 7), none⟩])
def A_impl_comparePlaces : AFunc := ⟨[.tmp 4], (.seq A_impl_comparePlaces.r0 (.seq A_impl_comparePlaces.r1 .ret))⟩
/-! math_bits_Len64 -/
def A_math_bits_Len64.r0 : ACode := (.region none [⟨some 2, .move (.c (.int .i64 0)), none⟩])
def A_math_bits_Len64.r1 : ACode := (.region none [⟨some 3, .move (.t 0), none⟩,
    ⟨some 4, .bin .geq (.t 3) (.c (.int .u64 4294967296)), none⟩])
def A_math_bits_Len64.r2 : ACode := (.region none [⟨some 5, .move (.t 0), none⟩,
    ⟨some 6, .bin .shr (.t 5) (.c (.int .u64 32)), none⟩,
    ⟨some 0, .move (.t 6), none⟩])
def A_math_bits_Len64.r3 : ACode := (.region none [⟨some 2, .move (.c (.int .i64 32)), none⟩])
def A_math_bits_Len64.r4 : ACode := (.region none [⟨some 7, .move (.t 0), none⟩,
    ⟨some 8, .bin .geq (.t 7) (.c (.int .u64 65536)), none⟩])
def A_math_bits_Len64.r5 : ACode := (.region none [⟨some 9, .move (.t 0), none⟩,
    ⟨some 10, .bin .shr (.t 9) (.c (.int .u64 16)), none⟩,
    ⟨some 0, .move (.t 10), none⟩])
def A_math_bits_Len64.r6 : ACode := (.region none [⟨some 11, .move (.t 2), none⟩,
    ⟨some 12, .bin .add (.t 11) (.c (.int .i64 16)), none⟩,
    ⟨some 2, .move (.t 12), none⟩])
def A_math_bits_Len64.r7 : ACode := (.region none [⟨some 13, .move (.t 0), none⟩,
    ⟨some 14, .bin .geq (.t 13) (.c (.int .u64 256)), none⟩])
def A_math_bits_Len64.r8 : ACode := (.region none [⟨some 15, .move (.t 0), none⟩,
    ⟨some 16, .bin .shr (.t 15) (.c (.int .u64 8)), none⟩,
    ⟨some 0, .move (.t 16), none⟩])
def A_math_bits_Len64.r9 : ACode := (.region none [⟨some 17, .move (.t 2), none⟩,
    ⟨some 18, .bin .add (.t 17) (.c (.int .i64 8)), none⟩,
    ⟨some 2, .move (.t 18), none⟩])
def A_math_bits_Len64.r10 : ACode := (.region none [⟨some 19, .move (.t 2), none⟩,
    ⟨some 20, .move (.t 0), none⟩,
    ⟨some 21, .conv .u8 (.t 20), none⟩,
    ⟨some 22, .indexStr (.c (.string ⟨#[0, 1, 2, 2, 3, 3, 3, 3, 4, 4, 4, 4, 4, 4, 4, 4, 5, 5, 5, 5, 5, 5, 5, 5, 5, 5, 5, 5, 5, 5, 5, 5, 6, 6, 6, 6, 6, 6, 6, 6, 6, 6, 6, 6, 6, 6, 6, 6, 6, 6, 6, 6, 6, 6, 6, 6, 6, 6, 6, 6, 6, 6, 6, 6, 7, 7, 7, 7, 7, 7, 7, 7, 7, 7, 7, 7, 7, 7, 7, 7, 7, 7, 7, 7, 7, 7, 7, 7, 7, 7, 7, 7, 7, 7, 7, 7, 7, 7, 7, 7, 7, 7, 7, 7, 7, 7, 7, 7, 7, 7, 7, 7, 7, 7, 7, 7, 7, 7, 7, 7, 7, 7, 7, 7, 7, 7, 7, 7, 8, 8, 8, 8, 8, 8, 8, 8, 8, 8, 8, 8, 8, 8, 8, 8, 8, 8, 8, 8, 8, 8, 8, 8, 8, 8, 8, 8, 8, 8, 8, 8, 8, 8, 8, 8, 8, 8, 8, 8, 8, 8, 8, 8, 8, 8, 8, 8, 8, 8, 8, 8, 8, 8, 8, 8, 8, 8, 8, 8, 8, 8, 8, 8, 8, 8, 8, 8, 8, 8, 8, 8, 8, 8, 8, 8, 8, 8, 8, 8, 8, 8, 8, 8, 8, 8, 8, 8, 8, 8, 8, 8, 8, 8, 8, 8, 8, 8, 8, 8, 8, 8, 8, 8, 8, 8, 8, 8, 8, 8, 8, 8, 8, 8, 8, 8, 8, 8, 8, 8, 8, 8, 8, 8, 8, 8, 8, 8]⟩)) (.t 21), none⟩,
    ⟨some 23, .conv .i64 (.t 22), none⟩,
    ⟨some 24, .bin .add (.t 19) (.t 23), none⟩,
    ⟨some 2, .move (.t 24), none⟩])
def A_math_bits_Len64 : AFunc := ⟨[.tmp 2], (.seq A_math_bits_Len64.r0 (.seq (.seq A_math_bits_Len64.r1 (.cond (.t 4) (.seq A_math_bits_Len64.r2 A_math_bits_Len64.r3) .skip)) (.seq (.seq A_math_bits_Len64.r4 (.cond (.t 8) (.seq A_math_bits_Len64.r5 A_math_bits_Len64.r6) .skip)) (.seq (.seq A_math_bits_Len64.r7 (.cond (.t 14) (.seq A_math_bits_Len64.r8 A_math_bits_Len64.r9) .skip)) (.seq A_math_bits_Len64.r10 .ret)))))⟩
/-! spec_l02Less -/
def A_spec_l02Less.r0 : ACode := (.region none [⟨some 2, .box (.t 0), none⟩,
    ⟨some 3, .box (.t 1), none⟩,
    ⟨some 4, .move (.c (.bool false)), none⟩])
def A_spec_l02Less.r1 : ACode := (.region none [⟨some 5, .move (.c (.int .i64 0)), none⟩])
def A_spec_l02Less.r2 : ACode := (.region none [⟨some 6, .move (.t 5), none⟩,
    ⟨some 7, .bin .lss (.t 6) (.c (.int .i64 16)), none⟩])
def A_spec_l02Less.r4 : ACode := (.region (some 7) [⟨some 10, .move (.t 5), none⟩,
    ⟨some 11, .indexAddr (some 16) 1 (.t 2) (.t 10), none⟩,
    ⟨some 12, .load none (.t 11), none⟩,
    ⟨some 13, .move (.t 5), none⟩,
    ⟨some 14, .indexAddr (some 16) 1 (.t 3) (.t 13), none⟩,
    ⟨some 15, .load none (.t 14), none⟩,
    ⟨some 16, .bin .neq (.t 12) (.t 15), none⟩])
def A_spec_l02Less.r5 : ACode := (.region (some 8) [⟨some 17, .move (.t 5), none⟩,
    ⟨some 18, .indexAddr (some 16) 1 (.t 2) (.t 17), none⟩,
    ⟨some 19, .load none (.t 18), none⟩,
    ⟨some 20, .move (.t 5), none⟩,
    ⟨some 21, .indexAddr (some 16) 1 (.t 3) (.t 20), none⟩,
    ⟨some 22, .load none (.t 21), none⟩,
    ⟨some 23, .bin .lss (.t 19) (.t 22), none⟩,
    ⟨some 4, .move (.t 23), none⟩])
def A_spec_l02Less.r3 : ACode := (.region none [⟨some 8, .move (.t 5), none⟩,
    ⟨some 9, .bin .add (.t 8) (.c (.int .i64 1)), none⟩,
    ⟨some 5, .move (.t 9), none⟩])
def A_spec_l02Less.l0 : ACode := (.seq (.seq A_spec_l02Less.r2 (.cond (.t 7) .skip (.exit 0))) (.seq (.block 1 (.seq A_spec_l02Less.r4 (.cond (.t 16) (.seq A_spec_l02Less.r5 .ret) .skip))) A_spec_l02Less.r3))
def A_spec_l02Less.r6 : ACode := (.region none [⟨some 4, .move (.c (.bool false)), none⟩])
def A_spec_l02Less : AFunc := ⟨[.tmp 4], (.seq A_spec_l02Less.r0 (.seq (.seq A_spec_l02Less.r1 (.block 0 (.loop A_spec_l02Less.l0))) (.seq A_spec_l02Less.r6 .ret)))⟩
/-! spec_l01Turn -/
def A_spec_l01Turn.r0 : ACode := (.region none [⟨some 2, .alloc (List.replicate 16 (.int .u8 0)), none⟩])
def A_spec_l01Turn.r1 : ACode := (.region none [⟨some 5, .build (List.replicate 16 (.int .u8 0)) [], none⟩,
    ⟨some 3, .alloc (List.replicate 16 (.int .u8 0)), none⟩,
    ⟨none, .store 16 (.t 3) (.t 5), none⟩])
def A_spec_l01Turn.r2 : ACode := (.region none [⟨some 4, .move (.c (.int .i64 0)), none⟩])
def A_spec_l01Turn.r3 : ACode := (.region none [⟨some 6, .move (.t 4), none⟩,
    ⟨some 7, .move (.t 0), none⟩,
    ⟨some 8, .bin .lss (.t 6) (.t 7), none⟩])
def A_spec_l01Turn.r5 : ACode := (.region none [⟨some 11, .move (.t 4), none⟩,
    ⟨some 12, .move (.t 4), none⟩,
    ⟨some 13, .bin .add (.t 12) (.c (.int .i64 1)), none⟩,
    ⟨some 14, .move (.t 0), none⟩,
    ⟨some 15, .bin .rem (.t 13) (.t 14), none⟩,
    ⟨some 16, .conv .u8 (.t 15), none⟩,
    ⟨some 17, .indexAddr (some 16) 1 (.t 3) (.t 11), none⟩,
    ⟨none, .store 1 (.t 17) (.t 16), none⟩])
def A_spec_l01Turn.r4 : ACode := (.region none [⟨some 9, .move (.t 4), none⟩,
    ⟨some 10, .bin .add (.t 9) (.c (.int .i64 1)), none⟩,
    ⟨some 4, .move (.t 10), none⟩])
def A_spec_l01Turn.l0 : ACode := (.seq (.seq A_spec_l01Turn.r3 (.cond (.t 8) .skip (.exit 0))) (.seq (.block 1 A_spec_l01Turn.r5) A_spec_l01Turn.r4))
def A_spec_l01Turn.r6 : ACode := (.region none [⟨some 18, .load (some 16) (.t 3), none⟩,
    ⟨none, .store 16 (.t 2) (.t 18), none⟩])
def A_spec_l01Turn : AFunc := ⟨[.cell 2 (some 16)], (.seq A_spec_l01Turn.r0 (.seq A_spec_l01Turn.r1 (.seq (.seq A_spec_l01Turn.r2 (.block 0 (.loop A_spec_l01Turn.l0))) (.seq A_spec_l01Turn.r6 .ret))))⟩
/-! slices_Sort_int64_int64 -/
def A_slices_Sort_int64_int64.r0 : ACode := (.region none [⟨some 3, .move (.t 0), none⟩,
    ⟨some 4, .len (.t 3), none⟩,
    ⟨some 2, .move (.t 4), none⟩])
def A_slices_Sort_int64_int64.r1 : ACode := (.region none [⟨some 5, .move (.t 0), none⟩,
    ⟨some 6, .move (.t 2), none⟩,
    ⟨some 7, .move (.t 2), none⟩,
    ⟨some 8, .conv .u64 (.t 7), none⟩,
    ⟨some 9, .call 227 [(.t 8)], none⟩,
    ⟨some 10, .call 228 [(.t 5), (.c (.int .i64 0)), (.t 6), (.t 9)], none⟩])
def A_slices_Sort_int64_int64 : AFunc := ⟨[], (.seq A_slices_Sort_int64_int64.r0 A_slices_Sort_int64_int64.r1)⟩
/-! slices_Reverse_int64_int64 -/
def A_slices_Reverse_int64_int64.r0 : ACode := (.region none [⟨some 4, .move (.t 0), none⟩,
    ⟨some 5, .len (.t 4), none⟩,
    ⟨some 6, .bin .sub (.t 5) (.c (.int .i64 1)), none⟩,
    ⟨some 2, .move (.c (.int .i64 0)), none⟩,
    ⟨some 3, .move (.t 6), none⟩])
def A_slices_Reverse_int64_int64.r1 : ACode := (.region none [⟨some 7, .move (.t 2), none⟩,
    ⟨some 8, .move (.t 3), none⟩,
    ⟨some 9, .bin .lss (.t 7) (.t 8), none⟩])
def A_slices_Reverse_int64_int64.r3 : ACode := (.region (some 13) [⟨some 14, .move (.t 0), none⟩,
    ⟨some 15, .move (.t 2), none⟩,
    ⟨some 16, .move (.t 0), none⟩,
    ⟨some 17, .move (.t 3), none⟩,
    ⟨some 18, .move (.t 0), none⟩,
    ⟨some 19, .move (.t 3), none⟩,
    ⟨some 20, .indexAddr none 1 (.t 18) (.t 19), none⟩,
    ⟨some 21, .load none (.t 20), none⟩,
    ⟨some 22, .move (.t 0), none⟩,
    ⟨some 23, .move (.t 2), none⟩,
    ⟨some 24, .indexAddr none 1 (.t 22) (.t 23), none⟩,
    ⟨some 25, .load none (.t 24), none⟩,
    ⟨some 26, .indexAddr none 1 (.t 14) (.t 15), none⟩,
    ⟨none, .storeF 1 (.t 26) (.t 21) [], none⟩,
    ⟨some 27, .indexAddr none 1 (.t 16) (.t 17), none⟩,
    ⟨none, .store 1 (.t 27) (.t 25), none⟩])
def A_slices_Reverse_int64_int64.r2 : ACode := (.region none [⟨some 10, .move (.t 2), none⟩,
    ⟨some 11, .bin .add (.t 10) (.c (.int .i64 1)), none⟩,
    ⟨some 12, .move (.t 3), none⟩,
    ⟨some 13, .bin .sub (.t 12) (.c (.int .i64 1)), none⟩,
    ⟨some 2, .move (.t 11), none⟩,
    ⟨some 3, .move (.t 13), none⟩])
def A_slices_Reverse_int64_int64.l0 : ACode := (.seq (.seq A_slices_Reverse_int64_int64.r1 (.cond (.t 9) .skip (.exit 0))) (.seq (.block 1 A_slices_Reverse_int64_int64.r3) A_slices_Reverse_int64_int64.r2))
def A_slices_Reverse_int64_int64 : AFunc := ⟨[], (.seq A_slices_Reverse_int64_int64.r0 (.block 0 (.loop A_slices_Reverse_int64_int64.l0)))⟩
/-! slices_nextPowerOfTwo -/
def A_slices_nextPowerOfTwo.r0 : ACode := (.region none [⟨some 2, .move (.c (.int .u64 0)), none⟩])
def A_slices_nextPowerOfTwo.r1 : ACode := (.region none [⟨some 3, .move (.t 0), none⟩,
    ⟨some 4, .conv .u64 (.t 3), none⟩,
    ⟨some 5, .call 227 [(.t 4)], none⟩,
    ⟨some 6, .bin .shl (.c (.int .u64 1)) (.t 5), none⟩,
    ⟨some 2, .move (.t 6), none⟩])
def A_slices_nextPowerOfTwo : AFunc := ⟨[.tmp 2], (.seq A_slices_nextPowerOfTwo.r0 (.seq A_slices_nextPowerOfTwo.r1 .ret))⟩
/-! slices_xorshift_Next -/
def A_slices_xorshift_Next.r0 : ACode := (.region none [⟨some 2, .move (.c (.int .u64 0)), none⟩])
def A_slices_xorshift_Next.r1 : ACode := (.region (some 9) [⟨some 3, .move (.t 0), none⟩,
    ⟨some 4, .nilCheck (.t 3), none⟩,
    ⟨some 5, .load none (.t 4), none⟩,
    ⟨some 6, .move (.t 0), none⟩,
    ⟨some 7, .nilCheck (.t 6), none⟩,
    ⟨some 8, .load none (.t 7), none⟩,
    ⟨some 9, .bin .shl (.t 8) (.c (.int .u64 13)), none⟩,
    ⟨some 10, .bin .xor (.t 5) (.t 9), none⟩,
    ⟨some 11, .nilCheck (.t 3), none⟩,
    ⟨none, .store 1 (.t 11) (.t 10), none⟩])
def A_slices_xorshift_Next.r2 : ACode := (.region (some 9) [⟨some 12, .move (.t 0), none⟩,
    ⟨some 13, .nilCheck (.t 12), none⟩,
    ⟨some 14, .load none (.t 13), none⟩,
    ⟨some 15, .move (.t 0), none⟩,
    ⟨some 16, .nilCheck (.t 15), none⟩,
    ⟨some 17, .load none (.t 16), none⟩,
    ⟨some 18, .bin .shr (.t 17) (.c (.int .u64 7)), none⟩,
    ⟨some 19, .bin .xor (.t 14) (.t 18), none⟩,
    ⟨some 20, .nilCheck (.t 12), none⟩,
    ⟨none, .store 1 (.t 20) (.t 19), none⟩])
def A_slices_xorshift_Next.r3 : ACode := (.region (some 9) [⟨some 21, .move (.t 0), none⟩,
    ⟨some 22, .nilCheck (.t 21), none⟩,
    ⟨some 23, .load none (.t 22), none⟩,
    ⟨some 24, .move (.t 0), none⟩,
    ⟨some 25, .nilCheck (.t 24), none⟩,
    ⟨some 26, .load none (.t 25), none⟩,
    ⟨some 27, .bin .shl (.t 26) (.c (.int .u64 17)), none⟩,
    ⟨some 28, .bin .xor (.t 23) (.t 27), none⟩,
    ⟨some 29, .nilCheck (.t 21), none⟩,
    ⟨none, .store 1 (.t 29) (.t 28), none⟩])
def A_slices_xorshift_Next.r4 : ACode := (.region none [⟨some 30, .move (.t 0), none⟩,
    ⟨some 31, .nilCheck (.t 30), none⟩,
    ⟨some 32, .load none (.t 31), none⟩,
    ⟨some 2, .move (.t 32), none⟩])
def A_slices_xorshift_Next : AFunc := ⟨[.tmp 2], (.seq A_slices_xorshift_Next.r0 (.seq A_slices_xorshift_Next.r1 (.seq A_slices_xorshift_Next.r2 (.seq A_slices_xorshift_Next.r3 (.seq A_slices_xorshift_Next.r4 .ret)))))⟩
/-! slices_pdqsortOrdered_int64 -/
def A_slices_pdqsortOrdered_int64.r0 : ACode := (.region none [⟨some 8, .move (.c (.bool true)), none⟩])
def A_slices_pdqsortOrdered_int64.r1 : ACode := (.region none [⟨some 9, .move (.c (.bool true)), none⟩])
def A_slices_pdqsortOrdered_int64.r2 : ACode := (.region none [⟨some 19, .move (.t 2), none⟩,
    ⟨some 20, .move (.t 1), none⟩,
    ⟨some 21, .bin .sub (.t 19) (.t 20), none⟩,
    ⟨some 10, .move (.t 21), none⟩])
def A_slices_pdqsortOrdered_int64.r3 : ACode := (.region none [⟨some 22, .move (.t 10), none⟩,
    ⟨some 23, .bin .leq (.t 22) (.c (.int .i64 12)), none⟩])
def A_slices_pdqsortOrdered_int64.r4 : ACode := (.region none [⟨some 24, .move (.t 0), none⟩,
    ⟨some 25, .move (.t 1), none⟩,
    ⟨some 26, .move (.t 2), none⟩,
    ⟨some 27, .call 229 [(.t 24), (.t 25), (.t 26)], none⟩])
def A_slices_pdqsortOrdered_int64.r5 : ACode := (.region none [⟨some 28, .move (.t 3), none⟩,
    ⟨some 29, .bin .eql (.t 28) (.c (.int .i64 0)), none⟩])
def A_slices_pdqsortOrdered_int64.r6 : ACode := (.region none [⟨some 30, .move (.t 0), none⟩,
    ⟨some 31, .move (.t 1), none⟩,
    ⟨some 32, .move (.t 2), none⟩,
    ⟨some 33, .call 230 [(.t 30), (.t 31), (.t 32)], none⟩])
def A_slices_pdqsortOrdered_int64.r7 : ACode := (.region none [⟨some 34, .move (.t 8), none⟩,
    ⟨some 35, .not (.t 34), none⟩])
def A_slices_pdqsortOrdered_int64.r8 : ACode := (.region none [⟨some 36, .move (.t 0), none⟩,
    ⟨some 37, .move (.t 1), none⟩,
    ⟨some 38, .move (.t 2), none⟩,
    ⟨some 39, .call 231 [(.t 36), (.t 37), (.t 38)], none⟩])
def A_slices_pdqsortOrdered_int64.r9 : ACode := (.region none [⟨some 40, .move (.t 3), none⟩,
    ⟨some 41, .bin .sub (.t 40) (.c (.int .i64 1)), none⟩,
    ⟨some 3, .move (.t 41), none⟩])
def A_slices_pdqsortOrdered_int64.r10 : ACode := (.region none [⟨some 43, .move (.t 0), none⟩,
    ⟨some 44, .move (.t 1), none⟩,
    ⟨some 45, .move (.t 2), none⟩,
    ⟨some 46, .call 232 [(.t 43), (.t 44), (.t 45)], none⟩,
    ⟨some 42, .move (.t 46), none⟩,
    ⟨some 47, .extract (.t 42) 0, none⟩,
    ⟨some 48, .extract (.t 42) 1, none⟩,
    ⟨some 11, .move (.t 47), none⟩,
    ⟨some 12, .move (.t 48), none⟩])
def A_slices_pdqsortOrdered_int64.r11 : ACode := (.region none [⟨some 49, .move (.t 12), none⟩,
    ⟨some 50, .bin .eql (.t 49) (.c (.int .i64 2)), none⟩])
def A_slices_pdqsortOrdered_int64.r12 : ACode := (.region none [⟨some 51, .move (.t 0), none⟩,
    ⟨some 52, .move (.t 1), none⟩,
    ⟨some 53, .move (.t 2), none⟩,
    ⟨some 54, .call 233 [(.t 51), (.t 52), (.t 53)], none⟩])
def A_slices_pdqsortOrdered_int64.r13 : ACode := (.region none [⟨some 55, .move (.t 2), none⟩,
    ⟨some 56, .bin .sub (.t 55) (.c (.int .i64 1)), none⟩,
    ⟨some 57, .move (.t 11), none⟩,
    ⟨some 58, .move (.t 1), none⟩,
    ⟨some 59, .bin .sub (.t 57) (.t 58), none⟩,
    ⟨some 60, .bin .sub (.t 56) (.t 59), none⟩,
    ⟨some 11, .move (.t 60), none⟩])
def A_slices_pdqsortOrdered_int64.r14 : ACode := (.region none [⟨some 12, .move (.c (.int .i64 1)), none⟩])
def A_slices_pdqsortOrdered_int64.r15 : ACode := (.region none [⟨some 61, .move (.t 8), none⟩,
    ⟨some 62, .move (.t 61), none⟩,
    ⟨some 63, .move (.t 9), some (62, true)⟩,
    ⟨some 64, .pick (.t 62) (.t 63) (.c (.bool false)), none⟩,
    ⟨some 65, .move (.t 64), none⟩,
    ⟨some 66, .move (.t 12), some (65, true)⟩,
    ⟨some 67, .bin .eql (.t 66) (.c (.int .i64 1)), some (65, true)⟩,
    ⟨some 68, .pick (.t 65) (.t 67) (.c (.bool false)), none⟩])
def A_slices_pdqsortOrdered_int64.r16 : ACode := (.region none [⟨some 69, .move (.t 0), none⟩,
    ⟨some 70, .move (.t 1), none⟩,
    ⟨some 71, .move (.t 2), none⟩,
    ⟨some 72, .call 234 [(.t 69), (.t 70), (.t 71)], none⟩])
def A_slices_pdqsortOrdered_int64.r17 : ACode := (.region (some 15) [⟨some 73, .move (.t 1), none⟩,
    ⟨some 74, .bin .gtr (.t 73) (.c (.int .i64 0)), none⟩,
    ⟨some 75, .move (.t 74), none⟩,
    ⟨some 76, .move (.t 0), some (75, true)⟩,
    ⟨some 77, .move (.t 1), some (75, true)⟩,
    ⟨some 78, .bin .sub (.t 77) (.c (.int .i64 1)), some (75, true)⟩,
    ⟨some 79, .indexAddr none 1 (.t 76) (.t 78), some (75, true)⟩,
    ⟨some 80, .load none (.t 79), some (75, true)⟩,
    ⟨some 81, .move (.t 0), some (75, true)⟩,
    ⟨some 82, .move (.t 11), some (75, true)⟩,
    ⟨some 83, .indexAddr none 1 (.t 81) (.t 82), some (75, true)⟩,
    ⟨some 84, .load none (.t 83), some (75, true)⟩,
    ⟨some 85, .call 235 [(.t 80), (.t 84)], some (75, true)⟩,
    ⟨some 86, .not (.t 85), some (75, true)⟩,
    ⟨some 87, .pick (.t 75) (.t 86) (.c (.bool false)), none⟩])
def A_slices_pdqsortOrdered_int64.r18 : ACode := (.region none [⟨some 88, .move (.t 0), none⟩,
    ⟨some 89, .move (.t 1), none⟩,
    ⟨some 90, .move (.t 2), none⟩,
    ⟨some 91, .move (.t 11), none⟩,
    ⟨some 92, .call 236 [(.t 88), (.t 89), (.t 90), (.t 91)], none⟩,
    ⟨some 13, .move (.t 92), none⟩])
def A_slices_pdqsortOrdered_int64.r19 : ACode := (.region none [⟨some 93, .move (.t 13), none⟩,
    ⟨some 1, .move (.t 93), none⟩])
def A_slices_pdqsortOrdered_int64.r20 : ACode := (.region none [⟨some 95, .move (.t 0), none⟩,
    ⟨some 96, .move (.t 1), none⟩,
    ⟨some 97, .move (.t 2), none⟩,
    ⟨some 98, .move (.t 11), none⟩,
    ⟨some 99, .call 237 [(.t 95), (.t 96), (.t 97), (.t 98)], none⟩,
    ⟨some 94, .move (.t 99), none⟩,
    ⟨some 100, .extract (.t 94) 0, none⟩,
    ⟨some 101, .extract (.t 94) 1, none⟩,
    ⟨some 14, .move (.t 100), none⟩,
    ⟨some 15, .move (.t 101), none⟩])
def A_slices_pdqsortOrdered_int64.r21 : ACode := (.region none [⟨some 102, .move (.t 15), none⟩,
    ⟨some 9, .move (.t 102), none⟩])
def A_slices_pdqsortOrdered_int64.r22 : ACode := (.region none [⟨some 103, .move (.t 14), none⟩,
    ⟨some 104, .move (.t 1), none⟩,
    ⟨some 105, .bin .sub (.t 103) (.t 104), none⟩,
    ⟨some 106, .move (.t 2), none⟩,
    ⟨some 107, .move (.t 14), none⟩,
    ⟨some 108, .bin .sub (.t 106) (.t 107), none⟩,
    ⟨some 16, .move (.t 105), none⟩,
    ⟨some 17, .move (.t 108), none⟩])
def A_slices_pdqsortOrdered_int64.r23 : ACode := (.region none [⟨some 109, .move (.t 10), none⟩,
    ⟨some 110, .bin .quo (.t 109) (.c (.int .i64 8)), none⟩,
    ⟨some 18, .move (.t 110), none⟩])
def A_slices_pdqsortOrdered_int64.r24 : ACode := (.region none [⟨some 111, .move (.t 16), none⟩,
    ⟨some 112, .move (.t 17), none⟩,
    ⟨some 113, .bin .lss (.t 111) (.t 112), none⟩])
def A_slices_pdqsortOrdered_int64.r25 : ACode := (.region none [⟨some 114, .move (.t 16), none⟩,
    ⟨some 115, .move (.t 18), none⟩,
    ⟨some 116, .bin .geq (.t 114) (.t 115), none⟩,
    ⟨some 8, .move (.t 116), none⟩])
def A_slices_pdqsortOrdered_int64.r26 : ACode := (.region none [⟨some 117, .move (.t 0), none⟩,
    ⟨some 118, .move (.t 1), none⟩,
    ⟨some 119, .move (.t 14), none⟩,
    ⟨some 120, .move (.t 3), none⟩,
    ⟨some 121, .call 228 [(.t 117), (.t 118), (.t 119), (.t 120)], none⟩])
def A_slices_pdqsortOrdered_int64.r27 : ACode := (.region none [⟨some 122, .move (.t 14), none⟩,
    ⟨some 123, .bin .add (.t 122) (.c (.int .i64 1)), none⟩,
    ⟨some 1, .move (.t 123), none⟩])
def A_slices_pdqsortOrdered_int64.r28 : ACode := (.region none [⟨some 124, .move (.t 17), none⟩,
    ⟨some 125, .move (.t 18), none⟩,
    ⟨some 126, .bin .geq (.t 124) (.t 125), none⟩,
    ⟨some 8, .move (.t 126), none⟩])
def A_slices_pdqsortOrdered_int64.r29 : ACode := (.region none [⟨some 127, .move (.t 0), none⟩,
    ⟨some 128, .move (.t 14), none⟩,
    ⟨some 129, .bin .add (.t 128) (.c (.int .i64 1)), none⟩,
    ⟨some 130, .move (.t 2), none⟩,
    ⟨some 131, .move (.t 3), none⟩,
    ⟨some 132, .call 228 [(.t 127), (.t 129), (.t 130), (.t 131)], none⟩])
def A_slices_pdqsortOrdered_int64.r30 : ACode := (.region none [⟨some 133, .move (.t 14), none⟩,
    ⟨some 2, .move (.t 133), none⟩])
def A_slices_pdqsortOrdered_int64.l0 : ACode := (.block 1 (.seq A_slices_pdqsortOrdered_int64.r2 (.seq (.seq A_slices_pdqsortOrdered_int64.r3 (.cond (.t 23) (.seq A_slices_pdqsortOrdered_int64.r4 .ret) .skip)) (.seq (.seq A_slices_pdqsortOrdered_int64.r5 (.cond (.t 29) (.seq A_slices_pdqsortOrdered_int64.r6 .ret) .skip)) (.seq (.seq A_slices_pdqsortOrdered_int64.r7 (.cond (.t 35) (.seq A_slices_pdqsortOrdered_int64.r8 A_slices_pdqsortOrdered_int64.r9) .skip)) (.seq A_slices_pdqsortOrdered_int64.r10 (.seq (.seq A_slices_pdqsortOrdered_int64.r11 (.cond (.t 50) (.seq A_slices_pdqsortOrdered_int64.r12 (.seq A_slices_pdqsortOrdered_int64.r13 A_slices_pdqsortOrdered_int64.r14)) .skip)) (.seq (.seq A_slices_pdqsortOrdered_int64.r15 (.cond (.t 68) (.seq A_slices_pdqsortOrdered_int64.r16 (.cond (.t 72) .ret .skip)) .skip)) (.seq (.seq A_slices_pdqsortOrdered_int64.r17 (.cond (.t 87) (.seq A_slices_pdqsortOrdered_int64.r18 (.seq A_slices_pdqsortOrdered_int64.r19 (.exit 1))) .skip)) (.seq A_slices_pdqsortOrdered_int64.r20 (.seq A_slices_pdqsortOrdered_int64.r21 (.seq A_slices_pdqsortOrdered_int64.r22 (.seq A_slices_pdqsortOrdered_int64.r23 (.seq A_slices_pdqsortOrdered_int64.r24 (.cond (.t 113) (.seq A_slices_pdqsortOrdered_int64.r25 (.seq A_slices_pdqsortOrdered_int64.r26 A_slices_pdqsortOrdered_int64.r27)) (.seq A_slices_pdqsortOrdered_int64.r28 (.seq A_slices_pdqsortOrdered_int64.r29 A_slices_pdqsortOrdered_int64.r30)))))))))))))))))
def A_slices_pdqsortOrdered_int64 : AFunc := ⟨[], (.seq A_slices_pdqsortOrdered_int64.r0 (.seq A_slices_pdqsortOrdered_int64.r1 (.block 0 (.loop A_slices_pdqsortOrdered_int64.l0))))⟩
/-! slices_insertionSortOrdered_int64 -/
def A_slices_insertionSortOrdered_int64.r0 : ACode := (.region none [⟨some 8, .move (.t 1), none⟩,
    ⟨some 9, .bin .add (.t 8) (.c (.int .i64 1)), none⟩,
    ⟨some 6, .move (.t 9), none⟩])
def A_slices_insertionSortOrdered_int64.r1 : ACode := (.region none [⟨some 10, .move (.t 6), none⟩,
    ⟨some 11, .move (.t 2), none⟩,
    ⟨some 12, .bin .lss (.t 10) (.t 11), none⟩])
def A_slices_insertionSortOrdered_int64.r3 : ACode := (.region none [⟨some 15, .move (.t 6), none⟩,
    ⟨some 7, .move (.t 15), none⟩])
def A_slices_insertionSortOrdered_int64.r4 : ACode := (.region (some 15) [⟨some 16, .move (.t 7), none⟩,
    ⟨some 17, .move (.t 1), none⟩,
    ⟨some 18, .bin .gtr (.t 16) (.t 17), none⟩,
    ⟨some 19, .move (.t 18), none⟩,
    ⟨some 20, .move (.t 0), some (19, true)⟩,
    ⟨some 21, .move (.t 7), some (19, true)⟩,
    ⟨some 22, .indexAddr none 1 (.t 20) (.t 21), some (19, true)⟩,
    ⟨some 23, .load none (.t 22), some (19, true)⟩,
    ⟨some 24, .move (.t 0), some (19, true)⟩,
    ⟨some 25, .move (.t 7), some (19, true)⟩,
    ⟨some 26, .bin .sub (.t 25) (.c (.int .i64 1)), some (19, true)⟩,
    ⟨some 27, .indexAddr none 1 (.t 24) (.t 26), some (19, true)⟩,
    ⟨some 28, .load none (.t 27), some (19, true)⟩,
    ⟨some 29, .call 235 [(.t 23), (.t 28)], some (19, true)⟩,
    ⟨some 30, .pick (.t 19) (.t 29) (.c (.bool false)), none⟩])
def A_slices_insertionSortOrdered_int64.r6 : ACode := (.region (some 15) [⟨some 33, .move (.t 0), none⟩,
    ⟨some 34, .move (.t 7), none⟩,
    ⟨some 35, .move (.t 0), none⟩,
    ⟨some 36, .move (.t 7), none⟩,
    ⟨some 37, .bin .sub (.t 36) (.c (.int .i64 1)), none⟩,
    ⟨some 38, .move (.t 0), none⟩,
    ⟨some 39, .move (.t 7), none⟩,
    ⟨some 40, .bin .sub (.t 39) (.c (.int .i64 1)), none⟩,
    ⟨some 41, .indexAddr none 1 (.t 38) (.t 40), none⟩,
    ⟨some 42, .load none (.t 41), none⟩,
    ⟨some 43, .move (.t 0), none⟩,
    ⟨some 44, .move (.t 7), none⟩,
    ⟨some 45, .indexAddr none 1 (.t 43) (.t 44), none⟩,
    ⟨some 46, .load none (.t 45), none⟩,
    ⟨some 47, .indexAddr none 1 (.t 33) (.t 34), none⟩,
    ⟨none, .storeF 1 (.t 47) (.t 42) [], none⟩,
    ⟨some 48, .indexAddr none 1 (.t 35) (.t 37), none⟩,
    ⟨none, .store 1 (.t 48) (.t 46), none⟩])
def A_slices_insertionSortOrdered_int64.r5 : ACode := (.region none [⟨some 31, .move (.t 7), none⟩,
    ⟨some 32, .bin .sub (.t 31) (.c (.int .i64 1)), none⟩,
    ⟨some 7, .move (.t 32), none⟩])
def A_slices_insertionSortOrdered_int64.l0 : ACode := (.seq (.seq A_slices_insertionSortOrdered_int64.r4 (.cond (.t 30) .skip (.exit 2))) (.seq (.block 3 A_slices_insertionSortOrdered_int64.r6) A_slices_insertionSortOrdered_int64.r5))
def A_slices_insertionSortOrdered_int64.r2 : ACode := (.region none [⟨some 13, .move (.t 6), none⟩,
    ⟨some 14, .bin .add (.t 13) (.c (.int .i64 1)), none⟩,
    ⟨some 6, .move (.t 14), none⟩])
def A_slices_insertionSortOrdered_int64.l1 : ACode := (.seq (.seq A_slices_insertionSortOrdered_int64.r1 (.cond (.t 12) .skip (.exit 0))) (.seq (.block 1 (.seq A_slices_insertionSortOrdered_int64.r3 (.block 2 (.loop A_slices_insertionSortOrdered_int64.l0)))) A_slices_insertionSortOrdered_int64.r2))
def A_slices_insertionSortOrdered_int64 : AFunc := ⟨[], (.seq A_slices_insertionSortOrdered_int64.r0 (.block 0 (.loop A_slices_insertionSortOrdered_int64.l1)))⟩
/-! slices_breakPatternsOrdered_int64 -/
def A_slices_breakPatternsOrdered_int64.r0 : ACode := (.region none [⟨some 11, .move (.t 2), none⟩,
    ⟨some 12, .move (.t 1), none⟩,
    ⟨some 13, .bin .sub (.t 11) (.t 12), none⟩,
    ⟨some 6, .move (.t 13), none⟩])
def A_slices_breakPatternsOrdered_int64.r1 : ACode := (.region none [⟨some 14, .move (.t 6), none⟩,
    ⟨some 15, .bin .geq (.t 14) (.c (.int .i64 8)), none⟩])
def A_slices_breakPatternsOrdered_int64.r2 : ACode := (.region none [⟨some 16, .move (.t 6), none⟩,
    ⟨some 17, .conv .u64 (.t 16), none⟩,
    ⟨some 7, .alloc [.int .u64 0], none⟩,
    ⟨none, .store 1 (.t 7) (.t 17), none⟩])
def A_slices_breakPatternsOrdered_int64.r3 : ACode := (.region none [⟨some 18, .move (.t 6), none⟩,
    ⟨some 19, .call 240 [(.t 18)], none⟩,
    ⟨some 8, .move (.t 19), none⟩])
def A_slices_breakPatternsOrdered_int64.r4 : ACode := (.region none [⟨some 20, .move (.t 1), none⟩,
    ⟨some 21, .move (.t 6), none⟩,
    ⟨some 22, .bin .quo (.t 21) (.c (.int .i64 4)), none⟩,
    ⟨some 23, .bin .mul (.t 22) (.c (.int .i64 2)), none⟩,
    ⟨some 24, .bin .add (.t 20) (.t 23), none⟩,
    ⟨some 25, .bin .sub (.t 24) (.c (.int .i64 1)), none⟩,
    ⟨some 9, .move (.t 25), none⟩])
def A_slices_breakPatternsOrdered_int64.r5 : ACode := (.region none [⟨some 26, .move (.t 9), none⟩,
    ⟨some 27, .move (.t 1), none⟩,
    ⟨some 28, .move (.t 6), none⟩,
    ⟨some 29, .bin .quo (.t 28) (.c (.int .i64 4)), none⟩,
    ⟨some 30, .bin .mul (.t 29) (.c (.int .i64 2)), none⟩,
    ⟨some 31, .bin .add (.t 27) (.t 30), none⟩,
    ⟨some 32, .bin .add (.t 31) (.c (.int .i64 1)), none⟩,
    ⟨some 33, .bin .leq (.t 26) (.t 32), none⟩])
def A_slices_breakPatternsOrdered_int64.r7 : ACode := (.region none [⟨some 36, .call 241 [(.t 7)], none⟩,
    ⟨some 37, .move (.t 8), none⟩,
    ⟨some 38, .bin .sub (.t 37) (.c (.int .u64 1)), none⟩,
    ⟨some 39, .bin .and (.t 36) (.t 38), none⟩,
    ⟨some 40, .conv .i64 (.t 39), none⟩,
    ⟨some 10, .move (.t 40), none⟩])
def A_slices_breakPatternsOrdered_int64.r8 : ACode := (.region none [⟨some 41, .move (.t 10), none⟩,
    ⟨some 42, .move (.t 6), none⟩,
    ⟨some 43, .bin .geq (.t 41) (.t 42), none⟩])
def A_slices_breakPatternsOrdered_int64.r9 : ACode := (.region none [⟨some 44, .move (.t 10), none⟩,
    ⟨some 45, .move (.t 6), none⟩,
    ⟨some 46, .bin .sub (.t 44) (.t 45), none⟩,
    ⟨some 10, .move (.t 46), none⟩])
def A_slices_breakPatternsOrdered_int64.r10 : ACode := (.region (some 17) [⟨some 47, .move (.t 0), none⟩,
    ⟨some 48, .move (.t 9), none⟩,
    ⟨some 49, .move (.t 0), none⟩,
    ⟨some 50, .move (.t 1), none⟩,
    ⟨some 51, .move (.t 10), none⟩,
    ⟨some 52, .bin .add (.t 50) (.t 51), none⟩,
    ⟨some 53, .move (.t 0), none⟩,
    ⟨some 54, .move (.t 1), none⟩,
    ⟨some 55, .move (.t 10), none⟩,
    ⟨some 56, .bin .add (.t 54) (.t 55), none⟩,
    ⟨some 57, .indexAddr none 1 (.t 53) (.t 56), none⟩,
    ⟨some 58, .load none (.t 57), none⟩,
    ⟨some 59, .move (.t 0), none⟩,
    ⟨some 60, .move (.t 9), none⟩,
    ⟨some 61, .indexAddr none 1 (.t 59) (.t 60), none⟩,
    ⟨some 62, .load none (.t 61), none⟩,
    ⟨some 63, .indexAddr none 1 (.t 47) (.t 48), none⟩,
    ⟨none, .storeF 1 (.t 63) (.t 58) [], none⟩,
    ⟨some 64, .indexAddr none 1 (.t 49) (.t 52), none⟩,
    ⟨none, .store 1 (.t 64) (.t 62), none⟩])
def A_slices_breakPatternsOrdered_int64.r6 : ACode := (.region none [⟨some 34, .move (.t 9), none⟩,
    ⟨some 35, .bin .add (.t 34) (.c (.int .i64 1)), none⟩,
    ⟨some 9, .move (.t 35), none⟩])
def A_slices_breakPatternsOrdered_int64.l0 : ACode := (.seq (.seq A_slices_breakPatternsOrdered_int64.r5 (.cond (.t 33) .skip (.exit 0))) (.seq (.block 1 (.seq A_slices_breakPatternsOrdered_int64.r7 (.seq (.seq A_slices_breakPatternsOrdered_int64.r8 (.cond (.t 43) A_slices_breakPatternsOrdered_int64.r9 .skip)) A_slices_breakPatternsOrdered_int64.r10))) A_slices_breakPatternsOrdered_int64.r6))
def A_slices_breakPatternsOrdered_int64 : AFunc := ⟨[], (.seq A_slices_breakPatternsOrdered_int64.r0 (.seq A_slices_breakPatternsOrdered_int64.r1 (.cond (.t 15) (.seq A_slices_breakPatternsOrdered_int64.r2 (.seq A_slices_breakPatternsOrdered_int64.r3 (.seq A_slices_breakPatternsOrdered_int64.r4 (.block 0 (.loop A_slices_breakPatternsOrdered_int64.l0))))) .skip)))⟩
/-! slices_choosePivotOrdered_int64 -/
def A_slices_choosePivotOrdered_int64.r0 : ACode := (.region none [⟨some 6, .move (.c (.int .i64 0)), none⟩,
    ⟨some 7, .move (.c (.int .i64 0)), none⟩])
def A_slices_choosePivotOrdered_int64.r1 : ACode := (.region none [⟨some 13, .move (.t 2), none⟩,
    ⟨some 14, .move (.t 1), none⟩,
    ⟨some 15, .bin .sub (.t 13) (.t 14), none⟩,
    ⟨some 8, .move (.t 15), none⟩])
def A_slices_choosePivotOrdered_int64.r2 : ACode := (.region none [⟨some 9, .alloc [.int .i64 0], none⟩])
def A_slices_choosePivotOrdered_int64.r3 : ACode := (.region none [⟨some 16, .move (.t 1), none⟩,
    ⟨some 17, .move (.t 8), none⟩,
    ⟨some 18, .bin .quo (.t 17) (.c (.int .i64 4)), none⟩,
    ⟨some 19, .bin .mul (.t 18) (.c (.int .i64 1)), none⟩,
    ⟨some 20, .bin .add (.t 16) (.t 19), none⟩,
    ⟨some 10, .move (.t 20), none⟩])
def A_slices_choosePivotOrdered_int64.r4 : ACode := (.region none [⟨some 21, .move (.t 1), none⟩,
    ⟨some 22, .move (.t 8), none⟩,
    ⟨some 23, .bin .quo (.t 22) (.c (.int .i64 4)), none⟩,
    ⟨some 24, .bin .mul (.t 23) (.c (.int .i64 2)), none⟩,
    ⟨some 25, .bin .add (.t 21) (.t 24), none⟩,
    ⟨some 11, .move (.t 25), none⟩])
def A_slices_choosePivotOrdered_int64.r5 : ACode := (.region none [⟨some 26, .move (.t 1), none⟩,
    ⟨some 27, .move (.t 8), none⟩,
    ⟨some 28, .bin .quo (.t 27) (.c (.int .i64 4)), none⟩,
    ⟨some 29, .bin .mul (.t 28) (.c (.int .i64 3)), none⟩,
    ⟨some 30, .bin .add (.t 26) (.t 29), none⟩,
    ⟨some 12, .move (.t 30), none⟩])
def A_slices_choosePivotOrdered_int64.r6 : ACode := (.region none [⟨some 31, .move (.t 8), none⟩,
    ⟨some 32, .bin .geq (.t 31) (.c (.int .i64 8)), none⟩])
def A_slices_choosePivotOrdered_int64.r7 : ACode := (.region none [⟨some 33, .move (.t 8), none⟩,
    ⟨some 34, .bin .geq (.t 33) (.c (.int .i64 50)), none⟩])
def A_slices_choosePivotOrdered_int64.r8 : ACode := (.region none [⟨some 35, .move (.t 0), none⟩,
    ⟨some 36, .move (.t 10), none⟩,
    ⟨some 37, .call 242 [(.t 35), (.t 36), (.t 9)], none⟩,
    ⟨some 10, .move (.t 37), none⟩])
def A_slices_choosePivotOrdered_int64.r9 : ACode := (.region none [⟨some 38, .move (.t 0), none⟩,
    ⟨some 39, .move (.t 11), none⟩,
    ⟨some 40, .call 242 [(.t 38), (.t 39), (.t 9)], none⟩,
    ⟨some 11, .move (.t 40), none⟩])
def A_slices_choosePivotOrdered_int64.r10 : ACode := (.region none [⟨some 41, .move (.t 0), none⟩,
    ⟨some 42, .move (.t 12), none⟩,
    ⟨some 43, .call 242 [(.t 41), (.t 42), (.t 9)], none⟩,
    ⟨some 12, .move (.t 43), none⟩])
def A_slices_choosePivotOrdered_int64.r11 : ACode := (.region none [⟨some 44, .move (.t 0), none⟩,
    ⟨some 45, .move (.t 10), none⟩,
    ⟨some 46, .move (.t 11), none⟩,
    ⟨some 47, .move (.t 12), none⟩,
    ⟨some 48, .call 243 [(.t 44), (.t 45), (.t 46), (.t 47), (.t 9)], none⟩,
    ⟨some 11, .move (.t 48), none⟩])
def A_slices_choosePivotOrdered_int64.r12 : ACode := (.region none [⟨some 49, .load none (.t 9), none⟩])
def A_slices_choosePivotOrdered_int64.r14 : ACode := (.region none [⟨some 52, .bin .eql (.t 49) (.c (.int .i64 0)), none⟩,
    ⟨some 51, .move (.t 52), none⟩])
def A_slices_choosePivotOrdered_int64.r15 : ACode := (.region none [⟨some 53, .move (.t 11), none⟩,
    ⟨some 6, .move (.t 53), none⟩,
    ⟨some 7, .move (.c (.int .i64 1)), none⟩])
def A_slices_choosePivotOrdered_int64.r16 : ACode := (.region none [⟨some 55, .bin .eql (.t 49) (.c (.int .i64 12)), none⟩,
    ⟨some 54, .move (.t 55), none⟩])
def A_slices_choosePivotOrdered_int64.r17 : ACode := (.region none [⟨some 56, .move (.t 11), none⟩,
    ⟨some 6, .move (.t 56), none⟩,
    ⟨some 7, .move (.c (.int .i64 2)), none⟩])
def A_slices_choosePivotOrdered_int64.r13 : ACode := (.region none [⟨some 50, .move (.t 11), none⟩,
    ⟨some 6, .move (.t 50), none⟩,
    ⟨some 7, .move (.c (.int .i64 0)), none⟩])
def A_slices_choosePivotOrdered_int64 : AFunc := ⟨[.tmp 6, .tmp 7], (.seq A_slices_choosePivotOrdered_int64.r0 (.seq A_slices_choosePivotOrdered_int64.r1 (.seq A_slices_choosePivotOrdered_int64.r2 (.seq A_slices_choosePivotOrdered_int64.r3 (.seq A_slices_choosePivotOrdered_int64.r4 (.seq A_slices_choosePivotOrdered_int64.r5 (.seq (.seq A_slices_choosePivotOrdered_int64.r6 (.cond (.t 32) (.seq (.seq A_slices_choosePivotOrdered_int64.r7 (.cond (.t 34) (.seq A_slices_choosePivotOrdered_int64.r8 (.seq A_slices_choosePivotOrdered_int64.r9 A_slices_choosePivotOrdered_int64.r10)) .skip)) A_slices_choosePivotOrdered_int64.r11) .skip)) (.seq A_slices_choosePivotOrdered_int64.r12 (.block 0 (.seq A_slices_choosePivotOrdered_int64.r14 (.cond (.t 51) (.seq A_slices_choosePivotOrdered_int64.r15 .ret) (.seq A_slices_choosePivotOrdered_int64.r16 (.cond (.t 54) (.seq A_slices_choosePivotOrdered_int64.r17 .ret) (.seq A_slices_choosePivotOrdered_int64.r13 .ret))))))))))))))⟩
/-! slices_reverseRangeOrdered_int64 -/
def A_slices_reverseRangeOrdered_int64.r0 : ACode := (.region none [⟨some 8, .move (.t 1), none⟩,
    ⟨some 6, .move (.t 8), none⟩])
def A_slices_reverseRangeOrdered_int64.r1 : ACode := (.region none [⟨some 9, .move (.t 2), none⟩,
    ⟨some 10, .bin .sub (.t 9) (.c (.int .i64 1)), none⟩,
    ⟨some 7, .move (.t 10), none⟩])
def A_slices_reverseRangeOrdered_int64.r2 : ACode := (.region none [⟨some 11, .move (.t 6), none⟩,
    ⟨some 12, .move (.t 7), none⟩,
    ⟨some 13, .bin .lss (.t 11) (.t 12), none⟩])
def A_slices_reverseRangeOrdered_int64.r3 : ACode := (.region (some 13) [⟨some 14, .move (.t 0), none⟩,
    ⟨some 15, .move (.t 6), none⟩,
    ⟨some 16, .move (.t 0), none⟩,
    ⟨some 17, .move (.t 7), none⟩,
    ⟨some 18, .move (.t 0), none⟩,
    ⟨some 19, .move (.t 7), none⟩,
    ⟨some 20, .indexAddr none 1 (.t 18) (.t 19), none⟩,
    ⟨some 21, .load none (.t 20), none⟩,
    ⟨some 22, .move (.t 0), none⟩,
    ⟨some 23, .move (.t 6), none⟩,
    ⟨some 24, .indexAddr none 1 (.t 22) (.t 23), none⟩,
    ⟨some 25, .load none (.t 24), none⟩,
    ⟨some 26, .indexAddr none 1 (.t 14) (.t 15), none⟩,
    ⟨none, .storeF 1 (.t 26) (.t 21) [], none⟩,
    ⟨some 27, .indexAddr none 1 (.t 16) (.t 17), none⟩,
    ⟨none, .store 1 (.t 27) (.t 25), none⟩])
def A_slices_reverseRangeOrdered_int64.r4 : ACode := (.region none [⟨some 28, .move (.t 6), none⟩,
    ⟨some 29, .bin .add (.t 28) (.c (.int .i64 1)), none⟩,
    ⟨some 6, .move (.t 29), none⟩])
def A_slices_reverseRangeOrdered_int64.r5 : ACode := (.region none [⟨some 30, .move (.t 7), none⟩,
    ⟨some 31, .bin .sub (.t 30) (.c (.int .i64 1)), none⟩,
    ⟨some 7, .move (.t 31), none⟩])
def A_slices_reverseRangeOrdered_int64.l0 : ACode := (.seq (.seq A_slices_reverseRangeOrdered_int64.r2 (.cond (.t 13) .skip (.exit 0))) (.block 1 (.seq A_slices_reverseRangeOrdered_int64.r3 (.seq A_slices_reverseRangeOrdered_int64.r4 A_slices_reverseRangeOrdered_int64.r5))))
def A_slices_reverseRangeOrdered_int64 : AFunc := ⟨[], (.seq A_slices_reverseRangeOrdered_int64.r0 (.seq A_slices_reverseRangeOrdered_int64.r1 (.block 0 (.loop A_slices_reverseRangeOrdered_int64.l0))))⟩
/-! slices_partialInsertionSortOrdered_int64 -/
def A_slices_partialInsertionSortOrdered_int64.r0 : ACode := (.region none [⟨some 6, .move (.c (.bool false)), none⟩])
def A_slices_partialInsertionSortOrdered_int64.r1 : ACode := (.region none [⟨some 11, .move (.t 1), none⟩,
    ⟨some 12, .bin .add (.t 11) (.c (.int .i64 1)), none⟩,
    ⟨some 7, .move (.t 12), none⟩])
def A_slices_partialInsertionSortOrdered_int64.r2 : ACode := (.region none [⟨some 8, .move (.c (.int .i64 0)), none⟩])
def A_slices_partialInsertionSortOrdered_int64.r3 : ACode := (.region none [⟨some 13, .move (.t 8), none⟩,
    ⟨some 14, .bin .lss (.t 13) (.c (.int .i64 5)), none⟩])
def A_slices_partialInsertionSortOrdered_int64.r5 : ACode := (.region (some 16) [⟨some 17, .move (.t 7), none⟩,
    ⟨some 18, .move (.t 2), none⟩,
    ⟨some 19, .bin .lss (.t 17) (.t 18), none⟩,
    ⟨some 20, .move (.t 19), none⟩,
    ⟨some 21, .move (.t 0), some (20, true)⟩,
    ⟨some 22, .move (.t 7), some (20, true)⟩,
    ⟨some 23, .indexAddr none 1 (.t 21) (.t 22), some (20, true)⟩,
    ⟨some 24, .load none (.t 23), some (20, true)⟩,
    ⟨some 25, .move (.t 0), some (20, true)⟩,
    ⟨some 26, .move (.t 7), some (20, true)⟩,
    ⟨some 27, .bin .sub (.t 26) (.c (.int .i64 1)), some (20, true)⟩,
    ⟨some 28, .indexAddr none 1 (.t 25) (.t 27), some (20, true)⟩,
    ⟨some 29, .load none (.t 28), some (20, true)⟩,
    ⟨some 30, .call 235 [(.t 24), (.t 29)], some (20, true)⟩,
    ⟨some 31, .not (.t 30), some (20, true)⟩,
    ⟨some 32, .pick (.t 20) (.t 31) (.c (.bool false)), none⟩])
def A_slices_partialInsertionSortOrdered_int64.r6 : ACode := (.region none [⟨some 33, .move (.t 7), none⟩,
    ⟨some 34, .bin .add (.t 33) (.c (.int .i64 1)), none⟩,
    ⟨some 7, .move (.t 34), none⟩])
def A_slices_partialInsertionSortOrdered_int64.l0 : ACode := (.seq (.seq A_slices_partialInsertionSortOrdered_int64.r5 (.cond (.t 32) .skip (.exit 2))) (.block 3 A_slices_partialInsertionSortOrdered_int64.r6))
def A_slices_partialInsertionSortOrdered_int64.r7 : ACode := (.region none [⟨some 35, .move (.t 7), none⟩,
    ⟨some 36, .move (.t 2), none⟩,
    ⟨some 37, .bin .eql (.t 35) (.t 36), none⟩])
def A_slices_partialInsertionSortOrdered_int64.r8 : ACode := (.region none [⟨some 6, .move (.c (.bool true)), none⟩])
def A_slices_partialInsertionSortOrdered_int64.r9 : ACode := (.region none [⟨some 38, .move (.t 2), none⟩,
    ⟨some 39, .move (.t 1), none⟩,
    ⟨some 40, .bin .sub (.t 38) (.t 39), none⟩,
    ⟨some 41, .bin .lss (.t 40) (.c (.int .i64 50)), none⟩])
def A_slices_partialInsertionSortOrdered_int64.r10 : ACode := (.region none [⟨some 6, .move (.c (.bool false)), none⟩])
def A_slices_partialInsertionSortOrdered_int64.r11 : ACode := (.region (some 15) [⟨some 42, .move (.t 0), none⟩,
    ⟨some 43, .move (.t 7), none⟩,
    ⟨some 44, .move (.t 0), none⟩,
    ⟨some 45, .move (.t 7), none⟩,
    ⟨some 46, .bin .sub (.t 45) (.c (.int .i64 1)), none⟩,
    ⟨some 47, .move (.t 0), none⟩,
    ⟨some 48, .move (.t 7), none⟩,
    ⟨some 49, .bin .sub (.t 48) (.c (.int .i64 1)), none⟩,
    ⟨some 50, .indexAddr none 1 (.t 47) (.t 49), none⟩,
    ⟨some 51, .load none (.t 50), none⟩,
    ⟨some 52, .move (.t 0), none⟩,
    ⟨some 53, .move (.t 7), none⟩,
    ⟨some 54, .indexAddr none 1 (.t 52) (.t 53), none⟩,
    ⟨some 55, .load none (.t 54), none⟩,
    ⟨some 56, .indexAddr none 1 (.t 42) (.t 43), none⟩,
    ⟨none, .storeF 1 (.t 56) (.t 51) [], none⟩,
    ⟨some 57, .indexAddr none 1 (.t 44) (.t 46), none⟩,
    ⟨none, .store 1 (.t 57) (.t 55), none⟩])
def A_slices_partialInsertionSortOrdered_int64.r12 : ACode := (.region none [⟨some 58, .move (.t 7), none⟩,
    ⟨some 59, .move (.t 1), none⟩,
    ⟨some 60, .bin .sub (.t 58) (.t 59), none⟩,
    ⟨some 61, .bin .geq (.t 60) (.c (.int .i64 2)), none⟩])
def A_slices_partialInsertionSortOrdered_int64.r13 : ACode := (.region none [⟨some 62, .move (.t 7), none⟩,
    ⟨some 63, .bin .sub (.t 62) (.c (.int .i64 1)), none⟩,
    ⟨some 9, .move (.t 63), none⟩])
def A_slices_partialInsertionSortOrdered_int64.r14 : ACode := (.region none [⟨some 64, .move (.t 9), none⟩,
    ⟨some 65, .bin .geq (.t 64) (.c (.int .i64 1)), none⟩])
def A_slices_partialInsertionSortOrdered_int64.r16 : ACode := (.region (some 11) [⟨some 68, .move (.t 0), none⟩,
    ⟨some 69, .move (.t 9), none⟩,
    ⟨some 70, .indexAddr none 1 (.t 68) (.t 69), none⟩,
    ⟨some 71, .load none (.t 70), none⟩,
    ⟨some 72, .move (.t 0), none⟩,
    ⟨some 73, .move (.t 9), none⟩,
    ⟨some 74, .bin .sub (.t 73) (.c (.int .i64 1)), none⟩,
    ⟨some 75, .indexAddr none 1 (.t 72) (.t 74), none⟩,
    ⟨some 76, .load none (.t 75), none⟩,
    ⟨some 77, .call 235 [(.t 71), (.t 76)], none⟩,
    ⟨some 78, .not (.t 77), none⟩])
def A_slices_partialInsertionSortOrdered_int64.r17 : ACode := (.region (some 15) [⟨some 79, .move (.t 0), none⟩,
    ⟨some 80, .move (.t 9), none⟩,
    ⟨some 81, .move (.t 0), none⟩,
    ⟨some 82, .move (.t 9), none⟩,
    ⟨some 83, .bin .sub (.t 82) (.c (.int .i64 1)), none⟩,
    ⟨some 84, .move (.t 0), none⟩,
    ⟨some 85, .move (.t 9), none⟩,
    ⟨some 86, .bin .sub (.t 85) (.c (.int .i64 1)), none⟩,
    ⟨some 87, .indexAddr none 1 (.t 84) (.t 86), none⟩,
    ⟨some 88, .load none (.t 87), none⟩,
    ⟨some 89, .move (.t 0), none⟩,
    ⟨some 90, .move (.t 9), none⟩,
    ⟨some 91, .indexAddr none 1 (.t 89) (.t 90), none⟩,
    ⟨some 92, .load none (.t 91), none⟩,
    ⟨some 93, .indexAddr none 1 (.t 79) (.t 80), none⟩,
    ⟨none, .storeF 1 (.t 93) (.t 88) [], none⟩,
    ⟨some 94, .indexAddr none 1 (.t 81) (.t 83), none⟩,
    ⟨none, .store 1 (.t 94) (.t 92), none⟩])
def A_slices_partialInsertionSortOrdered_int64.r15 : ACode := (.region none [⟨some 66, .move (.t 9), none⟩,
    ⟨some 67, .bin .sub (.t 66) (.c (.int .i64 1)), none⟩,
    ⟨some 9, .move (.t 67), none⟩])
def A_slices_partialInsertionSortOrdered_int64.l1 : ACode := (.seq (.seq A_slices_partialInsertionSortOrdered_int64.r14 (.cond (.t 65) .skip (.exit 4))) (.seq (.block 5 (.seq (.seq A_slices_partialInsertionSortOrdered_int64.r16 (.cond (.t 78) (.exit 4) .skip)) A_slices_partialInsertionSortOrdered_int64.r17)) A_slices_partialInsertionSortOrdered_int64.r15))
def A_slices_partialInsertionSortOrdered_int64.r18 : ACode := (.region none [⟨some 95, .move (.t 2), none⟩,
    ⟨some 96, .move (.t 7), none⟩,
    ⟨some 97, .bin .sub (.t 95) (.t 96), none⟩,
    ⟨some 98, .bin .geq (.t 97) (.c (.int .i64 2)), none⟩])
def A_slices_partialInsertionSortOrdered_int64.r19 : ACode := (.region none [⟨some 99, .move (.t 7), none⟩,
    ⟨some 100, .bin .add (.t 99) (.c (.int .i64 1)), none⟩,
    ⟨some 10, .move (.t 100), none⟩])
def A_slices_partialInsertionSortOrdered_int64.r20 : ACode := (.region none [⟨some 101, .move (.t 10), none⟩,
    ⟨some 102, .move (.t 2), none⟩,
    ⟨some 103, .bin .lss (.t 101) (.t 102), none⟩])
def A_slices_partialInsertionSortOrdered_int64.r22 : ACode := (.region (some 11) [⟨some 106, .move (.t 0), none⟩,
    ⟨some 107, .move (.t 10), none⟩,
    ⟨some 108, .indexAddr none 1 (.t 106) (.t 107), none⟩,
    ⟨some 109, .load none (.t 108), none⟩,
    ⟨some 110, .move (.t 0), none⟩,
    ⟨some 111, .move (.t 10), none⟩,
    ⟨some 112, .bin .sub (.t 111) (.c (.int .i64 1)), none⟩,
    ⟨some 113, .indexAddr none 1 (.t 110) (.t 112), none⟩,
    ⟨some 114, .load none (.t 113), none⟩,
    ⟨some 115, .call 235 [(.t 109), (.t 114)], none⟩,
    ⟨some 116, .not (.t 115), none⟩])
def A_slices_partialInsertionSortOrdered_int64.r23 : ACode := (.region (some 15) [⟨some 117, .move (.t 0), none⟩,
    ⟨some 118, .move (.t 10), none⟩,
    ⟨some 119, .move (.t 0), none⟩,
    ⟨some 120, .move (.t 10), none⟩,
    ⟨some 121, .bin .sub (.t 120) (.c (.int .i64 1)), none⟩,
    ⟨some 122, .move (.t 0), none⟩,
    ⟨some 123, .move (.t 10), none⟩,
    ⟨some 124, .bin .sub (.t 123) (.c (.int .i64 1)), none⟩,
    ⟨some 125, .indexAddr none 1 (.t 122) (.t 124), none⟩,
    ⟨some 126, .load none (.t 125), none⟩,
    ⟨some 127, .move (.t 0), none⟩,
    ⟨some 128, .move (.t 10), none⟩,
    ⟨some 129, .indexAddr none 1 (.t 127) (.t 128), none⟩,
    ⟨some 130, .load none (.t 129), none⟩,
    ⟨some 131, .indexAddr none 1 (.t 117) (.t 118), none⟩,
    ⟨none, .storeF 1 (.t 131) (.t 126) [], none⟩,
    ⟨some 132, .indexAddr none 1 (.t 119) (.t 121), none⟩,
    ⟨none, .store 1 (.t 132) (.t 130), none⟩])
def A_slices_partialInsertionSortOrdered_int64.r21 : ACode := (.region none [⟨some 104, .move (.t 10), none⟩,
    ⟨some 105, .bin .add (.t 104) (.c (.int .i64 1)), none⟩,
    ⟨some 10, .move (.t 105), none⟩])
def A_slices_partialInsertionSortOrdered_int64.l2 : ACode := (.seq (.seq A_slices_partialInsertionSortOrdered_int64.r20 (.cond (.t 103) .skip (.exit 6))) (.seq (.block 7 (.seq (.seq A_slices_partialInsertionSortOrdered_int64.r22 (.cond (.t 116) (.exit 6) .skip)) A_slices_partialInsertionSortOrdered_int64.r23)) A_slices_partialInsertionSortOrdered_int64.r21))
def A_slices_partialInsertionSortOrdered_int64.r4 : ACode := (.region none [⟨some 15, .move (.t 8), none⟩,
    ⟨some 16, .bin .add (.t 15) (.c (.int .i64 1)), none⟩,
    ⟨some 8, .move (.t 16), none⟩])
def A_slices_partialInsertionSortOrdered_int64.l3 : ACode := (.seq (.seq A_slices_partialInsertionSortOrdered_int64.r3 (.cond (.t 14) .skip (.exit 0))) (.seq (.block 1 (.seq (.block 2 (.loop A_slices_partialInsertionSortOrdered_int64.l0)) (.seq (.seq A_slices_partialInsertionSortOrdered_int64.r7 (.cond (.t 37) (.seq A_slices_partialInsertionSortOrdered_int64.r8 .ret) .skip)) (.seq (.seq A_slices_partialInsertionSortOrdered_int64.r9 (.cond (.t 41) (.seq A_slices_partialInsertionSortOrdered_int64.r10 .ret) .skip)) (.seq A_slices_partialInsertionSortOrdered_int64.r11 (.seq (.seq A_slices_partialInsertionSortOrdered_int64.r12 (.cond (.t 61) (.seq A_slices_partialInsertionSortOrdered_int64.r13 (.block 4 (.loop A_slices_partialInsertionSortOrdered_int64.l1))) .skip)) (.seq A_slices_partialInsertionSortOrdered_int64.r18 (.cond (.t 98) (.seq A_slices_partialInsertionSortOrdered_int64.r19 (.block 6 (.loop A_slices_partialInsertionSortOrdered_int64.l2))) .skip)))))))) A_slices_partialInsertionSortOrdered_int64.r4))
def A_slices_partialInsertionSortOrdered_int64.r24 : ACode := (.region none [⟨some 6, .move (.c (.bool false)), none⟩])
def A_slices_partialInsertionSortOrdered_int64 : AFunc := ⟨[.tmp 6], (.seq A_slices_partialInsertionSortOrdered_int64.r0 (.seq A_slices_partialInsertionSortOrdered_int64.r1 (.seq (.seq A_slices_partialInsertionSortOrdered_int64.r2 (.block 0 (.loop A_slices_partialInsertionSortOrdered_int64.l3))) (.seq A_slices_partialInsertionSortOrdered_int64.r24 .ret))))⟩
/-! cmp_Less_int64 -/
def A_cmp_Less_int64.r0 : ACode := (.region none [⟨some 4, .move (.c (.bool false)), none⟩])
def A_cmp_Less_int64.r1 : ACode := (.region none [⟨some 5, .move (.t 0), none⟩,
    ⟨some 6, .call 247 [(.t 5)], none⟩,
    ⟨some 7, .move (.t 6), none⟩,
    ⟨some 8, .move (.t 1), some (7, true)⟩,
    ⟨some 9, .call 247 [(.t 8)], some (7, true)⟩,
    ⟨some 10, .not (.t 9), some (7, true)⟩,
    ⟨some 11, .pick (.t 7) (.t 10) (.c (.bool false)), none⟩,
    ⟨some 12, .move (.t 11), none⟩,
    ⟨some 13, .move (.t 0), some (12, false)⟩,
    ⟨some 14, .move (.t 1), some (12, false)⟩,
    ⟨some 15, .bin .lss (.t 13) (.t 14), some (12, false)⟩,
    ⟨some 16, .pick (.t 12) (.c (.bool true)) (.t 15), none⟩,
    ⟨some 4, .move (.t 16), none⟩])
def A_cmp_Less_int64 : AFunc := ⟨[.tmp 4], (.seq A_cmp_Less_int64.r0 (.seq A_cmp_Less_int64.r1 .ret))⟩
/-! slices_partitionEqualOrdered_int64 -/
def A_slices_partitionEqualOrdered_int64.r0 : ACode := (.region none [⟨some 8, .move (.c (.int .i64 0)), none⟩])
def A_slices_partitionEqualOrdered_int64.r1 : ACode := (.region (some 13) [⟨some 11, .move (.t 0), none⟩,
    ⟨some 12, .move (.t 1), none⟩,
    ⟨some 13, .move (.t 0), none⟩,
    ⟨some 14, .move (.t 3), none⟩,
    ⟨some 15, .move (.t 0), none⟩,
    ⟨some 16, .move (.t 3), none⟩,
    ⟨some 17, .indexAddr none 1 (.t 15) (.t 16), none⟩,
    ⟨some 18, .load none (.t 17), none⟩,
    ⟨some 19, .move (.t 0), none⟩,
    ⟨some 20, .move (.t 1), none⟩,
    ⟨some 21, .indexAddr none 1 (.t 19) (.t 20), none⟩,
    ⟨some 22, .load none (.t 21), none⟩,
    ⟨some 23, .indexAddr none 1 (.t 11) (.t 12), none⟩,
    ⟨none, .storeF 1 (.t 23) (.t 18) [], none⟩,
    ⟨some 24, .indexAddr none 1 (.t 13) (.t 14), none⟩,
    ⟨none, .store 1 (.t 24) (.t 22), none⟩])
def A_slices_partitionEqualOrdered_int64.r2 : ACode := (.region none [⟨some 25, .move (.t 1), none⟩,
    ⟨some 26, .bin .add (.t 25) (.c (.int .i64 1)), none⟩,
    ⟨some 27, .move (.t 2), none⟩,
    ⟨some 28, .bin .sub (.t 27) (.c (.int .i64 1)), none⟩,
    ⟨some 9, .move (.t 26), none⟩,
    ⟨some 10, .move (.t 28), none⟩])
def A_slices_partitionEqualOrdered_int64.r3 : ACode := (.region (some 15) [⟨some 29, .move (.t 9), none⟩,
    ⟨some 30, .move (.t 10), none⟩,
    ⟨some 31, .bin .leq (.t 29) (.t 30), none⟩,
    ⟨some 32, .move (.t 31), none⟩,
    ⟨some 33, .move (.t 0), some (32, true)⟩,
    ⟨some 34, .move (.t 1), some (32, true)⟩,
    ⟨some 35, .indexAddr none 1 (.t 33) (.t 34), some (32, true)⟩,
    ⟨some 36, .load none (.t 35), some (32, true)⟩,
    ⟨some 37, .move (.t 0), some (32, true)⟩,
    ⟨some 38, .move (.t 9), some (32, true)⟩,
    ⟨some 39, .indexAddr none 1 (.t 37) (.t 38), some (32, true)⟩,
    ⟨some 40, .load none (.t 39), some (32, true)⟩,
    ⟨some 41, .call 235 [(.t 36), (.t 40)], some (32, true)⟩,
    ⟨some 42, .not (.t 41), some (32, true)⟩,
    ⟨some 43, .pick (.t 32) (.t 42) (.c (.bool false)), none⟩])
def A_slices_partitionEqualOrdered_int64.r4 : ACode := (.region none [⟨some 44, .move (.t 9), none⟩,
    ⟨some 45, .bin .add (.t 44) (.c (.int .i64 1)), none⟩,
    ⟨some 9, .move (.t 45), none⟩])
def A_slices_partitionEqualOrdered_int64.l0 : ACode := (.seq (.seq A_slices_partitionEqualOrdered_int64.r3 (.cond (.t 43) .skip (.exit 2))) (.block 3 A_slices_partitionEqualOrdered_int64.r4))
def A_slices_partitionEqualOrdered_int64.r5 : ACode := (.region (some 14) [⟨some 46, .move (.t 9), none⟩,
    ⟨some 47, .move (.t 10), none⟩,
    ⟨some 48, .bin .leq (.t 46) (.t 47), none⟩,
    ⟨some 49, .move (.t 48), none⟩,
    ⟨some 50, .move (.t 0), some (49, true)⟩,
    ⟨some 51, .move (.t 1), some (49, true)⟩,
    ⟨some 52, .indexAddr none 1 (.t 50) (.t 51), some (49, true)⟩,
    ⟨some 53, .load none (.t 52), some (49, true)⟩,
    ⟨some 54, .move (.t 0), some (49, true)⟩,
    ⟨some 55, .move (.t 10), some (49, true)⟩,
    ⟨some 56, .indexAddr none 1 (.t 54) (.t 55), some (49, true)⟩,
    ⟨some 57, .load none (.t 56), some (49, true)⟩,
    ⟨some 58, .call 235 [(.t 53), (.t 57)], some (49, true)⟩,
    ⟨some 59, .pick (.t 49) (.t 58) (.c (.bool false)), none⟩])
def A_slices_partitionEqualOrdered_int64.r6 : ACode := (.region none [⟨some 60, .move (.t 10), none⟩,
    ⟨some 61, .bin .sub (.t 60) (.c (.int .i64 1)), none⟩,
    ⟨some 10, .move (.t 61), none⟩])
def A_slices_partitionEqualOrdered_int64.l1 : ACode := (.seq (.seq A_slices_partitionEqualOrdered_int64.r5 (.cond (.t 59) .skip (.exit 4))) (.block 5 A_slices_partitionEqualOrdered_int64.r6))
def A_slices_partitionEqualOrdered_int64.r7 : ACode := (.region none [⟨some 62, .move (.t 9), none⟩,
    ⟨some 63, .move (.t 10), none⟩,
    ⟨some 64, .bin .gtr (.t 62) (.t 63), none⟩])
def A_slices_partitionEqualOrdered_int64.r8 : ACode := (.region (some 13) [⟨some 65, .move (.t 0), none⟩,
    ⟨some 66, .move (.t 9), none⟩,
    ⟨some 67, .move (.t 0), none⟩,
    ⟨some 68, .move (.t 10), none⟩,
    ⟨some 69, .move (.t 0), none⟩,
    ⟨some 70, .move (.t 10), none⟩,
    ⟨some 71, .indexAddr none 1 (.t 69) (.t 70), none⟩,
    ⟨some 72, .load none (.t 71), none⟩,
    ⟨some 73, .move (.t 0), none⟩,
    ⟨some 74, .move (.t 9), none⟩,
    ⟨some 75, .indexAddr none 1 (.t 73) (.t 74), none⟩,
    ⟨some 76, .load none (.t 75), none⟩,
    ⟨some 77, .indexAddr none 1 (.t 65) (.t 66), none⟩,
    ⟨none, .storeF 1 (.t 77) (.t 72) [], none⟩,
    ⟨some 78, .indexAddr none 1 (.t 67) (.t 68), none⟩,
    ⟨none, .store 1 (.t 78) (.t 76), none⟩])
def A_slices_partitionEqualOrdered_int64.r9 : ACode := (.region none [⟨some 79, .move (.t 9), none⟩,
    ⟨some 80, .bin .add (.t 79) (.c (.int .i64 1)), none⟩,
    ⟨some 9, .move (.t 80), none⟩])
def A_slices_partitionEqualOrdered_int64.r10 : ACode := (.region none [⟨some 81, .move (.t 10), none⟩,
    ⟨some 82, .bin .sub (.t 81) (.c (.int .i64 1)), none⟩,
    ⟨some 10, .move (.t 82), none⟩])
def A_slices_partitionEqualOrdered_int64.l2 : ACode := (.block 1 (.seq (.block 2 (.loop A_slices_partitionEqualOrdered_int64.l0)) (.seq (.block 4 (.loop A_slices_partitionEqualOrdered_int64.l1)) (.seq (.seq A_slices_partitionEqualOrdered_int64.r7 (.cond (.t 64) (.exit 0) .skip)) (.seq A_slices_partitionEqualOrdered_int64.r8 (.seq A_slices_partitionEqualOrdered_int64.r9 A_slices_partitionEqualOrdered_int64.r10))))))
def A_slices_partitionEqualOrdered_int64.r11 : ACode := (.region none [⟨some 83, .move (.t 9), none⟩,
    ⟨some 8, .move (.t 83), none⟩])
def A_slices_partitionEqualOrdered_int64 : AFunc := ⟨[.tmp 8], (.seq A_slices_partitionEqualOrdered_int64.r0 (.seq A_slices_partitionEqualOrdered_int64.r1 (.seq A_slices_partitionEqualOrdered_int64.r2 (.seq (.block 0 (.loop A_slices_partitionEqualOrdered_int64.l2)) (.seq A_slices_partitionEqualOrdered_int64.r11 .ret)))))⟩
/-! slices_partitionOrdered_int64 -/
def A_slices_partitionOrdered_int64.r0 : ACode := (.region none [⟨some 8, .move (.c (.int .i64 0)), none⟩,
    ⟨some 9, .move (.c (.bool false)), none⟩])
def A_slices_partitionOrdered_int64.r1 : ACode := (.region (some 13) [⟨some 12, .move (.t 0), none⟩,
    ⟨some 13, .move (.t 1), none⟩,
    ⟨some 14, .move (.t 0), none⟩,
    ⟨some 15, .move (.t 3), none⟩,
    ⟨some 16, .move (.t 0), none⟩,
    ⟨some 17, .move (.t 3), none⟩,
    ⟨some 18, .indexAddr none 1 (.t 16) (.t 17), none⟩,
    ⟨some 19, .load none (.t 18), none⟩,
    ⟨some 20, .move (.t 0), none⟩,
    ⟨some 21, .move (.t 1), none⟩,
    ⟨some 22, .indexAddr none 1 (.t 20) (.t 21), none⟩,
    ⟨some 23, .load none (.t 22), none⟩,
    ⟨some 24, .indexAddr none 1 (.t 12) (.t 13), none⟩,
    ⟨none, .storeF 1 (.t 24) (.t 19) [], none⟩,
    ⟨some 25, .indexAddr none 1 (.t 14) (.t 15), none⟩,
    ⟨none, .store 1 (.t 25) (.t 23), none⟩])
def A_slices_partitionOrdered_int64.r2 : ACode := (.region none [⟨some 26, .move (.t 1), none⟩,
    ⟨some 27, .bin .add (.t 26) (.c (.int .i64 1)), none⟩,
    ⟨some 28, .move (.t 2), none⟩,
    ⟨some 29, .bin .sub (.t 28) (.c (.int .i64 1)), none⟩,
    ⟨some 10, .move (.t 27), none⟩,
    ⟨some 11, .move (.t 29), none⟩])
def A_slices_partitionOrdered_int64.r3 : ACode := (.region (some 14) [⟨some 30, .move (.t 10), none⟩,
    ⟨some 31, .move (.t 11), none⟩,
    ⟨some 32, .bin .leq (.t 30) (.t 31), none⟩,
    ⟨some 33, .move (.t 32), none⟩,
    ⟨some 34, .move (.t 0), some (33, true)⟩,
    ⟨some 35, .move (.t 10), some (33, true)⟩,
    ⟨some 36, .indexAddr none 1 (.t 34) (.t 35), some (33, true)⟩,
    ⟨some 37, .load none (.t 36), some (33, true)⟩,
    ⟨some 38, .move (.t 0), some (33, true)⟩,
    ⟨some 39, .move (.t 1), some (33, true)⟩,
    ⟨some 40, .indexAddr none 1 (.t 38) (.t 39), some (33, true)⟩,
    ⟨some 41, .load none (.t 40), some (33, true)⟩,
    ⟨some 42, .call 235 [(.t 37), (.t 41)], some (33, true)⟩,
    ⟨some 43, .pick (.t 33) (.t 42) (.c (.bool false)), none⟩])
def A_slices_partitionOrdered_int64.r4 : ACode := (.region none [⟨some 44, .move (.t 10), none⟩,
    ⟨some 45, .bin .add (.t 44) (.c (.int .i64 1)), none⟩,
    ⟨some 10, .move (.t 45), none⟩])
def A_slices_partitionOrdered_int64.l0 : ACode := (.seq (.seq A_slices_partitionOrdered_int64.r3 (.cond (.t 43) .skip (.exit 0))) (.block 1 A_slices_partitionOrdered_int64.r4))
def A_slices_partitionOrdered_int64.r5 : ACode := (.region (some 15) [⟨some 46, .move (.t 10), none⟩,
    ⟨some 47, .move (.t 11), none⟩,
    ⟨some 48, .bin .leq (.t 46) (.t 47), none⟩,
    ⟨some 49, .move (.t 48), none⟩,
    ⟨some 50, .move (.t 0), some (49, true)⟩,
    ⟨some 51, .move (.t 11), some (49, true)⟩,
    ⟨some 52, .indexAddr none 1 (.t 50) (.t 51), some (49, true)⟩,
    ⟨some 53, .load none (.t 52), some (49, true)⟩,
    ⟨some 54, .move (.t 0), some (49, true)⟩,
    ⟨some 55, .move (.t 1), some (49, true)⟩,
    ⟨some 56, .indexAddr none 1 (.t 54) (.t 55), some (49, true)⟩,
    ⟨some 57, .load none (.t 56), some (49, true)⟩,
    ⟨some 58, .call 235 [(.t 53), (.t 57)], some (49, true)⟩,
    ⟨some 59, .not (.t 58), some (49, true)⟩,
    ⟨some 60, .pick (.t 49) (.t 59) (.c (.bool false)), none⟩])
def A_slices_partitionOrdered_int64.r6 : ACode := (.region none [⟨some 61, .move (.t 11), none⟩,
    ⟨some 62, .bin .sub (.t 61) (.c (.int .i64 1)), none⟩,
    ⟨some 11, .move (.t 62), none⟩])
def A_slices_partitionOrdered_int64.l1 : ACode := (.seq (.seq A_slices_partitionOrdered_int64.r5 (.cond (.t 60) .skip (.exit 2))) (.block 3 A_slices_partitionOrdered_int64.r6))
def A_slices_partitionOrdered_int64.r7 : ACode := (.region none [⟨some 63, .move (.t 10), none⟩,
    ⟨some 64, .move (.t 11), none⟩,
    ⟨some 65, .bin .gtr (.t 63) (.t 64), none⟩])
def A_slices_partitionOrdered_int64.r8 : ACode := (.region (some 13) [⟨some 66, .move (.t 0), none⟩,
    ⟨some 67, .move (.t 11), none⟩,
    ⟨some 68, .move (.t 0), none⟩,
    ⟨some 69, .move (.t 1), none⟩,
    ⟨some 70, .move (.t 0), none⟩,
    ⟨some 71, .move (.t 1), none⟩,
    ⟨some 72, .indexAddr none 1 (.t 70) (.t 71), none⟩,
    ⟨some 73, .load none (.t 72), none⟩,
    ⟨some 74, .move (.t 0), none⟩,
    ⟨some 75, .move (.t 11), none⟩,
    ⟨some 76, .indexAddr none 1 (.t 74) (.t 75), none⟩,
    ⟨some 77, .load none (.t 76), none⟩,
    ⟨some 78, .indexAddr none 1 (.t 66) (.t 67), none⟩,
    ⟨none, .storeF 1 (.t 78) (.t 73) [], none⟩,
    ⟨some 79, .indexAddr none 1 (.t 68) (.t 69), none⟩,
    ⟨none, .store 1 (.t 79) (.t 77), none⟩])
def A_slices_partitionOrdered_int64.r9 : ACode := (.region none [⟨some 80, .move (.t 11), none⟩,
    ⟨some 8, .move (.t 80), none⟩,
    ⟨some 9, .move (.c (.bool true)), none⟩])
def A_slices_partitionOrdered_int64.r10 : ACode := (.region (some 13) [⟨some 81, .move (.t 0), none⟩,
    ⟨some 82, .move (.t 10), none⟩,
    ⟨some 83, .move (.t 0), none⟩,
    ⟨some 84, .move (.t 11), none⟩,
    ⟨some 85, .move (.t 0), none⟩,
    ⟨some 86, .move (.t 11), none⟩,
    ⟨some 87, .indexAddr none 1 (.t 85) (.t 86), none⟩,
    ⟨some 88, .load none (.t 87), none⟩,
    ⟨some 89, .move (.t 0), none⟩,
    ⟨some 90, .move (.t 10), none⟩,
    ⟨some 91, .indexAddr none 1 (.t 89) (.t 90), none⟩,
    ⟨some 92, .load none (.t 91), none⟩,
    ⟨some 93, .indexAddr none 1 (.t 81) (.t 82), none⟩,
    ⟨none, .storeF 1 (.t 93) (.t 88) [], none⟩,
    ⟨some 94, .indexAddr none 1 (.t 83) (.t 84), none⟩,
    ⟨none, .store 1 (.t 94) (.t 92), none⟩])
def A_slices_partitionOrdered_int64.r11 : ACode := (.region none [⟨some 95, .move (.t 10), none⟩,
    ⟨some 96, .bin .add (.t 95) (.c (.int .i64 1)), none⟩,
    ⟨some 10, .move (.t 96), none⟩])
def A_slices_partitionOrdered_int64.r12 : ACode := (.region none [⟨some 97, .move (.t 11), none⟩,
    ⟨some 98, .bin .sub (.t 97) (.c (.int .i64 1)), none⟩,
    ⟨some 11, .move (.t 98), none⟩])
def A_slices_partitionOrdered_int64.r13 : ACode := (.region (some 14) [⟨some 99, .move (.t 10), none⟩,
    ⟨some 100, .move (.t 11), none⟩,
    ⟨some 101, .bin .leq (.t 99) (.t 100), none⟩,
    ⟨some 102, .move (.t 101), none⟩,
    ⟨some 103, .move (.t 0), some (102, true)⟩,
    ⟨some 104, .move (.t 10), some (102, true)⟩,
    ⟨some 105, .indexAddr none 1 (.t 103) (.t 104), some (102, true)⟩,
    ⟨some 106, .load none (.t 105), some (102, true)⟩,
    ⟨some 107, .move (.t 0), some (102, true)⟩,
    ⟨some 108, .move (.t 1), some (102, true)⟩,
    ⟨some 109, .indexAddr none 1 (.t 107) (.t 108), some (102, true)⟩,
    ⟨some 110, .load none (.t 109), some (102, true)⟩,
    ⟨some 111, .call 235 [(.t 106), (.t 110)], some (102, true)⟩,
    ⟨some 112, .pick (.t 102) (.t 111) (.c (.bool false)), none⟩])
def A_slices_partitionOrdered_int64.r14 : ACode := (.region none [⟨some 113, .move (.t 10), none⟩,
    ⟨some 114, .bin .add (.t 113) (.c (.int .i64 1)), none⟩,
    ⟨some 10, .move (.t 114), none⟩])
def A_slices_partitionOrdered_int64.l2 : ACode := (.seq (.seq A_slices_partitionOrdered_int64.r13 (.cond (.t 112) .skip (.exit 6))) (.block 7 A_slices_partitionOrdered_int64.r14))
def A_slices_partitionOrdered_int64.r15 : ACode := (.region (some 15) [⟨some 115, .move (.t 10), none⟩,
    ⟨some 116, .move (.t 11), none⟩,
    ⟨some 117, .bin .leq (.t 115) (.t 116), none⟩,
    ⟨some 118, .move (.t 117), none⟩,
    ⟨some 119, .move (.t 0), some (118, true)⟩,
    ⟨some 120, .move (.t 11), some (118, true)⟩,
    ⟨some 121, .indexAddr none 1 (.t 119) (.t 120), some (118, true)⟩,
    ⟨some 122, .load none (.t 121), some (118, true)⟩,
    ⟨some 123, .move (.t 0), some (118, true)⟩,
    ⟨some 124, .move (.t 1), some (118, true)⟩,
    ⟨some 125, .indexAddr none 1 (.t 123) (.t 124), some (118, true)⟩,
    ⟨some 126, .load none (.t 125), some (118, true)⟩,
    ⟨some 127, .call 235 [(.t 122), (.t 126)], some (118, true)⟩,
    ⟨some 128, .not (.t 127), some (118, true)⟩,
    ⟨some 129, .pick (.t 118) (.t 128) (.c (.bool false)), none⟩])
def A_slices_partitionOrdered_int64.r16 : ACode := (.region none [⟨some 130, .move (.t 11), none⟩,
    ⟨some 131, .bin .sub (.t 130) (.c (.int .i64 1)), none⟩,
    ⟨some 11, .move (.t 131), none⟩])
def A_slices_partitionOrdered_int64.l3 : ACode := (.seq (.seq A_slices_partitionOrdered_int64.r15 (.cond (.t 129) .skip (.exit 8))) (.block 9 A_slices_partitionOrdered_int64.r16))
def A_slices_partitionOrdered_int64.r17 : ACode := (.region none [⟨some 132, .move (.t 10), none⟩,
    ⟨some 133, .move (.t 11), none⟩,
    ⟨some 134, .bin .gtr (.t 132) (.t 133), none⟩])
def A_slices_partitionOrdered_int64.r18 : ACode := (.region (some 13) [⟨some 135, .move (.t 0), none⟩,
    ⟨some 136, .move (.t 10), none⟩,
    ⟨some 137, .move (.t 0), none⟩,
    ⟨some 138, .move (.t 11), none⟩,
    ⟨some 139, .move (.t 0), none⟩,
    ⟨some 140, .move (.t 11), none⟩,
    ⟨some 141, .indexAddr none 1 (.t 139) (.t 140), none⟩,
    ⟨some 142, .load none (.t 141), none⟩,
    ⟨some 143, .move (.t 0), none⟩,
    ⟨some 144, .move (.t 10), none⟩,
    ⟨some 145, .indexAddr none 1 (.t 143) (.t 144), none⟩,
    ⟨some 146, .load none (.t 145), none⟩,
    ⟨some 147, .indexAddr none 1 (.t 135) (.t 136), none⟩,
    ⟨none, .storeF 1 (.t 147) (.t 142) [], none⟩,
    ⟨some 148, .indexAddr none 1 (.t 137) (.t 138), none⟩,
    ⟨none, .store 1 (.t 148) (.t 146), none⟩])
def A_slices_partitionOrdered_int64.r19 : ACode := (.region none [⟨some 149, .move (.t 10), none⟩,
    ⟨some 150, .bin .add (.t 149) (.c (.int .i64 1)), none⟩,
    ⟨some 10, .move (.t 150), none⟩])
def A_slices_partitionOrdered_int64.r20 : ACode := (.region none [⟨some 151, .move (.t 11), none⟩,
    ⟨some 152, .bin .sub (.t 151) (.c (.int .i64 1)), none⟩,
    ⟨some 11, .move (.t 152), none⟩])
def A_slices_partitionOrdered_int64.l4 : ACode := (.block 5 (.seq (.block 6 (.loop A_slices_partitionOrdered_int64.l2)) (.seq (.block 8 (.loop A_slices_partitionOrdered_int64.l3)) (.seq (.seq A_slices_partitionOrdered_int64.r17 (.cond (.t 134) (.exit 4) .skip)) (.seq A_slices_partitionOrdered_int64.r18 (.seq A_slices_partitionOrdered_int64.r19 A_slices_partitionOrdered_int64.r20))))))
def A_slices_partitionOrdered_int64.r21 : ACode := (.region (some 13) [⟨some 153, .move (.t 0), none⟩,
    ⟨some 154, .move (.t 11), none⟩,
    ⟨some 155, .move (.t 0), none⟩,
    ⟨some 156, .move (.t 1), none⟩,
    ⟨some 157, .move (.t 0), none⟩,
    ⟨some 158, .move (.t 1), none⟩,
    ⟨some 159, .indexAddr none 1 (.t 157) (.t 158), none⟩,
    ⟨some 160, .load none (.t 159), none⟩,
    ⟨some 161, .move (.t 0), none⟩,
    ⟨some 162, .move (.t 11), none⟩,
    ⟨some 163, .indexAddr none 1 (.t 161) (.t 162), none⟩,
    ⟨some 164, .load none (.t 163), none⟩,
    ⟨some 165, .indexAddr none 1 (.t 153) (.t 154), none⟩,
    ⟨none, .storeF 1 (.t 165) (.t 160) [], none⟩,
    ⟨some 166, .indexAddr none 1 (.t 155) (.t 156), none⟩,
    ⟨none, .store 1 (.t 166) (.t 164), none⟩])
def A_slices_partitionOrdered_int64.r22 : ACode := (.region none [⟨some 167, .move (.t 11), none⟩,
    ⟨some 8, .move (.t 167), none⟩,
    ⟨some 9, .move (.c (.bool false)), none⟩])
def A_slices_partitionOrdered_int64 : AFunc := ⟨[.tmp 8, .tmp 9], (.seq A_slices_partitionOrdered_int64.r0 (.seq A_slices_partitionOrdered_int64.r1 (.seq A_slices_partitionOrdered_int64.r2 (.seq (.block 0 (.loop A_slices_partitionOrdered_int64.l0)) (.seq (.block 2 (.loop A_slices_partitionOrdered_int64.l1)) (.seq (.seq A_slices_partitionOrdered_int64.r7 (.cond (.t 65) (.seq A_slices_partitionOrdered_int64.r8 (.seq A_slices_partitionOrdered_int64.r9 .ret)) .skip)) (.seq A_slices_partitionOrdered_int64.r10 (.seq A_slices_partitionOrdered_int64.r11 (.seq A_slices_partitionOrdered_int64.r12 (.seq (.block 4 (.loop A_slices_partitionOrdered_int64.l4)) (.seq A_slices_partitionOrdered_int64.r21 (.seq A_slices_partitionOrdered_int64.r22 .ret))))))))))))⟩
/-! slices_medianOrdered_int64 -/
def A_slices_medianOrdered_int64.r0 : ACode := (.region none [⟨some 10, .move (.c (.int .i64 0)), none⟩])
def A_slices_medianOrdered_int64.r1 : ACode := (.region none [⟨some 12, .move (.t 0), none⟩,
    ⟨some 13, .move (.t 1), none⟩,
    ⟨some 14, .move (.t 2), none⟩,
    ⟨some 15, .move (.t 4), none⟩,
    ⟨some 16, .call 246 [(.t 12), (.t 13), (.t 14), (.t 15)], none⟩,
    ⟨some 11, .move (.t 16), none⟩,
    ⟨some 17, .extract (.t 11) 0, none⟩,
    ⟨some 18, .extract (.t 11) 1, none⟩,
    ⟨some 1, .move (.t 17), none⟩,
    ⟨some 2, .move (.t 18), none⟩])
def A_slices_medianOrdered_int64.r2 : ACode := (.region none [⟨some 20, .move (.t 0), none⟩,
    ⟨some 21, .move (.t 2), none⟩,
    ⟨some 22, .move (.t 3), none⟩,
    ⟨some 23, .move (.t 4), none⟩,
    ⟨some 24, .call 246 [(.t 20), (.t 21), (.t 22), (.t 23)], none⟩,
    ⟨some 19, .move (.t 24), none⟩,
    ⟨some 25, .extract (.t 19) 0, none⟩,
    ⟨some 26, .extract (.t 19) 1, none⟩,
    ⟨some 2, .move (.t 25), none⟩,
    ⟨some 3, .move (.t 26), none⟩])
def A_slices_medianOrdered_int64.r3 : ACode := (.region none [⟨some 28, .move (.t 0), none⟩,
    ⟨some 29, .move (.t 1), none⟩,
    ⟨some 30, .move (.t 2), none⟩,
    ⟨some 31, .move (.t 4), none⟩,
    ⟨some 32, .call 246 [(.t 28), (.t 29), (.t 30), (.t 31)], none⟩,
    ⟨some 27, .move (.t 32), none⟩,
    ⟨some 33, .extract (.t 27) 0, none⟩,
    ⟨some 34, .extract (.t 27) 1, none⟩,
    ⟨some 1, .move (.t 33), none⟩,
    ⟨some 2, .move (.t 34), none⟩])
def A_slices_medianOrdered_int64.r4 : ACode := (.region none [⟨some 35, .move (.t 2), none⟩,
    ⟨some 10, .move (.t 35), none⟩])
def A_slices_medianOrdered_int64 : AFunc := ⟨[.tmp 10], (.seq A_slices_medianOrdered_int64.r0 (.seq A_slices_medianOrdered_int64.r1 (.seq A_slices_medianOrdered_int64.r2 (.seq A_slices_medianOrdered_int64.r3 (.seq A_slices_medianOrdered_int64.r4 .ret)))))⟩
/-! cmp_isNaN_int64 -/
def A_cmp_isNaN_int64.r0 : ACode := (.region none [⟨some 2, .move (.c (.bool false)), none⟩])
def A_cmp_isNaN_int64.r1 : ACode := (.region none [⟨some 3, .move (.t 0), none⟩,
    ⟨some 4, .move (.t 0), none⟩,
    ⟨some 5, .bin .neq (.t 3) (.t 4), none⟩,
    ⟨some 2, .move (.t 5), none⟩])
def A_cmp_isNaN_int64 : AFunc := ⟨[.tmp 2], (.seq A_cmp_isNaN_int64.r0 (.seq A_cmp_isNaN_int64.r1 .ret))⟩
/-! slices_order2Ordered_int64 -/
def A_slices_order2Ordered_int64.r0 : ACode := (.region none [⟨some 8, .move (.c (.int .i64 0)), none⟩,
    ⟨some 9, .move (.c (.int .i64 0)), none⟩])
def A_slices_order2Ordered_int64.r1 : ACode := (.region (some 9) [⟨some 10, .move (.t 0), none⟩,
    ⟨some 11, .move (.t 2), none⟩,
    ⟨some 12, .indexAddr none 1 (.t 10) (.t 11), none⟩,
    ⟨some 13, .load none (.t 12), none⟩,
    ⟨some 14, .move (.t 0), none⟩,
    ⟨some 15, .move (.t 1), none⟩,
    ⟨some 16, .indexAddr none 1 (.t 14) (.t 15), none⟩,
    ⟨some 17, .load none (.t 16), none⟩,
    ⟨some 18, .call 235 [(.t 13), (.t 17)], none⟩])
def A_slices_order2Ordered_int64.r2 : ACode := (.region none [⟨some 19, .move (.t 3), none⟩,
    ⟨some 20, .nilCheck (.t 19), none⟩,
    ⟨some 21, .load none (.t 20), none⟩,
    ⟨some 22, .bin .add (.t 21) (.c (.int .i64 1)), none⟩,
    ⟨some 23, .nilCheck (.t 19), none⟩,
    ⟨none, .store 1 (.t 23) (.t 22), none⟩])
def A_slices_order2Ordered_int64.r3 : ACode := (.region none [⟨some 24, .move (.t 2), none⟩,
    ⟨some 25, .move (.t 1), none⟩,
    ⟨some 8, .move (.t 24), none⟩,
    ⟨some 9, .move (.t 25), none⟩])
def A_slices_order2Ordered_int64.r4 : ACode := (.region none [⟨some 26, .move (.t 1), none⟩,
    ⟨some 27, .move (.t 2), none⟩,
    ⟨some 8, .move (.t 26), none⟩,
    ⟨some 9, .move (.t 27), none⟩])
def A_slices_order2Ordered_int64 : AFunc := ⟨[.tmp 8, .tmp 9], (.seq A_slices_order2Ordered_int64.r0 (.seq (.seq A_slices_order2Ordered_int64.r1 (.cond (.t 18) (.seq A_slices_order2Ordered_int64.r2 (.seq A_slices_order2Ordered_int64.r3 .ret)) .skip)) (.seq A_slices_order2Ordered_int64.r4 .ret)))⟩
end Go.Am
