/- The code of the functions that the claim reaches, in the small machine's form: written by a program of mine, off the loaded program; the checks compare the two. -/
import Derived.Test.YteklchkdgpoedaaAmCore
set_option linter.unusedVariables false
set_option maxRecDepth 100000
namespace Go.Am
open Go
/-! laws_FnShabats -/
def A_laws_FnShabats.r0 : ACode := (.region none [⟨some 2, .move (.c (.bool false)), none⟩])
def A_laws_FnShabats.r1 : ACode := (.region none [⟨some 57, .move (.t 0), none⟩,
⟨some 58, .call 41 [.t 57], none⟩])
def A_laws_FnShabats.r2 : ACode := (.region none [⟨some 2, .move (.c (.bool true)), none⟩])
def A_laws_FnShabats.r3 : ACode := (.region none [⟨some 60, .move (.t 0), none⟩,
⟨some 61, .call 49 [.t 60], none⟩,
⟨some 59, .move (.t 61), none⟩,
⟨some 62, .extract (.t 59) 0, none⟩,
⟨some 63, .extract (.t 59) 1, none⟩,
⟨some 3, .move (.t 62), none⟩,
⟨some 4, .move (.t 63), none⟩])
def A_laws_FnShabats.r4 : ACode := (.region none [⟨some 65, .move (.t 3), none⟩,
⟨some 66, .move (.t 4), none⟩,
⟨some 67, .call 34 [.t 65, .t 66], none⟩,
⟨some 64, .move (.t 67), none⟩,
⟨some 68, .extract (.t 64) 0, none⟩,
⟨some 69, .extract (.t 64) 1, none⟩,
⟨some 5, .move (.t 68), none⟩,
⟨some 6, .move (.t 69), none⟩])
def A_laws_FnShabats.r5 : ACode := (.region none [⟨some 71, .move (.t 3), none⟩,
⟨some 72, .move (.t 4), none⟩,
⟨some 73, .call 33 [.t 71, .t 72], none⟩,
⟨some 70, .move (.t 73), none⟩,
⟨some 74, .extract (.t 70) 0, none⟩,
⟨some 75, .extract (.t 70) 1, none⟩,
⟨some 7, .move (.t 74), none⟩,
⟨some 8, .move (.t 75), none⟩])
def A_laws_FnShabats.r6 : ACode := (.region none [⟨some 76, .move (.t 6), none⟩,
⟨some 77, .move (.t 8), none⟩,
⟨some 78, .bin .neq (.t 76) (.t 77), none⟩,
⟨some 79, .move (.t 78), none⟩,
⟨some 80, .move (.t 5), some (79, false)⟩,
⟨some 81, .move (.t 7), some (79, false)⟩,
⟨some 82, .call 43 [.t 80, .t 81], some (79, false)⟩,
⟨some 83, .not (.t 82), some (79, false)⟩,
⟨some 84, .pick (.t 79) (.c (.bool true)) (.t 83), none⟩])
def A_laws_FnShabats.r7 : ACode := (.region none [⟨some 2, .move (.c (.bool false)), none⟩])
def A_laws_FnShabats.r8 : ACode := (.region none [⟨some 86, .move (.t 3), none⟩,
⟨some 87, .move (.t 4), none⟩,
⟨some 88, .call 32 [.t 86, .t 87], none⟩,
⟨some 85, .move (.t 88), none⟩,
⟨some 89, .extract (.t 85) 0, none⟩,
⟨some 90, .extract (.t 85) 1, none⟩,
⟨some 9, .move (.t 89), none⟩,
⟨some 10, .move (.t 90), none⟩])
def A_laws_FnShabats.r9 : ACode := (.region none [⟨some 92, .move (.t 3), none⟩,
⟨some 93, .move (.t 4), none⟩,
⟨some 94, .call 31 [.t 92, .t 93], none⟩,
⟨some 91, .move (.t 94), none⟩,
⟨some 95, .extract (.t 91) 0, none⟩,
⟨some 96, .extract (.t 91) 1, none⟩,
⟨some 11, .move (.t 95), none⟩,
⟨some 12, .move (.t 96), none⟩])
def A_laws_FnShabats.r10 : ACode := (.region none [⟨some 97, .move (.t 10), none⟩,
⟨some 98, .move (.t 12), none⟩,
⟨some 99, .bin .neq (.t 97) (.t 98), none⟩,
⟨some 100, .move (.t 99), none⟩,
⟨some 101, .move (.t 9), some (100, false)⟩,
⟨some 102, .move (.t 11), some (100, false)⟩,
⟨some 103, .eqb true (.t 101) (.t 102), some (100, false)⟩,
⟨some 104, .pick (.t 100) (.c (.bool true)) (.t 103), none⟩])
def A_laws_FnShabats.r11 : ACode := (.region none [⟨some 2, .move (.c (.bool false)), none⟩])
def A_laws_FnShabats.r12 : ACode := (.region none [⟨some 106, .move (.t 0), none⟩,
⟨some 107, .call 50 [.t 106], none⟩,
⟨some 105, .move (.t 107), none⟩,
⟨some 108, .extract (.t 105) 0, none⟩,
⟨some 109, .extract (.t 105) 1, none⟩,
⟨some 110, .extract (.t 105) 2, none⟩,
⟨some 13, .move (.t 108), none⟩,
⟨some 14, .move (.t 109), none⟩,
⟨some 15, .move (.t 110), none⟩])
def A_laws_FnShabats.r13 : ACode := (.region none [⟨some 112, .move (.t 13), none⟩,
⟨some 113, .move (.t 14), none⟩,
⟨some 114, .move (.t 15), none⟩,
⟨some 115, .call 36 [.t 112, .t 113, .t 114], none⟩,
⟨some 111, .move (.t 115), none⟩,
⟨some 116, .extract (.t 111) 0, none⟩,
⟨some 117, .extract (.t 111) 1, none⟩,
⟨some 16, .move (.t 116), none⟩,
⟨some 17, .move (.t 117), none⟩])
def A_laws_FnShabats.r14 : ACode := (.region none [⟨some 119, .move (.t 13), none⟩,
⟨some 120, .move (.t 14), none⟩,
⟨some 121, .move (.t 15), none⟩,
⟨some 122, .call 35 [.t 119, .t 120, .t 121], none⟩,
⟨some 118, .move (.t 122), none⟩,
⟨some 123, .extract (.t 118) 0, none⟩,
⟨some 124, .extract (.t 118) 1, none⟩,
⟨some 18, .move (.t 123), none⟩,
⟨some 19, .move (.t 124), none⟩])
def A_laws_FnShabats.r15 : ACode := (.region none [⟨some 125, .move (.t 17), none⟩,
⟨some 126, .move (.t 19), none⟩,
⟨some 127, .bin .neq (.t 125) (.t 126), none⟩,
⟨some 128, .move (.t 127), none⟩,
⟨some 129, .move (.t 16), some (128, false)⟩,
⟨some 130, .move (.t 18), some (128, false)⟩,
⟨some 131, .eqb true (.t 129) (.t 130), some (128, false)⟩,
⟨some 132, .pick (.t 128) (.c (.bool true)) (.t 131), none⟩])
def A_laws_FnShabats.r16 : ACode := (.region none [⟨some 2, .move (.c (.bool false)), none⟩])
def A_laws_FnShabats.r17 : ACode := (.region none [⟨some 134, .move (.t 13), none⟩,
⟨some 135, .move (.t 14), none⟩,
⟨some 136, .move (.t 15), none⟩,
⟨some 137, .call 38 [.t 134, .t 135, .t 136], none⟩,
⟨some 133, .move (.t 137), none⟩,
⟨some 138, .extract (.t 133) 0, none⟩,
⟨some 139, .extract (.t 133) 1, none⟩,
⟨some 20, .move (.t 138), none⟩,
⟨some 21, .move (.t 139), none⟩])
def A_laws_FnShabats.r18 : ACode := (.region none [⟨some 141, .move (.t 13), none⟩,
⟨some 142, .move (.t 14), none⟩,
⟨some 143, .move (.t 15), none⟩,
⟨some 144, .call 37 [.t 141, .t 142, .t 143], none⟩,
⟨some 140, .move (.t 144), none⟩,
⟨some 145, .extract (.t 140) 0, none⟩,
⟨some 146, .extract (.t 140) 1, none⟩,
⟨some 22, .move (.t 145), none⟩,
⟨some 23, .move (.t 146), none⟩])
def A_laws_FnShabats.r19 : ACode := (.region none [⟨some 147, .move (.t 21), none⟩,
⟨some 148, .move (.t 23), none⟩,
⟨some 149, .bin .neq (.t 147) (.t 148), none⟩,
⟨some 150, .move (.t 149), none⟩,
⟨some 151, .move (.t 20), some (150, false)⟩,
⟨some 152, .move (.t 22), some (150, false)⟩,
⟨some 153, .call 51 [.t 151, .t 152], some (150, false)⟩,
⟨some 154, .not (.t 153), some (150, false)⟩,
⟨some 155, .pick (.t 150) (.c (.bool true)) (.t 154), none⟩])
def A_laws_FnShabats.r20 : ACode := (.region none [⟨some 2, .move (.c (.bool false)), none⟩])
def A_laws_FnShabats.r21 : ACode := (.region none [⟨some 156, .move (.t 0), none⟩,
⟨some 157, .call 52 [.t 156], none⟩,
⟨some 24, .move (.t 157), none⟩])
def A_laws_FnShabats.r22 : ACode := (.region none [⟨some 159, .move (.t 24), none⟩,
⟨some 160, .call 5 [.t 159], none⟩,
⟨some 158, .move (.t 160), none⟩,
⟨some 161, .extract (.t 158) 0, none⟩,
⟨some 162, .extract (.t 158) 1, none⟩,
⟨some 25, .move (.t 161), none⟩,
⟨some 26, .move (.t 162), none⟩])
def A_laws_FnShabats.r23 : ACode := (.region none [⟨some 164, .move (.t 24), none⟩,
⟨some 165, .call 4 [.t 164], none⟩,
⟨some 163, .move (.t 165), none⟩,
⟨some 166, .extract (.t 163) 0, none⟩,
⟨some 167, .extract (.t 163) 1, none⟩,
⟨some 27, .move (.t 166), none⟩,
⟨some 28, .move (.t 167), none⟩])
def A_laws_FnShabats.r24 : ACode := (.region none [⟨some 168, .move (.t 26), none⟩,
⟨some 169, .move (.t 28), none⟩,
⟨some 170, .bin .neq (.t 168) (.t 169), none⟩,
⟨some 171, .move (.t 170), none⟩,
⟨some 172, .move (.t 25), some (171, false)⟩,
⟨some 173, .move (.t 27), some (171, false)⟩,
⟨some 174, .call 43 [.t 172, .t 173], some (171, false)⟩,
⟨some 175, .not (.t 174), some (171, false)⟩,
⟨some 176, .pick (.t 171) (.c (.bool true)) (.t 175), none⟩])
def A_laws_FnShabats.r25 : ACode := (.region none [⟨some 2, .move (.c (.bool false)), none⟩])
def A_laws_FnShabats.r26 : ACode := (.region none [⟨some 177, .move (.t 0), none⟩,
⟨some 178, .call 53 [.t 177], none⟩,
⟨some 29, .move (.t 178), none⟩])
def A_laws_FnShabats.r27 : ACode := (.region none [⟨some 180, .move (.t 29), none⟩,
⟨some 181, .call 19 [.t 180], none⟩,
⟨some 179, .move (.t 181), none⟩,
⟨some 182, .extract (.t 179) 0, none⟩,
⟨some 183, .extract (.t 179) 1, none⟩,
⟨some 30, .move (.t 182), none⟩,
⟨some 31, .move (.t 183), none⟩])
def A_laws_FnShabats.r28 : ACode := (.region none [⟨some 185, .move (.t 29), none⟩,
⟨some 186, .call 18 [.t 185], none⟩,
⟨some 184, .move (.t 186), none⟩,
⟨some 187, .extract (.t 184) 0, none⟩,
⟨some 188, .extract (.t 184) 1, none⟩,
⟨some 32, .move (.t 187), none⟩,
⟨some 33, .move (.t 188), none⟩])
def A_laws_FnShabats.r29 : ACode := (.region none [⟨some 189, .move (.t 31), none⟩,
⟨some 190, .move (.t 33), none⟩,
⟨some 191, .bin .neq (.t 189) (.t 190), none⟩,
⟨some 192, .move (.t 191), none⟩,
⟨some 193, .move (.t 30), some (192, false)⟩,
⟨some 194, .move (.t 32), some (192, false)⟩,
⟨some 195, .call 43 [.t 193, .t 194], some (192, false)⟩,
⟨some 196, .not (.t 195), some (192, false)⟩,
⟨some 197, .pick (.t 192) (.c (.bool true)) (.t 196), none⟩])
def A_laws_FnShabats.r30 : ACode := (.region none [⟨some 2, .move (.c (.bool false)), none⟩])
def A_laws_FnShabats.r31 : ACode := (.region none [⟨some 199, .move (.t 0), none⟩,
⟨some 200, .call 54 [.t 199], none⟩,
⟨some 198, .move (.t 200), none⟩,
⟨some 201, .extract (.t 198) 0, none⟩,
⟨some 202, .extract (.t 198) 1, none⟩,
⟨some 34, .move (.t 201), none⟩,
⟨some 35, .move (.t 202), none⟩])
def A_laws_FnShabats.r32 : ACode := (.region none [⟨some 204, .move (.t 34), none⟩,
⟨some 205, .move (.t 35), none⟩,
⟨some 206, .call 26 [.t 204, .t 205], none⟩,
⟨some 203, .move (.t 206), none⟩,
⟨some 207, .extract (.t 203) 0, none⟩,
⟨some 208, .extract (.t 203) 1, none⟩,
⟨some 36, .move (.t 207), none⟩,
⟨some 37, .move (.t 208), none⟩])
def A_laws_FnShabats.r33 : ACode := (.region none [⟨some 210, .move (.t 34), none⟩,
⟨some 211, .move (.t 35), none⟩,
⟨some 212, .call 25 [.t 210, .t 211], none⟩,
⟨some 209, .move (.t 212), none⟩,
⟨some 213, .extract (.t 209) 0, none⟩,
⟨some 214, .extract (.t 209) 1, none⟩,
⟨some 38, .move (.t 213), none⟩,
⟨some 39, .move (.t 214), none⟩])
def A_laws_FnShabats.r34 : ACode := (.region none [⟨some 215, .move (.t 37), none⟩,
⟨some 216, .move (.t 39), none⟩,
⟨some 217, .bin .neq (.t 215) (.t 216), none⟩,
⟨some 218, .move (.t 217), none⟩,
⟨some 219, .move (.t 36), some (218, false)⟩,
⟨some 220, .move (.t 38), some (218, false)⟩,
⟨some 221, .call 43 [.t 219, .t 220], some (218, false)⟩,
⟨some 222, .not (.t 221), some (218, false)⟩,
⟨some 223, .pick (.t 218) (.c (.bool true)) (.t 222), none⟩])
def A_laws_FnShabats.r35 : ACode := (.region none [⟨some 2, .move (.c (.bool false)), none⟩])
def A_laws_FnShabats.r36 : ACode := (.region none [⟨some 224, .move (.t 26), none⟩,
⟨some 225, .bin .eql (.t 224) (.c (.int .i64 0)), none⟩])
def A_laws_FnShabats.r37 : ACode := (.region none [⟨some 227, .move (.t 25), none⟩,
⟨some 228, .call 36 [.t 227, (.c (.int .i64 0)), (.c (.int .i64 1))], none⟩,
⟨some 226, .move (.t 228), none⟩,
⟨some 229, .extract (.t 226) 0, none⟩,
⟨some 230, .extract (.t 226) 1, none⟩,
⟨some 40, .move (.t 229), none⟩,
⟨some 41, .move (.t 230), none⟩])
def A_laws_FnShabats.r38 : ACode := (.region none [⟨some 231, .move (.t 41), none⟩,
⟨some 232, .bin .neq (.t 231) (.c (.int .i64 0)), none⟩,
⟨some 233, .move (.t 232), none⟩,
⟨some 234, .move (.t 40), some (233, false)⟩,
⟨some 235, .not (.t 234), some (233, false)⟩,
⟨some 236, .pick (.t 233) (.c (.bool true)) (.t 235), none⟩])
def A_laws_FnShabats.r39 : ACode := (.region none [⟨some 2, .move (.c (.bool false)), none⟩])
def A_laws_FnShabats.r40 : ACode := (.region none [⟨some 237, .move (.t 37), none⟩,
⟨some 238, .bin .eql (.t 237) (.c (.int .i64 0)), none⟩])
def A_laws_FnShabats.r41 : ACode := (.region none [⟨some 240, .move (.t 36), none⟩,
⟨some 241, .call 36 [.t 240, (.c (.int .i64 0)), (.c (.int .i64 1))], none⟩,
⟨some 239, .move (.t 241), none⟩,
⟨some 242, .extract (.t 239) 0, none⟩,
⟨some 243, .extract (.t 239) 1, none⟩,
⟨some 42, .move (.t 242), none⟩,
⟨some 43, .move (.t 243), none⟩])
def A_laws_FnShabats.r42 : ACode := (.region none [⟨some 244, .move (.t 43), none⟩,
⟨some 245, .bin .neq (.t 244) (.c (.int .i64 0)), none⟩,
⟨some 246, .move (.t 245), none⟩,
⟨some 247, .move (.t 42), some (246, false)⟩,
⟨some 248, .not (.t 247), some (246, false)⟩,
⟨some 249, .pick (.t 246) (.c (.bool true)) (.t 248), none⟩])
def A_laws_FnShabats.r43 : ACode := (.region none [⟨some 2, .move (.c (.bool false)), none⟩])
def A_laws_FnShabats.r44 : ACode := (.region none [⟨some 250, .move (.t 31), none⟩,
⟨some 251, .bin .eql (.t 250) (.c (.int .i64 0)), none⟩])
def A_laws_FnShabats.r45 : ACode := (.region none [⟨some 253, .move (.t 30), none⟩,
⟨some 254, .call 36 [.t 253, (.c (.int .i64 1)), (.c (.int .i64 10006))], none⟩,
⟨some 252, .move (.t 254), none⟩,
⟨some 255, .extract (.t 252) 0, none⟩,
⟨some 256, .extract (.t 252) 1, none⟩,
⟨some 44, .move (.t 255), none⟩,
⟨some 45, .move (.t 256), none⟩])
def A_laws_FnShabats.r46 : ACode := (.region none [⟨some 257, .move (.t 0), none⟩,
⟨some 258, .call 47 [.t 257, (.c (.int .u64 9807))], none⟩,
⟨some 259, .call 48 [.t 258, (.c (.int .i64 4))], none⟩,
⟨some 260, .bin .add (.c (.int .i64 1)) (.t 259), none⟩,
⟨some 46, .move (.t 260), none⟩])
def A_laws_FnShabats.r47 : ACode := (.region none [⟨some 261, .move (.t 45), none⟩,
⟨some 262, .bin .neq (.t 261) (.c (.int .i64 0)), none⟩,
⟨some 263, .move (.t 262), none⟩,
⟨some 264, .move (.t 44), some (263, false)⟩,
⟨some 265, .not (.t 264), some (263, false)⟩,
⟨some 266, .pick (.t 263) (.c (.bool true)) (.t 265), none⟩])
def A_laws_FnShabats.r48 : ACode := (.region none [⟨some 2, .move (.c (.bool false)), none⟩])
def A_laws_FnShabats.r49 : ACode := (.region none [⟨some 267, .move (.t 46), none⟩,
⟨some 268, .move (.t 29), none⟩,
⟨some 269, .bin .mul (.t 267) (.t 268), none⟩,
⟨some 270, .bin .leq (.t 269) (.c (.int .i64 16)), none⟩])
def A_laws_FnShabats.r50 : ACode := (.region none [⟨some 272, .move (.t 46), none⟩,
⟨some 273, .call 19 [.t 272], none⟩,
⟨some 271, .move (.t 273), none⟩,
⟨some 274, .extract (.t 271) 0, none⟩,
⟨some 275, .extract (.t 271) 1, none⟩,
⟨some 47, .move (.t 274), none⟩,
⟨some 48, .move (.t 275), none⟩])
def A_laws_FnShabats.r51 : ACode := (.region none [⟨some 277, .move (.t 47), none⟩,
⟨some 278, .move (.t 30), none⟩,
⟨some 279, .call 28 [.t 277, .t 278], none⟩,
⟨some 276, .move (.t 279), none⟩,
⟨some 280, .extract (.t 276) 0, none⟩,
⟨some 281, .extract (.t 276) 1, none⟩,
⟨some 49, .move (.t 280), none⟩,
⟨some 50, .move (.t 281), none⟩])
def A_laws_FnShabats.r52 : ACode := (.region none [⟨some 283, .move (.t 46), none⟩,
⟨some 284, .move (.t 29), none⟩,
⟨some 285, .bin .mul (.t 283) (.t 284), none⟩,
⟨some 286, .call 19 [.t 285], none⟩,
⟨some 282, .move (.t 286), none⟩,
⟨some 287, .extract (.t 282) 0, none⟩,
⟨some 288, .extract (.t 282) 1, none⟩,
⟨some 51, .move (.t 287), none⟩,
⟨some 52, .move (.t 288), none⟩])
def A_laws_FnShabats.r53 : ACode := (.region none [⟨some 289, .move (.t 48), none⟩,
⟨some 290, .bin .neq (.t 289) (.c (.int .i64 0)), none⟩,
⟨some 291, .move (.t 290), none⟩,
⟨some 292, .move (.t 50), some (291, false)⟩,
⟨some 293, .bin .neq (.t 292) (.c (.int .i64 0)), some (291, false)⟩,
⟨some 294, .pick (.t 291) (.c (.bool true)) (.t 293), none⟩,
⟨some 295, .move (.t 294), none⟩,
⟨some 296, .move (.t 52), some (295, false)⟩,
⟨some 297, .bin .neq (.t 296) (.c (.int .i64 0)), some (295, false)⟩,
⟨some 298, .pick (.t 295) (.c (.bool true)) (.t 297), none⟩,
⟨some 299, .move (.t 298), none⟩,
⟨some 300, .move (.t 49), some (299, false)⟩,
⟨some 301, .move (.t 51), some (299, false)⟩,
⟨some 302, .call 43 [.t 300, .t 301], some (299, false)⟩,
⟨some 303, .not (.t 302), some (299, false)⟩,
⟨some 304, .pick (.t 299) (.c (.bool true)) (.t 303), none⟩])
def A_laws_FnShabats.r54 : ACode := (.region none [⟨some 2, .move (.c (.bool false)), none⟩])
def A_laws_FnShabats.r55 : ACode := (.region none [⟨some 305, .move (.t 6), none⟩,
⟨some 306, .bin .eql (.t 305) (.c (.int .i64 0)), none⟩,
⟨some 307, .move (.t 306), none⟩,
⟨some 308, .move (.t 5), some (307, true)⟩,
⟨some 309, .call 55 [.t 308], some (307, true)⟩,
⟨some 310, .move (.t 3), some (307, true)⟩,
⟨some 311, .len (.t 310), some (307, true)⟩,
⟨some 312, .bin .sub (.t 311) (.c (.int .i64 1)), some (307, true)⟩,
⟨some 313, .bin .neq (.t 309) (.t 312), some (307, true)⟩,
⟨some 314, .move (.t 313), some (307, true)⟩,
⟨some 315, .move (.t 9), some (314, false)⟩,
⟨some 316, .move (.t 5), some (314, false)⟩,
⟨some 317, .indexAddr none 1 (.t 316) (.c (.int .i64 0)), some (314, false)⟩,
⟨some 318, .load none (.t 317), some (314, false)⟩,
⟨some 319, .bin .gtr (.t 318) (.c (.int .i64 1)), some (314, false)⟩,
⟨some 320, .eqb true (.t 315) (.t 319), some (314, false)⟩,
⟨some 321, .pick (.t 314) (.c (.bool true)) (.t 320), some (307, true)⟩,
⟨some 322, .pick (.t 307) (.t 321) (.c (.bool false)), none⟩])
def A_laws_FnShabats.r56 : ACode := (.region none [⟨some 2, .move (.c (.bool false)), none⟩])
def A_laws_FnShabats.r57 : ACode := (.region none [⟨some 323, .move (.t 21), none⟩,
⟨some 324, .bin .neq (.t 323) (.c (.int .i64 0)), none⟩])
def A_laws_FnShabats.r58 : ACode := (.region none [⟨some 325, .move (.t 20), none⟩,
⟨some 326, .len (.t 325), none⟩,
⟨some 327, .bin .eql (.t 326) (.c (.int .i64 0)), none⟩,
⟨some 2, .move (.t 327), none⟩])
def A_laws_FnShabats.r59 : ACode := (.region none [⟨some 329, .move (.t 20), none⟩,
⟨some 330, .call 23 [.t 329], none⟩,
⟨some 328, .move (.t 330), none⟩,
⟨some 331, .extract (.t 328) 0, none⟩,
⟨some 332, .extract (.t 328) 1, none⟩,
⟨some 53, .move (.t 331), none⟩,
⟨some 54, .move (.t 332), none⟩])
def A_laws_FnShabats.r60 : ACode := (.region (some 12) [⟨some 334, .move (.t 20), none⟩,
⟨some 335, .indexAddr none 1 (.t 334) (.c (.int .i64 0)), none⟩,
⟨some 336, .load none (.t 335), none⟩,
⟨some 337, .move (.t 20), none⟩,
⟨some 338, .indexAddr none 1 (.t 337) (.c (.int .i64 1)), none⟩,
⟨some 339, .load none (.t 338), none⟩,
⟨some 340, .call 13 [.t 336, .t 339], none⟩,
⟨some 333, .move (.t 340), none⟩,
⟨some 341, .extract (.t 333) 0, none⟩,
⟨some 342, .extract (.t 333) 1, none⟩,
⟨some 55, .move (.t 341), none⟩,
⟨some 56, .move (.t 342), none⟩])
def A_laws_FnShabats.r61 : ACode := (.region none [⟨some 343, .move (.t 54), none⟩,
⟨some 344, .bin .eql (.t 343) (.c (.int .i64 0)), none⟩,
⟨some 345, .move (.t 344), none⟩,
⟨some 346, .move (.t 53), some (345, true)⟩,
⟨some 347, .bin .eql (.t 346) (.c (.int .i64 2)), some (345, true)⟩,
⟨some 348, .pick (.t 345) (.t 347) (.c (.bool false)), none⟩,
⟨some 349, .move (.t 348), none⟩,
⟨some 350, .move (.t 56), some (349, true)⟩,
⟨some 351, .bin .eql (.t 350) (.c (.int .i64 0)), some (349, true)⟩,
⟨some 352, .pick (.t 349) (.t 351) (.c (.bool false)), none⟩,
⟨some 353, .move (.t 352), none⟩,
⟨some 354, .move (.t 55), some (353, true)⟩,
⟨some 355, .bin .gtr (.t 354) (.c (.int .i64 0)), some (353, true)⟩,
⟨some 356, .pick (.t 353) (.t 355) (.c (.bool false)), none⟩,
⟨some 357, .move (.t 356), none⟩,
⟨some 358, .move (.t 16), some (357, true)⟩,
⟨some 359, .pick (.t 357) (.t 358) (.c (.bool false)), none⟩,
⟨some 2, .move (.t 359), none⟩])
def A_laws_FnShabats : AFunc := ⟨[.tmp 2], (.seq A_laws_FnShabats.r0 (.seq (.seq A_laws_FnShabats.r1 (.cond (.t 58) (.seq A_laws_FnShabats.r2 .ret) .skip)) (.seq A_laws_FnShabats.r3 (.seq A_laws_FnShabats.r4 (.seq (.seq A_laws_FnShabats.r5 (.seq A_laws_FnShabats.r6 (.cond (.t 84) (.seq A_laws_FnShabats.r7 .ret) .skip))) (.seq A_laws_FnShabats.r8 (.seq (.seq A_laws_FnShabats.r9 (.seq A_laws_FnShabats.r10 (.cond (.t 104) (.seq A_laws_FnShabats.r11 .ret) .skip))) (.seq A_laws_FnShabats.r12 (.seq A_laws_FnShabats.r13 (.seq (.seq A_laws_FnShabats.r14 (.seq A_laws_FnShabats.r15 (.cond (.t 132) (.seq A_laws_FnShabats.r16 .ret) .skip))) (.seq A_laws_FnShabats.r17 (.seq (.seq A_laws_FnShabats.r18 (.seq A_laws_FnShabats.r19 (.cond (.t 155) (.seq A_laws_FnShabats.r20 .ret) .skip))) (.seq A_laws_FnShabats.r21 (.seq A_laws_FnShabats.r22 (.seq (.seq A_laws_FnShabats.r23 (.seq A_laws_FnShabats.r24 (.cond (.t 176) (.seq A_laws_FnShabats.r25 .ret) .skip))) (.seq A_laws_FnShabats.r26 (.seq A_laws_FnShabats.r27 (.seq (.seq A_laws_FnShabats.r28 (.seq A_laws_FnShabats.r29 (.cond (.t 197) (.seq A_laws_FnShabats.r30 .ret) .skip))) (.seq A_laws_FnShabats.r31 (.seq A_laws_FnShabats.r32 (.seq (.seq A_laws_FnShabats.r33 (.seq A_laws_FnShabats.r34 (.cond (.t 223) (.seq A_laws_FnShabats.r35 .ret) .skip))) (.seq (.seq A_laws_FnShabats.r36 (.cond (.t 225) (.seq A_laws_FnShabats.r37 (.seq A_laws_FnShabats.r38 (.cond (.t 236) (.seq A_laws_FnShabats.r39 .ret) .skip))) .skip)) (.seq (.seq A_laws_FnShabats.r40 (.cond (.t 238) (.seq A_laws_FnShabats.r41 (.seq A_laws_FnShabats.r42 (.cond (.t 249) (.seq A_laws_FnShabats.r43 .ret) .skip))) .skip)) (.seq (.seq A_laws_FnShabats.r44 (.cond (.t 251) (.seq A_laws_FnShabats.r45 (.seq A_laws_FnShabats.r46 (.seq (.seq A_laws_FnShabats.r47 (.cond (.t 266) (.seq A_laws_FnShabats.r48 .ret) .skip)) (.seq A_laws_FnShabats.r49 (.cond (.t 270) (.seq A_laws_FnShabats.r50 (.seq A_laws_FnShabats.r51 (.seq A_laws_FnShabats.r52 (.seq A_laws_FnShabats.r53 (.cond (.t 304) (.seq A_laws_FnShabats.r54 .ret) .skip))))) .skip))))) .skip)) (.seq (.seq A_laws_FnShabats.r55 (.cond (.t 322) (.seq A_laws_FnShabats.r56 .ret) .skip)) (.seq (.seq A_laws_FnShabats.r57 (.cond (.t 324) (.seq A_laws_FnShabats.r58 .ret) .skip)) (.seq A_laws_FnShabats.r59 (.seq A_laws_FnShabats.r60 (.seq A_laws_FnShabats.r61 .ret)))))))))))))))))))))))))))))⟩
/-! laws_big -/
def A_laws_big.r0 : ACode := (.region none [⟨some 2, .move (.c (.bool false)), none⟩])
def A_laws_big.r1 : ACode := (.region none [⟨some 3, .move (.t 0), none⟩,
⟨some 4, .len (.t 3), none⟩,
⟨some 5, .bin .gtr (.t 4) (.c (.int .i64 4096)), none⟩,
⟨some 2, .move (.t 5), none⟩])
def A_laws_big : AFunc := ⟨[.tmp 2], (.seq A_laws_big.r0 (.seq A_laws_big.r1 .ret))⟩
/-! laws_roll -/
def A_laws_roll.r0 : ACode := (.region none [⟨some 4, .move (.c (.pointer none)), none⟩])
def A_laws_roll.r1 : ACode := (.region none [⟨some 7, .move (.t 0), none⟩,
⟨some 8, .move (.t 1), none⟩,
⟨some 9, .bin .mul (.t 8) (.c (.int .u64 6257)), none⟩,
⟨some 10, .move (.t 0), none⟩,
⟨some 11, .len (.t 10), none⟩,
⟨some 12, .conv .u64 (.t 11), none⟩,
⟨some 13, .bin .add (.t 9) (.t 12), none⟩,
⟨some 14, .build ([.slice none 0 0] ++ [.int .i64 0] ++ [.int .u64 0]) [(0, 1, .t 7), (2, 1, .t 13)], none⟩,
⟨some 15, .box (.t 14), none⟩,
⟨some 5, .move (.t 15), none⟩])
def A_laws_roll.r2 : ACode := (.region none [⟨some 6, .move (.c (.int .i64 0)), none⟩])
def A_laws_roll.r3 : ACode := (.region none [⟨some 16, .move (.t 6), none⟩,
⟨some 17, .move (.t 0), none⟩,
⟨some 18, .len (.t 17), none⟩,
⟨some 19, .bin .lss (.t 16) (.t 18), none⟩])
def A_laws_roll.r5 : ACode := (.region (some 15) [⟨some 22, .move (.t 5), none⟩,
⟨some 23, .move (.t 5), none⟩,
⟨some 24, .nilCheck (.t 23), none⟩,
⟨some 25, .fieldAddr 2 (.t 24), none⟩,
⟨some 26, .load none (.t 25), none⟩,
⟨some 27, .bin .mul (.t 26) (.c (.int .u64 1099511628211)), none⟩,
⟨some 28, .move (.t 0), none⟩,
⟨some 29, .move (.t 6), none⟩,
⟨some 30, .indexAddr none 1 (.t 28) (.t 29), none⟩,
⟨some 31, .load none (.t 30), none⟩,
⟨some 32, .conv .u64 (.t 31), none⟩,
⟨some 33, .bin .add (.t 27) (.t 32), none⟩,
⟨some 34, .bin .add (.t 33) (.c (.int .u64 5)), none⟩,
⟨some 35, .nilCheck (.t 22), none⟩,
⟨some 36, .fieldAddr 2 (.t 35), none⟩,
⟨none, .store 1 (.t 36) (.t 34), none⟩])
def A_laws_roll.r4 : ACode := (.region none [⟨some 20, .move (.t 6), none⟩,
⟨some 21, .bin .add (.t 20) (.c (.int .i64 1)), none⟩,
⟨some 6, .move (.t 21), none⟩])
def A_laws_roll.l0 : ACode := (.seq (.seq A_laws_roll.r3 (.cond (.t 19) .skip (.exit 0))) (.seq (.block 1 A_laws_roll.r5) A_laws_roll.r4))
def A_laws_roll.r6 : ACode := (.region none [⟨some 37, .move (.t 5), none⟩,
⟨some 4, .move (.t 37), none⟩])
def A_laws_roll : AFunc := ⟨[.tmp 4], (.seq A_laws_roll.r0 (.seq A_laws_roll.r1 (.seq (.seq A_laws_roll.r2 (.block 0 (.loop A_laws_roll.l0))) (.seq A_laws_roll.r6 .ret))))⟩
/-! laws_dice_below -/
def A_laws_dice_below.r0 : ACode := (.region none [⟨some 4, .move (.c (.int .i64 0)), none⟩])
def A_laws_dice_below.r1 : ACode := (.region none [⟨some 6, .move (.t 1), none⟩,
⟨some 7, .bin .lss (.t 6) (.c (.int .i64 1)), none⟩])
def A_laws_dice_below.r2 : ACode := (.region none [⟨some 4, .move (.c (.int .i64 0)), none⟩])
def A_laws_dice_below.r3 : ACode := (.region none [⟨some 8, .move (.t 0), none⟩,
⟨some 9, .move (.t 0), none⟩,
⟨some 10, .nilCheck (.t 9), none⟩,
⟨some 11, .fieldAddr 2 (.t 10), none⟩,
⟨some 12, .load none (.t 11), none⟩,
⟨some 13, .bin .mul (.t 12) (.c (.int .u64 6364136223846793005)), none⟩,
⟨some 14, .bin .add (.t 13) (.c (.int .u64 1442695040888963407)), none⟩,
⟨some 15, .nilCheck (.t 8), none⟩,
⟨some 16, .fieldAddr 2 (.t 15), none⟩,
⟨none, .store 1 (.t 16) (.t 14), none⟩])
def A_laws_dice_below.r4 : ACode := (.region none [⟨some 17, .move (.t 0), none⟩,
⟨some 18, .nilCheck (.t 17), none⟩,
⟨some 19, .fieldAddr 2 (.t 18), none⟩,
⟨some 20, .load none (.t 19), none⟩,
⟨some 21, .bin .shr (.t 20) (.c (.int .u64 33)), none⟩,
⟨some 22, .bin .and (.t 21) (.c (.int .u64 16777215)), none⟩,
⟨some 23, .conv .i64 (.t 22), none⟩,
⟨some 5, .move (.t 23), none⟩])
def A_laws_dice_below.r5 : ACode := (.region (some 10) [⟨some 24, .move (.t 0), none⟩,
⟨some 25, .nilCheck (.t 24), none⟩,
⟨some 26, .fieldAddr 1 (.t 25), none⟩,
⟨some 27, .load none (.t 26), none⟩,
⟨some 28, .move (.t 0), none⟩,
⟨some 29, .nilCheck (.t 28), none⟩,
⟨some 30, .fieldAddr 0 (.t 29), none⟩,
⟨some 31, .load none (.t 30), none⟩,
⟨some 32, .len (.t 31), none⟩,
⟨some 33, .bin .lss (.t 27) (.t 32), none⟩])
def A_laws_dice_below.r6 : ACode := (.region (some 14) [⟨some 34, .move (.t 5), none⟩,
⟨some 35, .move (.t 0), none⟩,
⟨some 36, .nilCheck (.t 35), none⟩,
⟨some 37, .fieldAddr 0 (.t 36), none⟩,
⟨some 38, .load none (.t 37), none⟩,
⟨some 39, .move (.t 0), none⟩,
⟨some 40, .nilCheck (.t 39), none⟩,
⟨some 41, .fieldAddr 1 (.t 40), none⟩,
⟨some 42, .load none (.t 41), none⟩,
⟨some 43, .indexAddr none 1 (.t 38) (.t 42), none⟩,
⟨some 44, .load none (.t 43), none⟩,
⟨some 45, .conv .i64 (.t 44), none⟩,
⟨some 46, .bin .add (.t 34) (.t 45), none⟩,
⟨some 5, .move (.t 46), none⟩])
def A_laws_dice_below.r7 : ACode := (.region none [⟨some 47, .move (.t 0), none⟩,
⟨some 48, .move (.t 0), none⟩,
⟨some 49, .nilCheck (.t 48), none⟩,
⟨some 50, .fieldAddr 1 (.t 49), none⟩,
⟨some 51, .load none (.t 50), none⟩,
⟨some 52, .bin .add (.t 51) (.c (.int .i64 1)), none⟩,
⟨some 53, .nilCheck (.t 47), none⟩,
⟨some 54, .fieldAddr 1 (.t 53), none⟩,
⟨none, .store 1 (.t 54) (.t 52), none⟩])
def A_laws_dice_below.r8 : ACode := (.region none [⟨some 55, .move (.t 5), none⟩,
⟨some 56, .move (.t 1), none⟩,
⟨some 57, .bin .rem (.t 55) (.t 56), none⟩,
⟨some 4, .move (.t 57), none⟩])
def A_laws_dice_below : AFunc := ⟨[.tmp 4], (.seq A_laws_dice_below.r0 (.seq (.seq A_laws_dice_below.r1 (.cond (.t 7) (.seq A_laws_dice_below.r2 .ret) .skip)) (.seq A_laws_dice_below.r3 (.seq A_laws_dice_below.r4 (.seq (.seq A_laws_dice_below.r5 (.cond (.t 33) (.seq A_laws_dice_below.r6 A_laws_dice_below.r7) .skip)) (.seq A_laws_dice_below.r8 .ret))))))⟩
/-! laws_likeInts -/
def A_laws_likeInts.r0 : ACode := (.region none [⟨some 4, .move (.c (.bool false)), none⟩])
def A_laws_likeInts.r1 : ACode := (.region none [⟨some 6, .move (.t 0), none⟩,
⟨some 7, .len (.t 6), none⟩,
⟨some 8, .move (.t 1), none⟩,
⟨some 9, .len (.t 8), none⟩,
⟨some 10, .bin .neq (.t 7) (.t 9), none⟩])
def A_laws_likeInts.r2 : ACode := (.region none [⟨some 4, .move (.c (.bool false)), none⟩])
def A_laws_likeInts.r3 : ACode := (.region none [⟨some 5, .move (.c (.int .i64 0)), none⟩])
def A_laws_likeInts.r4 : ACode := (.region none [⟨some 11, .move (.t 5), none⟩,
⟨some 12, .move (.t 0), none⟩,
⟨some 13, .len (.t 12), none⟩,
⟨some 14, .bin .lss (.t 11) (.t 13), none⟩])
def A_laws_likeInts.r6 : ACode := (.region (some 9) [⟨some 17, .move (.t 0), none⟩,
⟨some 18, .move (.t 5), none⟩,
⟨some 19, .indexAddr none 1 (.t 17) (.t 18), none⟩,
⟨some 20, .load none (.t 19), none⟩,
⟨some 21, .move (.t 1), none⟩,
⟨some 22, .move (.t 5), none⟩,
⟨some 23, .indexAddr none 1 (.t 21) (.t 22), none⟩,
⟨some 24, .load none (.t 23), none⟩,
⟨some 25, .bin .neq (.t 20) (.t 24), none⟩])
def A_laws_likeInts.r7 : ACode := (.region none [⟨some 4, .move (.c (.bool false)), none⟩])
def A_laws_likeInts.r5 : ACode := (.region none [⟨some 15, .move (.t 5), none⟩,
⟨some 16, .bin .add (.t 15) (.c (.int .i64 1)), none⟩,
⟨some 5, .move (.t 16), none⟩])
def A_laws_likeInts.l0 : ACode := (.seq (.seq A_laws_likeInts.r4 (.cond (.t 14) .skip (.exit 0))) (.seq (.block 1 (.seq A_laws_likeInts.r6 (.cond (.t 25) (.seq A_laws_likeInts.r7 .ret) .skip))) A_laws_likeInts.r5))
def A_laws_likeInts.r8 : ACode := (.region none [⟨some 4, .move (.c (.bool true)), none⟩])
def A_laws_likeInts : AFunc := ⟨[.tmp 4], (.seq A_laws_likeInts.r0 (.seq (.seq A_laws_likeInts.r1 (.cond (.t 10) (.seq A_laws_likeInts.r2 .ret) .skip)) (.seq (.seq A_laws_likeInts.r3 (.block 0 (.loop A_laws_likeInts.l0))) (.seq A_laws_likeInts.r8 .ret))))⟩
/-! impl_IsPolynomial -/
def A_impl_IsPolynomial.r0 : ACode := (.region none [⟨some 2, .move (.c (.bool false)), none⟩])
def A_impl_IsPolynomial.r1 : ACode := (.region none [⟨some 5, .move (.t 0), none⟩,
⟨some 6, .len (.t 5), none⟩,
⟨some 7, .bin .gtr (.t 6) (.c (.int .i64 17)), none⟩,
⟨some 8, .move (.t 7), none⟩,
⟨some 9, .move (.t 0), some (8, false)⟩,
⟨some 10, .len (.t 9), some (8, false)⟩,
⟨some 11, .bin .gtr (.t 10) (.c (.int .i64 0)), some (8, false)⟩,
⟨some 12, .move (.t 11), some (8, false)⟩,
⟨some 13, .move (.t 0), some (12, true)⟩,
⟨some 14, .move (.t 0), some (12, true)⟩,
⟨some 15, .len (.t 14), some (12, true)⟩,
⟨some 16, .bin .sub (.t 15) (.c (.int .i64 1)), some (12, true)⟩,
⟨some 17, .indexAddr none 1 (.t 13) (.t 16), some (12, true)⟩,
⟨some 18, .load none (.t 17), some (12, true)⟩,
⟨some 19, .bin .eql (.t 18) (.c (.int .i64 0)), some (12, true)⟩,
⟨some 20, .pick (.t 12) (.t 19) (.c (.bool false)), some (8, false)⟩,
⟨some 21, .pick (.t 8) (.c (.bool true)) (.t 20), none⟩])
def A_impl_IsPolynomial.r2 : ACode := (.region none [⟨some 2, .move (.c (.bool false)), none⟩])
def A_impl_IsPolynomial.r3 : ACode := (.region none [⟨some 22, .move (.t 0), none⟩,
⟨some 23, .len (.t 22), none⟩,
⟨some 24, .move (.c (.int .i64 0)), none⟩])
def A_impl_IsPolynomial.r4 : ACode := (.region none [⟨some 25, .bin .lss (.t 24) (.t 23), none⟩])
def A_impl_IsPolynomial.r5 : ACode := (.region none [⟨some 26, .indexAddr none 1 (.t 22) (.t 24), none⟩,
⟨some 27, .load none (.t 26), none⟩,
⟨some 4, .move (.t 27), none⟩])
def A_impl_IsPolynomial.r6 : ACode := (.region none [⟨some 28, .move (.t 4), none⟩,
⟨some 29, .call 57 [.t 28], none⟩,
⟨some 30, .not (.t 29), none⟩])
def A_impl_IsPolynomial.r7 : ACode := (.region none [⟨some 2, .move (.c (.bool false)), none⟩])
def A_impl_IsPolynomial.r8 : ACode := (.region none [⟨some 31, .bin .add (.t 24) (.c (.int .i64 1)), none⟩,
⟨some 24, .move (.t 31), none⟩])
def A_impl_IsPolynomial.l0 : ACode := (.seq A_impl_IsPolynomial.r4 (.seq (.cond (.t 25) .skip (.exit 0)) (.seq (.block 1 (.seq A_impl_IsPolynomial.r5 (.seq A_impl_IsPolynomial.r6 (.cond (.t 30) (.seq A_impl_IsPolynomial.r7 .ret) .skip)))) A_impl_IsPolynomial.r8)))
def A_impl_IsPolynomial.r9 : ACode := (.region none [⟨some 2, .move (.c (.bool true)), none⟩])
def A_impl_IsPolynomial : AFunc := ⟨[.tmp 2], (.seq A_impl_IsPolynomial.r0 (.seq (.seq A_impl_IsPolynomial.r1 (.cond (.t 21) (.seq A_impl_IsPolynomial.r2 .ret) .skip)) (.seq (.seq A_impl_IsPolynomial.r3 (.block 0 (.loop A_impl_IsPolynomial.l0))) (.seq A_impl_IsPolynomial.r9 .ret))))⟩
/-! impl_ComposePolynomials -/
def A_impl_ComposePolynomials.r0 : ACode := (.region none [⟨some 4, .move (.c (.slice none 0 0)), none⟩,
⟨some 5, .move (.c (.int .i64 0)), none⟩])
def A_impl_ComposePolynomials.r1 : ACode := (.region none [⟨some 8, .move (.t 0), none⟩,
⟨some 9, .call 2 [.t 8], none⟩,
⟨some 10, .not (.t 9), none⟩,
⟨some 11, .move (.t 10), none⟩,
⟨some 12, .move (.t 1), some (11, false)⟩,
⟨some 13, .call 2 [.t 12], some (11, false)⟩,
⟨some 14, .not (.t 13), some (11, false)⟩,
⟨some 15, .pick (.t 11) (.c (.bool true)) (.t 14), none⟩])
def A_impl_ComposePolynomials.r2 : ACode := (.region none [⟨some 4, .move (.c (.slice none 0 0)), none⟩,
⟨some 5, .move (.c (.int .i64 1)), none⟩])
def A_impl_ComposePolynomials.r3 : ACode := (.region none [⟨some 16, .move (.t 0), none⟩,
⟨some 17, .len (.t 16), none⟩,
⟨some 18, .bin .sub (.t 17) (.c (.int .i64 1)), none⟩,
⟨some 19, .move (.t 1), none⟩,
⟨some 20, .len (.t 19), none⟩,
⟨some 21, .bin .sub (.t 20) (.c (.int .i64 1)), none⟩,
⟨some 22, .bin .mul (.t 18) (.t 21), none⟩,
⟨some 23, .bin .gtr (.t 22) (.c (.int .i64 16)), none⟩])
def A_impl_ComposePolynomials.r4 : ACode := (.region none [⟨some 4, .move (.c (.slice none 0 0)), none⟩,
⟨some 5, .move (.c (.int .i64 3)), none⟩])
def A_impl_ComposePolynomials.r5 : ACode := (.region none [⟨some 24, .buildSlice 1 0 [.int .i64 0] [], none⟩,
⟨some 6, .move (.t 24), none⟩])
def A_impl_ComposePolynomials.r6 : ACode := (.region none [⟨some 25, .move (.t 0), none⟩,
⟨some 26, .len (.t 25), none⟩,
⟨some 27, .bin .sub (.t 26) (.c (.int .i64 1)), none⟩,
⟨some 7, .move (.t 27), none⟩])
def A_impl_ComposePolynomials.r7 : ACode := (.region none [⟨some 28, .move (.t 7), none⟩,
⟨some 29, .bin .geq (.t 28) (.c (.int .i64 0)), none⟩])
def A_impl_ComposePolynomials.r9 : ACode := (.region (some 10) [⟨some 32, .move (.t 6), none⟩,
⟨some 33, .move (.t 1), none⟩,
⟨some 34, .call 75 [.t 32, .t 33], none⟩,
⟨some 35, .move (.t 0), none⟩,
⟨some 36, .move (.t 7), none⟩,
⟨some 37, .indexAddr none 1 (.t 35) (.t 36), none⟩,
⟨some 38, .load none (.t 37), none⟩,
⟨some 39, .buildSlice 1 1 [.int .i64 0] [(0, 1, .t 38)], none⟩,
⟨some 40, .call 73 [.t 34, .t 39], none⟩,
⟨some 6, .move (.t 40), none⟩])
def A_impl_ComposePolynomials.r8 : ACode := (.region none [⟨some 30, .move (.t 7), none⟩,
⟨some 31, .bin .sub (.t 30) (.c (.int .i64 1)), none⟩,
⟨some 7, .move (.t 31), none⟩])
def A_impl_ComposePolynomials.l0 : ACode := (.seq (.seq A_impl_ComposePolynomials.r7 (.cond (.t 29) .skip (.exit 0))) (.seq (.block 1 A_impl_ComposePolynomials.r9) A_impl_ComposePolynomials.r8))
def A_impl_ComposePolynomials.r10 : ACode := (.region none [⟨some 41, .move (.t 6), none⟩,
⟨some 4, .move (.t 41), none⟩,
⟨some 5, .move (.c (.int .i64 0)), none⟩])
def A_impl_ComposePolynomials : AFunc := ⟨[.tmp 4, .tmp 5], (.seq A_impl_ComposePolynomials.r0 (.seq (.seq A_impl_ComposePolynomials.r1 (.cond (.t 15) (.seq A_impl_ComposePolynomials.r2 .ret) .skip)) (.seq (.seq A_impl_ComposePolynomials.r3 (.cond (.t 23) (.seq A_impl_ComposePolynomials.r4 .ret) .skip)) (.seq A_impl_ComposePolynomials.r5 (.seq (.seq A_impl_ComposePolynomials.r6 (.block 0 (.loop A_impl_ComposePolynomials.l0))) (.seq A_impl_ComposePolynomials.r10 .ret))))))⟩
/-! spec_DrawValueOf -/
def A_spec_DrawValueOf.r0 : ACode := (.region none [⟨some 2, .move (.c (.slice none 0 0)), none⟩,
⟨some 3, .move (.c (.int .i64 0)), none⟩])
def A_spec_DrawValueOf.r1 : ACode := (.region none [⟨some 5, .move (.t 0), none⟩,
⟨some 6, .call 97 [.t 5], none⟩,
⟨some 4, .move (.t 6), none⟩])
def A_spec_DrawValueOf.r2 : ACode := (.region none [⟨some 7, .move (.t 4), none⟩,
⟨some 8, .call 100 [.t 7], none⟩,
⟨some 9, .move (.t 4), none⟩,
⟨some 10, .call 101 [.t 9], none⟩,
⟨some 2, .move (.t 8), none⟩,
⟨some 3, .move (.t 10), none⟩])
def A_spec_DrawValueOf : AFunc := ⟨[.tmp 2, .tmp 3], (.seq A_spec_DrawValueOf.r0 (.seq A_spec_DrawValueOf.r1 (.seq A_spec_DrawValueOf.r2 .ret)))⟩
/-! spec_DrawMultiplicitiesOf -/
def A_spec_DrawMultiplicitiesOf.r0 : ACode := (.region none [⟨some 2, .move (.c (.slice none 0 0)), none⟩,
⟨some 3, .move (.c (.int .i64 0)), none⟩])
def A_spec_DrawMultiplicitiesOf.r1 : ACode := (.region none [⟨some 7, .move (.t 0), none⟩,
⟨some 8, .call 46 [.t 7], none⟩,
⟨some 6, .move (.t 8), none⟩,
⟨some 9, .extract (.t 6) 0, none⟩,
⟨some 10, .extract (.t 6) 1, none⟩,
⟨some 4, .move (.t 9), none⟩,
⟨some 5, .move (.t 10), none⟩])
def A_spec_DrawMultiplicitiesOf.r2 : ACode := (.region none [⟨some 11, .move (.t 4), none⟩,
⟨some 12, .move (.t 5), none⟩,
⟨some 2, .move (.t 11), none⟩,
⟨some 3, .move (.t 12), none⟩])
def A_spec_DrawMultiplicitiesOf : AFunc := ⟨[.tmp 2, .tmp 3], (.seq A_spec_DrawMultiplicitiesOf.r0 (.seq A_spec_DrawMultiplicitiesOf.r1 (.seq A_spec_DrawMultiplicitiesOf.r2 .ret)))⟩
/-! impl_MultiplicitiesOf -/
def A_impl_MultiplicitiesOf.r0 : ACode := (.region none [⟨some 4, .move (.c (.slice none 0 0)), none⟩,
⟨some 5, .move (.c (.int .i64 0)), none⟩])
def A_impl_MultiplicitiesOf.r1 : ACode := (.region none [⟨some 7, .move (.t 0), none⟩,
⟨some 8, .move (.t 1), none⟩,
⟨some 9, .buildSlice 1 1 [.int .i64 0] [(0, 1, .t 8)], none⟩,
⟨some 10, .call 90 [.t 7, .t 9], none⟩,
⟨some 6, .move (.t 10), none⟩])
def A_impl_MultiplicitiesOf.r2 : ACode := (.region none [⟨some 11, .move (.t 6), none⟩,
⟨some 12, .bin .neq (.t 11) (.c (.int .i64 0)), none⟩])
def A_impl_MultiplicitiesOf.r3 : ACode := (.region none [⟨some 13, .move (.t 6), none⟩,
⟨some 4, .move (.c (.slice none 0 0)), none⟩,
⟨some 5, .move (.t 13), none⟩])
def A_impl_MultiplicitiesOf.r4 : ACode := (.region none [⟨some 14, .move (.t 0), none⟩,
⟨some 15, .move (.t 1), none⟩,
⟨some 16, .call 91 [.t 14, .t 15], none⟩,
⟨some 4, .move (.t 16), none⟩,
⟨some 5, .move (.c (.int .i64 0)), none⟩])
def A_impl_MultiplicitiesOf : AFunc := ⟨[.tmp 4, .tmp 5], (.seq A_impl_MultiplicitiesOf.r0 (.seq (.seq A_impl_MultiplicitiesOf.r1 (.seq A_impl_MultiplicitiesOf.r2 (.cond (.t 12) (.seq A_impl_MultiplicitiesOf.r3 .ret) .skip))) (.seq A_impl_MultiplicitiesOf.r4 .ret)))⟩
/-! spec_MultiplicitiesOf -/
def A_spec_MultiplicitiesOf.r0 : ACode := (.region none [⟨some 4, .move (.c (.slice none 0 0)), none⟩,
⟨some 5, .move (.c (.int .i64 0)), none⟩])
def A_spec_MultiplicitiesOf.r1 : ACode := (.region none [⟨some 7, .move (.t 0), none⟩,
⟨some 8, .move (.t 1), none⟩,
⟨some 9, .buildSlice 1 1 [.int .i64 0] [(0, 1, .t 8)], none⟩,
⟨some 10, .call 88 [.t 7, .t 9], none⟩,
⟨some 6, .move (.t 10), none⟩])
def A_spec_MultiplicitiesOf.r2 : ACode := (.region none [⟨some 11, .move (.t 6), none⟩,
⟨some 12, .bin .neq (.t 11) (.c (.int .i64 0)), none⟩])
def A_spec_MultiplicitiesOf.r3 : ACode := (.region none [⟨some 13, .move (.t 6), none⟩,
⟨some 4, .move (.c (.slice none 0 0)), none⟩,
⟨some 5, .move (.t 13), none⟩])
def A_spec_MultiplicitiesOf.r4 : ACode := (.region none [⟨some 14, .move (.t 0), none⟩,
⟨some 15, .move (.t 1), none⟩,
⟨some 16, .call 89 [.t 14, .t 15], none⟩,
⟨some 4, .move (.t 16), none⟩,
⟨some 5, .move (.c (.int .i64 0)), none⟩])
def A_spec_MultiplicitiesOf : AFunc := ⟨[.tmp 4, .tmp 5], (.seq A_spec_MultiplicitiesOf.r0 (.seq (.seq A_spec_MultiplicitiesOf.r1 (.seq A_spec_MultiplicitiesOf.r2 (.cond (.t 12) (.seq A_spec_MultiplicitiesOf.r3 .ret) .skip))) (.seq A_spec_MultiplicitiesOf.r4 .ret)))⟩
/-! impl_IsCritical -/
def A_impl_IsCritical.r0 : ACode := (.region none [⟨some 4, .move (.c (.bool false)), none⟩,
⟨some 5, .move (.c (.int .i64 0)), none⟩])
def A_impl_IsCritical.r1 : ACode := (.region none [⟨some 7, .move (.t 0), none⟩,
⟨some 8, .move (.t 1), none⟩,
⟨some 9, .buildSlice 1 1 [.int .i64 0] [(0, 1, .t 8)], none⟩,
⟨some 10, .call 90 [.t 7, .t 9], none⟩,
⟨some 6, .move (.t 10), none⟩])
def A_impl_IsCritical.r2 : ACode := (.region none [⟨some 11, .move (.t 6), none⟩,
⟨some 12, .bin .neq (.t 11) (.c (.int .i64 0)), none⟩])
def A_impl_IsCritical.r3 : ACode := (.region none [⟨some 13, .move (.t 6), none⟩,
⟨some 4, .move (.c (.bool false)), none⟩,
⟨some 5, .move (.t 13), none⟩])
def A_impl_IsCritical.r4 : ACode := (.region none [⟨some 14, .move (.t 0), none⟩,
⟨some 15, .move (.t 1), none⟩,
⟨some 16, .call 91 [.t 14, .t 15], none⟩,
⟨some 17, .indexAddr none 1 (.t 16) (.c (.int .i64 0)), none⟩,
⟨some 18, .load none (.t 17), none⟩,
⟨some 19, .bin .gtr (.t 18) (.c (.int .i64 1)), none⟩,
⟨some 4, .move (.t 19), none⟩,
⟨some 5, .move (.c (.int .i64 0)), none⟩])
def A_impl_IsCritical : AFunc := ⟨[.tmp 4, .tmp 5], (.seq A_impl_IsCritical.r0 (.seq (.seq A_impl_IsCritical.r1 (.seq A_impl_IsCritical.r2 (.cond (.t 12) (.seq A_impl_IsCritical.r3 .ret) .skip))) (.seq A_impl_IsCritical.r4 .ret)))⟩
/-! spec_IsCritical -/
def A_spec_IsCritical.r0 : ACode := (.region none [⟨some 4, .move (.c (.bool false)), none⟩,
⟨some 5, .move (.c (.int .i64 0)), none⟩])
def A_spec_IsCritical.r1 : ACode := (.region none [⟨some 7, .move (.t 0), none⟩,
⟨some 8, .move (.t 1), none⟩,
⟨some 9, .buildSlice 1 1 [.int .i64 0] [(0, 1, .t 8)], none⟩,
⟨some 10, .call 88 [.t 7, .t 9], none⟩,
⟨some 6, .move (.t 10), none⟩])
def A_spec_IsCritical.r2 : ACode := (.region none [⟨some 11, .move (.t 6), none⟩,
⟨some 12, .bin .neq (.t 11) (.c (.int .i64 0)), none⟩])
def A_spec_IsCritical.r3 : ACode := (.region none [⟨some 13, .move (.t 6), none⟩,
⟨some 4, .move (.c (.bool false)), none⟩,
⟨some 5, .move (.t 13), none⟩])
def A_spec_IsCritical.r4 : ACode := (.region none [⟨some 14, .move (.t 0), none⟩,
⟨some 15, .move (.t 1), none⟩,
⟨some 16, .call 89 [.t 14, .t 15], none⟩,
⟨some 17, .indexAddr none 1 (.t 16) (.c (.int .i64 0)), none⟩,
⟨some 18, .load none (.t 17), none⟩,
⟨some 19, .bin .gtr (.t 18) (.c (.int .i64 1)), none⟩,
⟨some 4, .move (.t 19), none⟩,
⟨some 5, .move (.c (.int .i64 0)), none⟩])
def A_spec_IsCritical : AFunc := ⟨[.tmp 4, .tmp 5], (.seq A_spec_IsCritical.r0 (.seq (.seq A_spec_IsCritical.r1 (.seq A_spec_IsCritical.r2 (.cond (.t 12) (.seq A_spec_IsCritical.r3 .ret) .skip))) (.seq A_spec_IsCritical.r4 .ret)))⟩
/-! spec_DrawIsShabat -/
def A_spec_DrawIsShabat.r0 : ACode := (.region none [⟨some 2, .move (.c (.slice none 0 0)), none⟩,
⟨some 3, .move (.c (.int .i64 0)), none⟩,
⟨some 4, .move (.c (.int .i64 0)), none⟩])
def A_spec_DrawIsShabat.r1 : ACode := (.region none [⟨some 7, .move (.t 0), none⟩,
⟨some 8, .call 97 [.t 7], none⟩,
⟨some 5, .move (.t 8), none⟩])
def A_spec_DrawIsShabat.r2 : ACode := (.region none [⟨some 9, .move (.t 5), none⟩,
⟨some 10, .call 100 [.t 9], none⟩,
⟨some 6, .move (.t 10), none⟩])
def A_spec_DrawIsShabat.r3 : ACode := (.region none [⟨some 11, .move (.t 5), none⟩,
⟨some 12, .call 102 [.t 11, (.c (.int .i64 3))], none⟩])
def A_spec_DrawIsShabat.r4 : ACode := (.region none [⟨some 14, .bin .eql (.t 12) (.c (.int .i64 0)), none⟩,
⟨some 13, .move (.t 14), none⟩])
def A_spec_DrawIsShabat.r5 : ACode := (.region none [⟨some 15, .move (.t 6), none⟩,
⟨some 2, .move (.t 15), none⟩,
⟨some 3, .move (.c (.int .i64 0)), none⟩,
⟨some 4, .move (.c (.int .i64 1)), none⟩])
def A_spec_DrawIsShabat.r6 : ACode := (.region none [⟨some 17, .bin .eql (.t 12) (.c (.int .i64 1)), none⟩,
⟨some 16, .move (.t 17), none⟩])
def A_spec_DrawIsShabat.r7 : ACode := (.region none [⟨some 18, .move (.t 6), none⟩,
⟨some 2, .move (.t 18), none⟩,
⟨some 3, .move (.c (.int .i64 1)), none⟩,
⟨some 4, .move (.c (.int .i64 10006)), none⟩])
def A_spec_DrawIsShabat.r8 : ACode := (.region none [⟨some 19, .move (.t 6), none⟩,
⟨some 20, .move (.t 5), none⟩,
⟨some 21, .call 101 [.t 20], none⟩,
⟨some 22, .move (.t 5), none⟩,
⟨some 23, .call 101 [.t 22], none⟩,
⟨some 2, .move (.t 19), none⟩,
⟨some 3, .move (.t 21), none⟩,
⟨some 4, .move (.t 23), none⟩])
def A_spec_DrawIsShabat : AFunc := ⟨[.tmp 2, .tmp 3, .tmp 4], (.seq A_spec_DrawIsShabat.r0 (.seq A_spec_DrawIsShabat.r1 (.seq A_spec_DrawIsShabat.r2 (.seq (.seq A_spec_DrawIsShabat.r3 (.block 0 (.seq A_spec_DrawIsShabat.r4 (.cond (.t 13) (.seq A_spec_DrawIsShabat.r5 .ret) (.seq A_spec_DrawIsShabat.r6 (.cond (.t 16) (.seq A_spec_DrawIsShabat.r7 .ret) .skip)))))) (.seq A_spec_DrawIsShabat.r8 .ret)))))⟩
/-! impl_IsShabat -/
def A_impl_IsShabat.r0 : ACode := (.region none [⟨some 6, .move (.c (.bool false)), none⟩,
⟨some 7, .move (.c (.int .i64 0)), none⟩])
def A_impl_IsShabat.r1 : ACode := (.region none [⟨some 11, .move (.t 0), none⟩,
⟨some 12, .move (.t 1), none⟩,
⟨some 13, .move (.t 2), none⟩,
⟨some 14, .call 94 [.t 11, .t 12, .t 13], none⟩,
⟨some 8, .move (.t 14), none⟩])
def A_impl_IsShabat.r2 : ACode := (.region none [⟨some 15, .move (.t 8), none⟩,
⟨some 16, .bin .neq (.t 15) (.c (.int .i64 0)), none⟩])
def A_impl_IsShabat.r3 : ACode := (.region none [⟨some 17, .move (.t 8), none⟩,
⟨some 6, .move (.c (.bool false)), none⟩,
⟨some 7, .move (.t 17), none⟩])
def A_impl_IsShabat.r4 : ACode := (.region none [⟨some 19, .move (.t 0), none⟩,
⟨some 20, .move (.t 1), none⟩,
⟨some 21, .move (.t 2), none⟩,
⟨some 22, .call 95 [.t 19, .t 20, .t 21], none⟩,
⟨some 18, .move (.t 22), none⟩,
⟨some 23, .extract (.t 18) 0, none⟩,
⟨some 24, .extract (.t 18) 1, none⟩,
⟨some 9, .move (.t 23), none⟩,
⟨some 10, .move (.t 24), none⟩])
def A_impl_IsShabat.r5 : ACode := (.region none [⟨some 25, .move (.t 10), none⟩,
⟨some 6, .move (.t 25), none⟩,
⟨some 7, .move (.c (.int .i64 0)), none⟩])
def A_impl_IsShabat : AFunc := ⟨[.tmp 6, .tmp 7], (.seq A_impl_IsShabat.r0 (.seq (.seq A_impl_IsShabat.r1 (.seq A_impl_IsShabat.r2 (.cond (.t 16) (.seq A_impl_IsShabat.r3 .ret) .skip))) (.seq A_impl_IsShabat.r4 (.seq A_impl_IsShabat.r5 .ret))))⟩
/-! spec_IsShabat -/
def A_spec_IsShabat.r0 : ACode := (.region none [⟨some 6, .move (.c (.bool false)), none⟩,
⟨some 7, .move (.c (.int .i64 0)), none⟩])
def A_spec_IsShabat.r1 : ACode := (.region none [⟨some 9, .move (.t 0), none⟩,
⟨some 10, .move (.t 1), none⟩,
⟨some 11, .move (.t 2), none⟩,
⟨some 12, .call 92 [.t 9, .t 10, .t 11], none⟩,
⟨some 8, .move (.t 12), none⟩])
def A_spec_IsShabat.r2 : ACode := (.region none [⟨some 13, .move (.t 8), none⟩,
⟨some 14, .bin .neq (.t 13) (.c (.int .i64 0)), none⟩])
def A_spec_IsShabat.r3 : ACode := (.region none [⟨some 15, .move (.t 8), none⟩,
⟨some 6, .move (.c (.bool false)), none⟩,
⟨some 7, .move (.t 15), none⟩])
def A_spec_IsShabat.r4 : ACode := (.region none [⟨some 16, .move (.t 0), none⟩,
⟨some 17, .move (.t 1), none⟩,
⟨some 18, .move (.t 2), none⟩,
⟨some 19, .call 93 [.t 16, .t 17, .t 18], none⟩,
⟨some 6, .move (.t 19), none⟩,
⟨some 7, .move (.c (.int .i64 0)), none⟩])
def A_spec_IsShabat : AFunc := ⟨[.tmp 6, .tmp 7], (.seq A_spec_IsShabat.r0 (.seq (.seq A_spec_IsShabat.r1 (.seq A_spec_IsShabat.r2 (.cond (.t 14) (.seq A_spec_IsShabat.r3 .ret) .skip))) (.seq A_spec_IsShabat.r4 .ret)))⟩
/-! impl_PassportOfShabat -/
def A_impl_PassportOfShabat.r0 : ACode := (.region none [⟨some 6, .move (.c (.slice none 0 0)), none⟩,
⟨some 7, .move (.c (.int .i64 0)), none⟩])
def A_impl_PassportOfShabat.r1 : ACode := (.region none [⟨some 11, .move (.t 0), none⟩,
⟨some 12, .move (.t 1), none⟩,
⟨some 13, .move (.t 2), none⟩,
⟨some 14, .call 94 [.t 11, .t 12, .t 13], none⟩,
⟨some 8, .move (.t 14), none⟩])
def A_impl_PassportOfShabat.r2 : ACode := (.region none [⟨some 15, .move (.t 8), none⟩,
⟨some 16, .bin .neq (.t 15) (.c (.int .i64 0)), none⟩])
def A_impl_PassportOfShabat.r3 : ACode := (.region none [⟨some 17, .move (.t 8), none⟩,
⟨some 6, .move (.c (.slice none 0 0)), none⟩,
⟨some 7, .move (.t 17), none⟩])
def A_impl_PassportOfShabat.r4 : ACode := (.region none [⟨some 19, .move (.t 0), none⟩,
⟨some 20, .move (.t 1), none⟩,
⟨some 21, .move (.t 2), none⟩,
⟨some 22, .call 95 [.t 19, .t 20, .t 21], none⟩,
⟨some 18, .move (.t 22), none⟩,
⟨some 23, .extract (.t 18) 0, none⟩,
⟨some 24, .extract (.t 18) 1, none⟩,
⟨some 9, .move (.t 23), none⟩,
⟨some 10, .move (.t 24), none⟩])
def A_impl_PassportOfShabat.r5 : ACode := (.region none [⟨some 25, .move (.t 10), none⟩,
⟨some 26, .not (.t 25), none⟩])
def A_impl_PassportOfShabat.r6 : ACode := (.region none [⟨some 6, .move (.c (.slice none 0 0)), none⟩,
⟨some 7, .move (.c (.int .i64 5)), none⟩])
def A_impl_PassportOfShabat.r7 : ACode := (.region none [⟨some 27, .move (.t 9), none⟩,
⟨some 6, .move (.t 27), none⟩,
⟨some 7, .move (.c (.int .i64 0)), none⟩])
def A_impl_PassportOfShabat : AFunc := ⟨[.tmp 6, .tmp 7], (.seq A_impl_PassportOfShabat.r0 (.seq (.seq A_impl_PassportOfShabat.r1 (.seq A_impl_PassportOfShabat.r2 (.cond (.t 16) (.seq A_impl_PassportOfShabat.r3 .ret) .skip))) (.seq A_impl_PassportOfShabat.r4 (.seq (.seq A_impl_PassportOfShabat.r5 (.cond (.t 26) (.seq A_impl_PassportOfShabat.r6 .ret) .skip)) (.seq A_impl_PassportOfShabat.r7 .ret)))))⟩
/-! spec_PassportOfShabat -/
def A_spec_PassportOfShabat.r0 : ACode := (.region none [⟨some 6, .move (.c (.slice none 0 0)), none⟩,
⟨some 7, .move (.c (.int .i64 0)), none⟩])
def A_spec_PassportOfShabat.r1 : ACode := (.region none [⟨some 9, .move (.t 0), none⟩,
⟨some 10, .move (.t 1), none⟩,
⟨some 11, .move (.t 2), none⟩,
⟨some 12, .call 92 [.t 9, .t 10, .t 11], none⟩,
⟨some 8, .move (.t 12), none⟩])
def A_spec_PassportOfShabat.r2 : ACode := (.region none [⟨some 13, .move (.t 8), none⟩,
⟨some 14, .bin .eql (.t 13) (.c (.int .i64 0)), none⟩,
⟨some 15, .move (.t 14), none⟩,
⟨some 16, .move (.t 0), some (15, true)⟩,
⟨some 17, .move (.t 1), some (15, true)⟩,
⟨some 18, .move (.t 2), some (15, true)⟩,
⟨some 19, .call 93 [.t 16, .t 17, .t 18], some (15, true)⟩,
⟨some 20, .not (.t 19), some (15, true)⟩,
⟨some 21, .pick (.t 15) (.t 20) (.c (.bool false)), none⟩])
def A_spec_PassportOfShabat.r3 : ACode := (.region none [⟨some 8, .move (.c (.int .i64 5)), none⟩])
def A_spec_PassportOfShabat.r4 : ACode := (.region none [⟨some 22, .move (.t 8), none⟩,
⟨some 23, .bin .neq (.t 22) (.c (.int .i64 0)), none⟩])
def A_spec_PassportOfShabat.r5 : ACode := (.region none [⟨some 24, .move (.t 8), none⟩,
⟨some 6, .move (.c (.slice none 0 0)), none⟩,
⟨some 7, .move (.t 24), none⟩])
def A_spec_PassportOfShabat.r6 : ACode := (.region none [⟨some 25, .move (.t 0), none⟩,
⟨some 26, .move (.t 1), none⟩,
⟨some 27, .call 89 [.t 25, .t 26], none⟩,
⟨some 28, .move (.t 0), none⟩,
⟨some 29, .move (.t 2), none⟩,
⟨some 30, .call 89 [.t 28, .t 29], none⟩,
⟨some 31, .move (.t 0), none⟩,
⟨some 32, .len (.t 31), none⟩,
⟨some 33, .bin .sub (.t 32) (.c (.int .i64 1)), none⟩,
⟨some 34, .buildSlice 1 1 [.int .i64 0] [(0, 1, .t 33)], none⟩,
⟨some 35, .buildSlice 1 3 [.slice none 0 0] [(0, 1, .t 27), (1, 1, .t 30), (2, 1, .t 34)], none⟩,
⟨some 6, .move (.t 35), none⟩,
⟨some 7, .move (.c (.int .i64 0)), none⟩])
def A_spec_PassportOfShabat : AFunc := ⟨[.tmp 6, .tmp 7], (.seq A_spec_PassportOfShabat.r0 (.seq A_spec_PassportOfShabat.r1 (.seq (.seq A_spec_PassportOfShabat.r2 (.cond (.t 21) A_spec_PassportOfShabat.r3 .skip)) (.seq (.seq A_spec_PassportOfShabat.r4 (.cond (.t 23) (.seq A_spec_PassportOfShabat.r5 .ret) .skip)) (.seq A_spec_PassportOfShabat.r6 .ret)))))⟩
/-! laws_lists9 -/
def A_laws_lists9.r0 : ACode := (.region none [⟨some 4, .move (.c (.bool false)), none⟩])
def A_laws_lists9.r1 : ACode := (.region none [⟨some 6, .move (.t 0), none⟩,
⟨some 7, .len (.t 6), none⟩,
⟨some 8, .move (.t 1), none⟩,
⟨some 9, .len (.t 8), none⟩,
⟨some 10, .bin .neq (.t 7) (.t 9), none⟩])
def A_laws_lists9.r2 : ACode := (.region none [⟨some 4, .move (.c (.bool false)), none⟩])
def A_laws_lists9.r3 : ACode := (.region none [⟨some 5, .move (.c (.int .i64 0)), none⟩])
def A_laws_lists9.r4 : ACode := (.region none [⟨some 11, .move (.t 5), none⟩,
⟨some 12, .move (.t 0), none⟩,
⟨some 13, .len (.t 12), none⟩,
⟨some 14, .bin .lss (.t 11) (.t 13), none⟩])
def A_laws_lists9.r6 : ACode := (.region (some 10) [⟨some 17, .move (.t 0), none⟩,
⟨some 18, .move (.t 5), none⟩,
⟨some 19, .indexAddr none 1 (.t 17) (.t 18), none⟩,
⟨some 20, .load none (.t 19), none⟩,
⟨some 21, .move (.t 1), none⟩,
⟨some 22, .move (.t 5), none⟩,
⟨some 23, .indexAddr none 1 (.t 21) (.t 22), none⟩,
⟨some 24, .load none (.t 23), none⟩,
⟨some 25, .call 43 [.t 20, .t 24], none⟩,
⟨some 26, .not (.t 25), none⟩])
def A_laws_lists9.r7 : ACode := (.region none [⟨some 4, .move (.c (.bool false)), none⟩])
def A_laws_lists9.r5 : ACode := (.region none [⟨some 15, .move (.t 5), none⟩,
⟨some 16, .bin .add (.t 15) (.c (.int .i64 1)), none⟩,
⟨some 5, .move (.t 16), none⟩])
def A_laws_lists9.l0 : ACode := (.seq (.seq A_laws_lists9.r4 (.cond (.t 14) .skip (.exit 0))) (.seq (.block 1 (.seq A_laws_lists9.r6 (.cond (.t 26) (.seq A_laws_lists9.r7 .ret) .skip))) A_laws_lists9.r5))
def A_laws_lists9.r8 : ACode := (.region none [⟨some 4, .move (.c (.bool true)), none⟩])
def A_laws_lists9 : AFunc := ⟨[.tmp 4], (.seq A_laws_lists9.r0 (.seq (.seq A_laws_lists9.r1 (.cond (.t 10) (.seq A_laws_lists9.r2 .ret) .skip)) (.seq (.seq A_laws_lists9.r3 (.block 0 (.loop A_laws_lists9.l0))) (.seq A_laws_lists9.r8 .ret))))⟩
/-! spec_DrawStarPolynomial -/
def A_spec_DrawStarPolynomial.r0 : ACode := (.region none [⟨some 2, .move (.c (.int .i64 0)), none⟩])
def A_spec_DrawStarPolynomial.r1 : ACode := (.region none [⟨some 3, .move (.t 0), none⟩,
⟨some 4, .call 97 [.t 3], none⟩,
⟨some 5, .call 102 [.t 4, (.c (.int .i64 18))], none⟩,
⟨some 2, .move (.t 5), none⟩])
def A_spec_DrawStarPolynomial : AFunc := ⟨[.tmp 2], (.seq A_spec_DrawStarPolynomial.r0 (.seq A_spec_DrawStarPolynomial.r1 .ret))⟩
/-! impl_StarPolynomial -/
def A_impl_StarPolynomial.r0 : ACode := (.region none [⟨some 2, .move (.c (.slice none 0 0)), none⟩,
⟨some 3, .move (.c (.int .i64 0)), none⟩])
def A_impl_StarPolynomial.r1 : ACode := (.region none [⟨some 5, .move (.t 0), none⟩,
⟨some 6, .call 60 [.t 5], none⟩,
⟨some 7, .not (.t 6), none⟩])
def A_impl_StarPolynomial.r2 : ACode := (.region none [⟨some 2, .move (.c (.slice none 0 0)), none⟩,
⟨some 3, .move (.c (.int .i64 2)), none⟩])
def A_impl_StarPolynomial.r3 : ACode := (.region none [⟨some 8, .move (.t 0), none⟩,
⟨some 9, .bin .add (.t 8) (.c (.int .i64 1)), none⟩,
⟨some 10, .makeSlice 1 8 [.int .i64 0] (.t 9) (.t 9), none⟩,
⟨some 4, .move (.t 10), none⟩])
def A_impl_StarPolynomial.r4 : ACode := (.region none [⟨some 11, .move (.t 4), none⟩,
⟨some 12, .move (.t 0), none⟩,
⟨some 13, .indexAddr none 1 (.t 11) (.t 12), none⟩,
⟨none, .store 1 (.t 13) (.c (.int .i64 1)), none⟩])
def A_impl_StarPolynomial.r5 : ACode := (.region none [⟨some 14, .move (.t 4), none⟩,
⟨some 2, .move (.t 14), none⟩,
⟨some 3, .move (.c (.int .i64 0)), none⟩])
def A_impl_StarPolynomial : AFunc := ⟨[.tmp 2, .tmp 3], (.seq A_impl_StarPolynomial.r0 (.seq (.seq A_impl_StarPolynomial.r1 (.cond (.t 7) (.seq A_impl_StarPolynomial.r2 .ret) .skip)) (.seq A_impl_StarPolynomial.r3 (.seq A_impl_StarPolynomial.r4 (.seq A_impl_StarPolynomial.r5 .ret)))))⟩
/-! spec_StarPolynomial -/
def A_spec_StarPolynomial.r0 : ACode := (.region none [⟨some 2, .move (.c (.slice none 0 0)), none⟩,
⟨some 3, .move (.c (.int .i64 0)), none⟩])
def A_spec_StarPolynomial.r1 : ACode := (.region none [⟨some 4, .move (.t 0), none⟩,
⟨some 5, .call 58 [.t 4, (.c (.int .i64 1)), (.c (.int .i64 16))], none⟩,
⟨some 6, .not (.t 5), none⟩])
def A_spec_StarPolynomial.r2 : ACode := (.region none [⟨some 2, .move (.c (.slice none 0 0)), none⟩,
⟨some 3, .move (.c (.int .i64 2)), none⟩])
def A_spec_StarPolynomial.r3 : ACode := (.region none [⟨some 7, .move (.t 0), none⟩,
⟨some 8, .call 59 [(.c (.int .i64 1)), .t 7], none⟩,
⟨some 2, .move (.t 8), none⟩,
⟨some 3, .move (.c (.int .i64 0)), none⟩])
def A_spec_StarPolynomial : AFunc := ⟨[.tmp 2, .tmp 3], (.seq A_spec_StarPolynomial.r0 (.seq (.seq A_spec_StarPolynomial.r1 (.cond (.t 6) (.seq A_spec_StarPolynomial.r2 .ret) .skip)) (.seq A_spec_StarPolynomial.r3 .ret)))⟩
/-! spec_DrawChainPolynomial -/
def A_spec_DrawChainPolynomial.r0 : ACode := (.region none [⟨some 2, .move (.c (.int .i64 0)), none⟩])
def A_spec_DrawChainPolynomial.r1 : ACode := (.region none [⟨some 3, .move (.t 0), none⟩,
⟨some 4, .call 97 [.t 3], none⟩,
⟨some 5, .call 102 [.t 4, (.c (.int .i64 18))], none⟩,
⟨some 2, .move (.t 5), none⟩])
def A_spec_DrawChainPolynomial : AFunc := ⟨[.tmp 2], (.seq A_spec_DrawChainPolynomial.r0 (.seq A_spec_DrawChainPolynomial.r1 .ret))⟩
/-! impl_ChainPolynomial -/
def A_impl_ChainPolynomial.r0 : ACode := (.region none [⟨some 2, .move (.c (.slice none 0 0)), none⟩,
⟨some 3, .move (.c (.int .i64 0)), none⟩])
def A_impl_ChainPolynomial.r1 : ACode := (.region none [⟨some 7, .move (.t 0), none⟩,
⟨some 8, .call 60 [.t 7], none⟩,
⟨some 9, .not (.t 8), none⟩])
def A_impl_ChainPolynomial.r2 : ACode := (.region none [⟨some 2, .move (.c (.slice none 0 0)), none⟩,
⟨some 3, .move (.c (.int .i64 2)), none⟩])
def A_impl_ChainPolynomial.r3 : ACode := (.region none [⟨some 10, .buildSlice 1 1 [.int .i64 0] [(0, 1, (.c (.int .i64 1)))], none⟩,
⟨some 11, .buildSlice 1 2 [.int .i64 0] [(0, 1, (.c (.int .i64 0))), (1, 1, (.c (.int .i64 1)))], none⟩,
⟨some 4, .move (.t 10), none⟩,
⟨some 5, .move (.t 11), none⟩])
def A_impl_ChainPolynomial.r4 : ACode := (.region none [⟨some 12, .move (.t 0), none⟩,
⟨some 13, .bin .sub (.t 12) (.c (.int .i64 1)), none⟩,
⟨some 14, .move (.c (.int .i64 0)), none⟩])
def A_impl_ChainPolynomial.r5 : ACode := (.region none [⟨some 15, .bin .lss (.t 14) (.t 13), none⟩])
def A_impl_ChainPolynomial.r6 : ACode := (.region none [⟨some 16, .buildSlice 1 2 [.int .i64 0] [(0, 1, (.c (.int .i64 0))), (1, 1, (.c (.int .i64 2)))], none⟩,
⟨some 17, .move (.t 5), none⟩,
⟨some 18, .call 75 [.t 16, .t 17], none⟩,
⟨some 19, .move (.t 4), none⟩,
⟨some 20, .buildSlice 1 1 [.int .i64 0] [(0, 1, (.c (.int .i64 10006)))], none⟩,
⟨some 21, .call 75 [.t 19, .t 20], none⟩,
⟨some 22, .call 73 [.t 18, .t 21], none⟩,
⟨some 6, .move (.t 22), none⟩])
def A_impl_ChainPolynomial.r7 : ACode := (.region none [⟨some 23, .move (.t 5), none⟩,
⟨some 24, .move (.t 6), none⟩,
⟨some 4, .move (.t 23), none⟩,
⟨some 5, .move (.t 24), none⟩])
def A_impl_ChainPolynomial.r8 : ACode := (.region none [⟨some 25, .bin .add (.t 14) (.c (.int .i64 1)), none⟩,
⟨some 14, .move (.t 25), none⟩])
def A_impl_ChainPolynomial.l0 : ACode := (.seq A_impl_ChainPolynomial.r5 (.seq (.cond (.t 15) .skip (.exit 0)) (.seq (.block 1 (.seq A_impl_ChainPolynomial.r6 A_impl_ChainPolynomial.r7)) A_impl_ChainPolynomial.r8)))
def A_impl_ChainPolynomial.r9 : ACode := (.region none [⟨some 26, .move (.t 5), none⟩,
⟨some 2, .move (.t 26), none⟩,
⟨some 3, .move (.c (.int .i64 0)), none⟩])
def A_impl_ChainPolynomial : AFunc := ⟨[.tmp 2, .tmp 3], (.seq A_impl_ChainPolynomial.r0 (.seq (.seq A_impl_ChainPolynomial.r1 (.cond (.t 9) (.seq A_impl_ChainPolynomial.r2 .ret) .skip)) (.seq A_impl_ChainPolynomial.r3 (.seq (.seq A_impl_ChainPolynomial.r4 (.block 0 (.loop A_impl_ChainPolynomial.l0))) (.seq A_impl_ChainPolynomial.r9 .ret)))))⟩
/-! spec_ChainPolynomial -/
def A_spec_ChainPolynomial.r0 : ACode := (.region none [⟨some 2, .move (.c (.slice none 0 0)), none⟩,
⟨some 3, .move (.c (.int .i64 0)), none⟩])
def A_spec_ChainPolynomial.r1 : ACode := (.region none [⟨some 4, .move (.t 0), none⟩,
⟨some 5, .call 58 [.t 4, (.c (.int .i64 1)), (.c (.int .i64 16))], none⟩,
⟨some 6, .not (.t 5), none⟩])
def A_spec_ChainPolynomial.r2 : ACode := (.region none [⟨some 2, .move (.c (.slice none 0 0)), none⟩,
⟨some 3, .move (.c (.int .i64 2)), none⟩])
def A_spec_ChainPolynomial.r3 : ACode := (.region none [⟨some 7, .move (.t 0), none⟩,
⟨some 8, .call 76 [.t 7], none⟩,
⟨some 2, .move (.t 8), none⟩,
⟨some 3, .move (.c (.int .i64 0)), none⟩])
def A_spec_ChainPolynomial : AFunc := ⟨[.tmp 2, .tmp 3], (.seq A_spec_ChainPolynomial.r0 (.seq (.seq A_spec_ChainPolynomial.r1 (.cond (.t 6) (.seq A_spec_ChainPolynomial.r2 .ret) .skip)) (.seq A_spec_ChainPolynomial.r3 .ret)))⟩
/-! spec_DrawForkPolynomial -/
def A_spec_DrawForkPolynomial.r0 : ACode := (.region none [⟨some 2, .move (.c (.int .i64 0)), none⟩,
⟨some 3, .move (.c (.int .i64 0)), none⟩])
def A_spec_DrawForkPolynomial.r1 : ACode := (.region none [⟨some 5, .move (.t 0), none⟩,
⟨some 6, .call 97 [.t 5], none⟩,
⟨some 4, .move (.t 6), none⟩])
def A_spec_DrawForkPolynomial.r2 : ACode := (.region none [⟨some 7, .move (.t 4), none⟩,
⟨some 8, .call 102 [.t 7, (.c (.int .i64 9))], none⟩,
⟨some 9, .move (.t 4), none⟩,
⟨some 10, .call 102 [.t 9, (.c (.int .i64 10))], none⟩,
⟨some 2, .move (.t 8), none⟩,
⟨some 3, .move (.t 10), none⟩])
def A_spec_DrawForkPolynomial : AFunc := ⟨[.tmp 2, .tmp 3], (.seq A_spec_DrawForkPolynomial.r0 (.seq A_spec_DrawForkPolynomial.r1 (.seq A_spec_DrawForkPolynomial.r2 .ret)))⟩
/-! impl_ForkPolynomial -/
def A_impl_ForkPolynomial.r0 : ACode := (.region none [⟨some 4, .move (.c (.slice none 0 0)), none⟩,
⟨some 5, .move (.c (.int .i64 0)), none⟩])
def A_impl_ForkPolynomial.r1 : ACode := (.region none [⟨some 8, .move (.t 0), none⟩,
⟨some 9, .bin .lss (.t 8) (.c (.int .i64 1)), none⟩,
⟨some 10, .move (.t 9), none⟩,
⟨some 11, .move (.t 1), some (10, false)⟩,
⟨some 12, .bin .lss (.t 11) (.c (.int .i64 1)), some (10, false)⟩,
⟨some 13, .pick (.t 10) (.c (.bool true)) (.t 12), none⟩,
⟨some 14, .move (.t 13), none⟩,
⟨some 15, .move (.t 0), some (14, false)⟩,
⟨some 16, .bin .gtr (.t 15) (.c (.int .i64 16)), some (14, false)⟩,
⟨some 17, .pick (.t 14) (.c (.bool true)) (.t 16), none⟩,
⟨some 18, .move (.t 17), none⟩,
⟨some 19, .move (.t 1), some (18, false)⟩,
⟨some 20, .bin .gtr (.t 19) (.c (.int .i64 16)), some (18, false)⟩,
⟨some 21, .pick (.t 18) (.c (.bool true)) (.t 20), none⟩,
⟨some 22, .move (.t 21), none⟩,
⟨some 23, .move (.t 0), some (22, false)⟩,
⟨some 24, .move (.t 1), some (22, false)⟩,
⟨some 25, .bin .add (.t 23) (.t 24), some (22, false)⟩,
⟨some 26, .bin .gtr (.t 25) (.c (.int .i64 16)), some (22, false)⟩,
⟨some 27, .pick (.t 22) (.c (.bool true)) (.t 26), none⟩])
def A_impl_ForkPolynomial.r2 : ACode := (.region none [⟨some 4, .move (.c (.slice none 0 0)), none⟩,
⟨some 5, .move (.c (.int .i64 2)), none⟩])
def A_impl_ForkPolynomial.r3 : ACode := (.region none [⟨some 28, .buildSlice 1 1 [.int .i64 0] [(0, 1, (.c (.int .i64 1)))], none⟩,
⟨some 6, .move (.t 28), none⟩])
def A_impl_ForkPolynomial.r4 : ACode := (.region none [⟨some 29, .move (.t 0), none⟩,
⟨some 30, .move (.c (.int .i64 0)), none⟩])
def A_impl_ForkPolynomial.r5 : ACode := (.region none [⟨some 31, .bin .lss (.t 30) (.t 29), none⟩])
def A_impl_ForkPolynomial.r6 : ACode := (.region none [⟨some 32, .move (.t 6), none⟩,
⟨some 33, .buildSlice 1 2 [.int .i64 0] [(0, 1, (.c (.int .i64 0))), (1, 1, (.c (.int .i64 1)))], none⟩,
⟨some 34, .call 75 [.t 32, .t 33], none⟩,
⟨some 6, .move (.t 34), none⟩])
def A_impl_ForkPolynomial.r7 : ACode := (.region none [⟨some 35, .bin .add (.t 30) (.c (.int .i64 1)), none⟩,
⟨some 30, .move (.t 35), none⟩])
def A_impl_ForkPolynomial.l0 : ACode := (.seq A_impl_ForkPolynomial.r5 (.seq (.cond (.t 31) .skip (.exit 0)) (.seq (.block 1 A_impl_ForkPolynomial.r6) A_impl_ForkPolynomial.r7)))
def A_impl_ForkPolynomial.r8 : ACode := (.region none [⟨some 36, .move (.t 1), none⟩,
⟨some 37, .move (.c (.int .i64 0)), none⟩])
def A_impl_ForkPolynomial.r9 : ACode := (.region none [⟨some 38, .bin .lss (.t 37) (.t 36), none⟩])
def A_impl_ForkPolynomial.r10 : ACode := (.region none [⟨some 39, .move (.t 6), none⟩,
⟨some 40, .buildSlice 1 2 [.int .i64 0] [(0, 1, (.c (.int .i64 1))), (1, 1, (.c (.int .i64 10006)))], none⟩,
⟨some 41, .call 75 [.t 39, .t 40], none⟩,
⟨some 6, .move (.t 41), none⟩])
def A_impl_ForkPolynomial.r11 : ACode := (.region none [⟨some 42, .bin .add (.t 37) (.c (.int .i64 1)), none⟩,
⟨some 37, .move (.t 42), none⟩])
def A_impl_ForkPolynomial.l1 : ACode := (.seq A_impl_ForkPolynomial.r9 (.seq (.cond (.t 38) .skip (.exit 2)) (.seq (.block 3 A_impl_ForkPolynomial.r10) A_impl_ForkPolynomial.r11)))
def A_impl_ForkPolynomial.r12 : ACode := (.region none [⟨some 43, .move (.t 0), none⟩,
⟨some 44, .move (.t 1), none⟩,
⟨some 45, .bin .add (.t 43) (.t 44), none⟩,
⟨some 46, .move (.t 0), none⟩,
⟨some 47, .move (.t 1), none⟩,
⟨some 48, .bin .add (.t 46) (.t 47), none⟩,
⟨some 49, .call 83 [.t 45, .t 48], none⟩,
⟨some 50, .move (.t 0), none⟩,
⟨some 51, .move (.t 0), none⟩,
⟨some 52, .call 83 [.t 50, .t 51], none⟩,
⟨some 53, .move (.t 1), none⟩,
⟨some 54, .move (.t 1), none⟩,
⟨some 55, .call 83 [.t 53, .t 54], none⟩,
⟨some 56, .bin .mul (.t 52) (.t 55), none⟩,
⟨some 57, .bin .rem (.t 56) (.c (.int .i64 10007)), none⟩,
⟨some 58, .call 84 [.t 57], none⟩,
⟨some 59, .bin .mul (.t 49) (.t 58), none⟩,
⟨some 60, .bin .rem (.t 59) (.c (.int .i64 10007)), none⟩,
⟨some 7, .move (.t 60), none⟩])
def A_impl_ForkPolynomial.r13 : ACode := (.region none [⟨some 61, .move (.t 6), none⟩,
⟨some 62, .move (.t 7), none⟩,
⟨some 63, .buildSlice 1 1 [.int .i64 0] [(0, 1, .t 62)], none⟩,
⟨some 64, .call 75 [.t 61, .t 63], none⟩,
⟨some 4, .move (.t 64), none⟩,
⟨some 5, .move (.c (.int .i64 0)), none⟩])
def A_impl_ForkPolynomial : AFunc := ⟨[.tmp 4, .tmp 5], (.seq A_impl_ForkPolynomial.r0 (.seq (.seq A_impl_ForkPolynomial.r1 (.cond (.t 27) (.seq A_impl_ForkPolynomial.r2 .ret) .skip)) (.seq A_impl_ForkPolynomial.r3 (.seq (.seq A_impl_ForkPolynomial.r4 (.block 0 (.loop A_impl_ForkPolynomial.l0))) (.seq (.seq A_impl_ForkPolynomial.r8 (.block 2 (.loop A_impl_ForkPolynomial.l1))) (.seq A_impl_ForkPolynomial.r12 (.seq A_impl_ForkPolynomial.r13 .ret)))))))⟩
/-! spec_ForkPolynomial -/
def A_spec_ForkPolynomial.r0 : ACode := (.region none [⟨some 4, .move (.c (.slice none 0 0)), none⟩,
⟨some 5, .move (.c (.int .i64 0)), none⟩])
def A_spec_ForkPolynomial.r1 : ACode := (.region none [⟨some 6, .move (.t 0), none⟩,
⟨some 7, .call 58 [.t 6, (.c (.int .i64 1)), (.c (.int .i64 16))], none⟩,
⟨some 8, .not (.t 7), none⟩,
⟨some 9, .move (.t 8), none⟩,
⟨some 10, .move (.t 1), some (9, false)⟩,
⟨some 11, .call 58 [.t 10, (.c (.int .i64 1)), (.c (.int .i64 16))], some (9, false)⟩,
⟨some 12, .not (.t 11), some (9, false)⟩,
⟨some 13, .pick (.t 9) (.c (.bool true)) (.t 12), none⟩,
⟨some 14, .move (.t 13), none⟩,
⟨some 15, .move (.t 0), some (14, false)⟩,
⟨some 16, .move (.t 1), some (14, false)⟩,
⟨some 17, .bin .add (.t 15) (.t 16), some (14, false)⟩,
⟨some 18, .bin .gtr (.t 17) (.c (.int .i64 16)), some (14, false)⟩,
⟨some 19, .pick (.t 14) (.c (.bool true)) (.t 18), none⟩])
def A_spec_ForkPolynomial.r2 : ACode := (.region none [⟨some 4, .move (.c (.slice none 0 0)), none⟩,
⟨some 5, .move (.c (.int .i64 2)), none⟩])
def A_spec_ForkPolynomial.r3 : ACode := (.region none [⟨some 20, .move (.t 0), none⟩,
⟨some 21, .move (.t 1), none⟩,
⟨some 22, .call 82 [.t 20, .t 21], none⟩,
⟨some 4, .move (.t 22), none⟩,
⟨some 5, .move (.c (.int .i64 0)), none⟩])
def A_spec_ForkPolynomial : AFunc := ⟨[.tmp 4, .tmp 5], (.seq A_spec_ForkPolynomial.r0 (.seq (.seq A_spec_ForkPolynomial.r1 (.cond (.t 19) (.seq A_spec_ForkPolynomial.r2 .ret) .skip)) (.seq A_spec_ForkPolynomial.r3 .ret)))⟩
/-! laws_sum -/
def A_laws_sum.r0 : ACode := (.region none [⟨some 2, .move (.c (.int .i64 0)), none⟩])
def A_laws_sum.r1 : ACode := (.region none [⟨some 3, .move (.c (.int .i64 0)), none⟩])
def A_laws_sum.r2 : ACode := (.region none [⟨some 4, .move (.c (.int .i64 0)), none⟩])
def A_laws_sum.r3 : ACode := (.region none [⟨some 5, .move (.t 4), none⟩,
⟨some 6, .move (.t 0), none⟩,
⟨some 7, .len (.t 6), none⟩,
⟨some 8, .bin .lss (.t 5) (.t 7), none⟩])
def A_laws_sum.r5 : ACode := (.region none [⟨some 11, .move (.t 3), none⟩,
⟨some 12, .move (.t 0), none⟩,
⟨some 13, .move (.t 4), none⟩,
⟨some 14, .indexAddr none 1 (.t 12) (.t 13), none⟩,
⟨some 15, .load none (.t 14), none⟩,
⟨some 16, .bin .add (.t 11) (.t 15), none⟩,
⟨some 3, .move (.t 16), none⟩])
def A_laws_sum.r4 : ACode := (.region none [⟨some 9, .move (.t 4), none⟩,
⟨some 10, .bin .add (.t 9) (.c (.int .i64 1)), none⟩,
⟨some 4, .move (.t 10), none⟩])
def A_laws_sum.l0 : ACode := (.seq (.seq A_laws_sum.r3 (.cond (.t 8) .skip (.exit 0))) (.seq (.block 1 A_laws_sum.r5) A_laws_sum.r4))
def A_laws_sum.r6 : ACode := (.region none [⟨some 17, .move (.t 3), none⟩,
⟨some 2, .move (.t 17), none⟩])
def A_laws_sum : AFunc := ⟨[.tmp 2], (.seq A_laws_sum.r0 (.seq A_laws_sum.r1 (.seq (.seq A_laws_sum.r2 (.block 0 (.loop A_laws_sum.l0))) (.seq A_laws_sum.r6 .ret))))⟩
/-! impl_EulerOfPassport -/
def A_impl_EulerOfPassport.r0 : ACode := (.region none [⟨some 2, .move (.c (.int .i64 0)), none⟩,
⟨some 3, .move (.c (.int .i64 0)), none⟩])
def A_impl_EulerOfPassport.r1 : ACode := (.region none [⟨some 5, .move (.t 0), none⟩,
⟨some 6, .call 80 [.t 5], none⟩,
⟨some 4, .move (.t 6), none⟩])
def A_impl_EulerOfPassport.r2 : ACode := (.region none [⟨some 7, .move (.t 4), none⟩,
⟨some 8, .bin .eql (.t 7) (.c (.int .i64 0)), none⟩])
def A_impl_EulerOfPassport.r3 : ACode := (.region none [⟨some 2, .move (.c (.int .i64 0)), none⟩,
⟨some 3, .move (.c (.int .i64 1)), none⟩])
def A_impl_EulerOfPassport.r4 : ACode := (.region none [⟨some 9, .move (.t 0), none⟩,
⟨some 10, .move (.t 4), none⟩,
⟨some 11, .call 81 [.t 9, .t 10], none⟩,
⟨some 2, .move (.t 11), none⟩,
⟨some 3, .move (.c (.int .i64 0)), none⟩])
def A_impl_EulerOfPassport : AFunc := ⟨[.tmp 2, .tmp 3], (.seq A_impl_EulerOfPassport.r0 (.seq A_impl_EulerOfPassport.r1 (.seq (.seq A_impl_EulerOfPassport.r2 (.cond (.t 8) (.seq A_impl_EulerOfPassport.r3 .ret) .skip)) (.seq A_impl_EulerOfPassport.r4 .ret))))⟩
/-! impl_CountRooted -/
def A_impl_CountRooted.r0 : ACode := (.region none [⟨some 4, .move (.c (.int .i64 0)), none⟩,
⟨some 5, .move (.c (.int .i64 0)), none⟩])
def A_impl_CountRooted.r1 : ACode := (.region none [⟨some 9, .move (.t 0), none⟩,
⟨some 10, .move (.t 1), none⟩,
⟨some 11, .call 67 [.t 9, .t 10, (.c (.int .i64 16))], none⟩,
⟨some 12, .not (.t 11), none⟩])
def A_impl_CountRooted.r2 : ACode := (.region none [⟨some 4, .move (.c (.int .i64 0)), none⟩,
⟨some 5, .move (.c (.int .i64 2)), none⟩])
def A_impl_CountRooted.r3 : ACode := (.region none [⟨some 13, .move (.t 0), none⟩,
⟨some 14, .call 68 [.t 13], none⟩,
⟨some 15, .move (.t 0), none⟩,
⟨some 16, .len (.t 15), none⟩,
⟨some 17, .move (.t 1), none⟩,
⟨some 18, .len (.t 17), none⟩,
⟨some 6, .move (.t 14), none⟩,
⟨some 7, .move (.t 16), none⟩,
⟨some 8, .move (.t 18), none⟩])
def A_impl_CountRooted.r4 : ACode := (.region none [⟨some 19, .move (.t 7), none⟩,
⟨some 20, .move (.t 8), none⟩,
⟨some 21, .bin .add (.t 19) (.t 20), none⟩,
⟨some 22, .move (.t 6), none⟩,
⟨some 23, .bin .add (.t 22) (.c (.int .i64 1)), none⟩,
⟨some 24, .bin .neq (.t 21) (.t 23), none⟩])
def A_impl_CountRooted.r5 : ACode := (.region none [⟨some 4, .move (.c (.int .i64 0)), none⟩,
⟨some 5, .move (.c (.int .i64 0)), none⟩])
def A_impl_CountRooted.r6 : ACode := (.region none [⟨some 25, .move (.t 6), none⟩,
⟨some 26, .move (.t 7), none⟩,
⟨some 27, .bin .sub (.t 26) (.c (.int .i64 1)), none⟩,
⟨some 28, .call 69 [.t 27], none⟩,
⟨some 29, .bin .mul (.t 25) (.t 28), none⟩,
⟨some 30, .move (.t 8), none⟩,
⟨some 31, .bin .sub (.t 30) (.c (.int .i64 1)), none⟩,
⟨some 32, .call 69 [.t 31], none⟩,
⟨some 33, .bin .mul (.t 29) (.t 32), none⟩,
⟨some 34, .move (.t 0), none⟩,
⟨some 35, .call 70 [.t 34], none⟩,
⟨some 36, .move (.t 1), none⟩,
⟨some 37, .call 70 [.t 36], none⟩,
⟨some 38, .bin .mul (.t 35) (.t 37), none⟩,
⟨some 39, .bin .quo (.t 33) (.t 38), none⟩,
⟨some 4, .move (.t 39), none⟩,
⟨some 5, .move (.c (.int .i64 0)), none⟩])
def A_impl_CountRooted : AFunc := ⟨[.tmp 4, .tmp 5], (.seq A_impl_CountRooted.r0 (.seq (.seq A_impl_CountRooted.r1 (.cond (.t 12) (.seq A_impl_CountRooted.r2 .ret) .skip)) (.seq A_impl_CountRooted.r3 (.seq (.seq A_impl_CountRooted.r4 (.cond (.t 24) (.seq A_impl_CountRooted.r5 .ret) .skip)) (.seq A_impl_CountRooted.r6 .ret)))))⟩
/-! spec_l01From -/
def A_spec_l01From.r0 : ACode := (.region none [⟨some 2, .move (.c (.pointer none)), none⟩])
def A_spec_l01From.r1 : ACode := (.region none [⟨some 5, .move (.t 0), none⟩,
⟨some 6, .move (.t 0), none⟩,
⟨some 7, .len (.t 6), none⟩,
⟨some 8, .conv .u64 (.t 7), none⟩,
⟨some 9, .bin .add (.c (.int .u64 8117)) (.t 8), none⟩,
⟨some 10, .build ([.slice none 0 0] ++ [.int .i64 0] ++ [.int .u64 0]) [(0, 1, .t 5), (2, 1, .t 9)], none⟩,
⟨some 11, .box (.t 10), none⟩,
⟨some 3, .move (.t 11), none⟩])
def A_spec_l01From.r2 : ACode := (.region none [⟨some 4, .move (.c (.int .i64 0)), none⟩])
def A_spec_l01From.r3 : ACode := (.region none [⟨some 12, .move (.t 4), none⟩,
⟨some 13, .move (.t 0), none⟩,
⟨some 14, .len (.t 13), none⟩,
⟨some 15, .bin .lss (.t 12) (.t 14), none⟩,
⟨some 16, .move (.t 15), none⟩,
⟨some 17, .move (.t 4), some (16, true)⟩,
⟨some 18, .bin .lss (.t 17) (.c (.int .i64 4096)), some (16, true)⟩,
⟨some 19, .pick (.t 16) (.t 18) (.c (.bool false)), none⟩])
def A_spec_l01From.r5 : ACode := (.region (some 15) [⟨some 22, .move (.t 3), none⟩,
⟨some 23, .move (.t 3), none⟩,
⟨some 24, .nilCheck (.t 23), none⟩,
⟨some 25, .fieldAddr 2 (.t 24), none⟩,
⟨some 26, .load none (.t 25), none⟩,
⟨some 27, .bin .mul (.t 26) (.c (.int .u64 1099511628211)), none⟩,
⟨some 28, .move (.t 0), none⟩,
⟨some 29, .move (.t 4), none⟩,
⟨some 30, .indexAddr none 1 (.t 28) (.t 29), none⟩,
⟨some 31, .load none (.t 30), none⟩,
⟨some 32, .conv .u64 (.t 31), none⟩,
⟨some 33, .bin .add (.t 27) (.t 32), none⟩,
⟨some 34, .bin .add (.t 33) (.c (.int .u64 23)), none⟩,
⟨some 35, .nilCheck (.t 22), none⟩,
⟨some 36, .fieldAddr 2 (.t 35), none⟩,
⟨none, .store 1 (.t 36) (.t 34), none⟩])
def A_spec_l01From.r4 : ACode := (.region none [⟨some 20, .move (.t 4), none⟩,
⟨some 21, .bin .add (.t 20) (.c (.int .i64 1)), none⟩,
⟨some 4, .move (.t 21), none⟩])
def A_spec_l01From.l0 : ACode := (.seq (.seq A_spec_l01From.r3 (.cond (.t 19) .skip (.exit 0))) (.seq (.block 1 A_spec_l01From.r5) A_spec_l01From.r4))
def A_spec_l01From.r6 : ACode := (.region none [⟨some 37, .move (.t 3), none⟩,
⟨some 2, .move (.t 37), none⟩])
def A_spec_l01From : AFunc := ⟨[.tmp 2], (.seq A_spec_l01From.r0 (.seq A_spec_l01From.r1 (.seq (.seq A_spec_l01From.r2 (.block 0 (.loop A_spec_l01From.l0))) (.seq A_spec_l01From.r6 .ret))))⟩
/-! impl_times -/
def A_impl_times.r0 : ACode := (.region none [⟨some 4, .move (.c (.slice none 0 0)), none⟩])
def A_impl_times.r1 : ACode := (.region none [⟨some 10, .move (.t 0), none⟩,
⟨some 11, .len (.t 10), none⟩,
⟨some 12, .bin .eql (.t 11) (.c (.int .i64 0)), none⟩,
⟨some 13, .move (.t 12), none⟩,
⟨some 14, .move (.t 1), some (13, false)⟩,
⟨some 15, .len (.t 14), some (13, false)⟩,
⟨some 16, .bin .eql (.t 15) (.c (.int .i64 0)), some (13, false)⟩,
⟨some 17, .pick (.t 13) (.c (.bool true)) (.t 16), none⟩])
def A_impl_times.r2 : ACode := (.region none [⟨some 4, .move (.c (.slice none 0 0)), none⟩])
def A_impl_times.r3 : ACode := (.region none [⟨some 18, .move (.t 0), none⟩,
⟨some 19, .len (.t 18), none⟩,
⟨some 20, .move (.t 1), none⟩,
⟨some 21, .len (.t 20), none⟩,
⟨some 22, .bin .add (.t 19) (.t 21), none⟩,
⟨some 23, .bin .sub (.t 22) (.c (.int .i64 1)), none⟩,
⟨some 24, .makeSlice 1 8 [.int .i64 0] (.t 23) (.t 23), none⟩,
⟨some 5, .move (.t 24), none⟩])
def A_impl_times.r4 : ACode := (.region none [⟨some 25, .move (.t 0), none⟩,
⟨some 26, .len (.t 25), none⟩,
⟨some 27, .move (.c (.int .i64 0)), none⟩])
def A_impl_times.r5 : ACode := (.region none [⟨some 28, .bin .lss (.t 27) (.t 26), none⟩])
def A_impl_times.r6 : ACode := (.region none [⟨some 29, .move (.t 27), none⟩,
⟨some 30, .indexAddr none 1 (.t 25) (.t 27), none⟩,
⟨some 31, .load none (.t 30), none⟩,
⟨some 6, .move (.t 29), none⟩,
⟨some 7, .move (.t 31), none⟩])
def A_impl_times.r7 : ACode := (.region none [⟨some 32, .move (.t 1), none⟩,
⟨some 33, .len (.t 32), none⟩,
⟨some 34, .move (.c (.int .i64 0)), none⟩])
def A_impl_times.r8 : ACode := (.region none [⟨some 35, .bin .lss (.t 34) (.t 33), none⟩])
def A_impl_times.r9 : ACode := (.region none [⟨some 36, .move (.t 34), none⟩,
⟨some 37, .indexAddr none 1 (.t 32) (.t 34), none⟩,
⟨some 38, .load none (.t 37), none⟩,
⟨some 8, .move (.t 36), none⟩,
⟨some 9, .move (.t 38), none⟩])
def A_impl_times.r10 : ACode := (.region none [⟨some 39, .move (.t 5), none⟩,
⟨some 40, .move (.t 6), none⟩,
⟨some 41, .move (.t 8), none⟩,
⟨some 42, .bin .add (.t 40) (.t 41), none⟩,
⟨some 43, .move (.t 5), none⟩,
⟨some 44, .move (.t 6), none⟩,
⟨some 45, .move (.t 8), none⟩,
⟨some 46, .bin .add (.t 44) (.t 45), none⟩,
⟨some 47, .indexAddr none 1 (.t 43) (.t 46), none⟩,
⟨some 48, .load none (.t 47), none⟩,
⟨some 49, .move (.t 7), none⟩,
⟨some 50, .move (.t 9), none⟩,
⟨some 51, .bin .mul (.t 49) (.t 50), none⟩,
⟨some 52, .bin .add (.t 48) (.t 51), none⟩,
⟨some 53, .bin .rem (.t 52) (.c (.int .i64 10007)), none⟩,
⟨some 54, .indexAddr none 1 (.t 39) (.t 42), none⟩,
⟨none, .store 1 (.t 54) (.t 53), none⟩])
def A_impl_times.r11 : ACode := (.region none [⟨some 55, .bin .add (.t 34) (.c (.int .i64 1)), none⟩,
⟨some 34, .move (.t 55), none⟩])
def A_impl_times.l0 : ACode := (.seq A_impl_times.r8 (.seq (.cond (.t 35) .skip (.exit 2)) (.seq (.block 3 (.seq A_impl_times.r9 A_impl_times.r10)) A_impl_times.r11)))
def A_impl_times.r12 : ACode := (.region none [⟨some 56, .bin .add (.t 27) (.c (.int .i64 1)), none⟩,
⟨some 27, .move (.t 56), none⟩])
def A_impl_times.l1 : ACode := (.seq A_impl_times.r5 (.seq (.cond (.t 28) .skip (.exit 0)) (.seq (.block 1 (.seq A_impl_times.r6 (.seq A_impl_times.r7 (.block 2 (.loop A_impl_times.l0))))) A_impl_times.r12)))
def A_impl_times.r13 : ACode := (.region none [⟨some 57, .move (.t 5), none⟩,
⟨some 58, .call 105 [.t 57], none⟩,
⟨some 4, .move (.t 58), none⟩])
def A_impl_times : AFunc := ⟨[.tmp 4], (.seq A_impl_times.r0 (.seq (.seq A_impl_times.r1 (.cond (.t 17) (.seq A_impl_times.r2 .ret) .skip)) (.seq A_impl_times.r3 (.seq (.seq A_impl_times.r4 (.block 0 (.loop A_impl_times.l1))) (.seq A_impl_times.r13 .ret)))))⟩
/-! spec_l06Times -/
def A_spec_l06Times.r0 : ACode := (.region none [⟨some 4, .move (.c (.slice none 0 0)), none⟩])
def A_spec_l06Times.r1 : ACode := (.region none [⟨some 8, .move (.t 0), none⟩,
⟨some 9, .len (.t 8), none⟩,
⟨some 10, .bin .eql (.t 9) (.c (.int .i64 0)), none⟩,
⟨some 11, .move (.t 10), none⟩,
⟨some 12, .move (.t 1), some (11, false)⟩,
⟨some 13, .len (.t 12), some (11, false)⟩,
⟨some 14, .bin .eql (.t 13) (.c (.int .i64 0)), some (11, false)⟩,
⟨some 15, .pick (.t 11) (.c (.bool true)) (.t 14), none⟩])
def A_spec_l06Times.r2 : ACode := (.region none [⟨some 16, .buildSlice 1 0 [.int .i64 0] [], none⟩,
⟨some 4, .move (.t 16), none⟩])
def A_spec_l06Times.r3 : ACode := (.region none [⟨some 17, .move (.t 0), none⟩,
⟨some 18, .len (.t 17), none⟩,
⟨some 19, .move (.t 1), none⟩,
⟨some 20, .len (.t 19), none⟩,
⟨some 21, .bin .add (.t 18) (.t 20), none⟩,
⟨some 22, .bin .sub (.t 21) (.c (.int .i64 1)), none⟩,
⟨some 23, .makeSlice 1 8 [.int .i64 0] (.t 22) (.t 22), none⟩,
⟨some 5, .move (.t 23), none⟩])
def A_spec_l06Times.r4 : ACode := (.region none [⟨some 6, .move (.c (.int .i64 0)), none⟩])
def A_spec_l06Times.r5 : ACode := (.region none [⟨some 24, .move (.t 6), none⟩,
⟨some 25, .move (.t 0), none⟩,
⟨some 26, .len (.t 25), none⟩,
⟨some 27, .bin .lss (.t 24) (.t 26), none⟩])
def A_spec_l06Times.r7 : ACode := (.region none [⟨some 7, .move (.c (.int .i64 0)), none⟩])
def A_spec_l06Times.r8 : ACode := (.region none [⟨some 30, .move (.t 7), none⟩,
⟨some 31, .move (.t 1), none⟩,
⟨some 32, .len (.t 31), none⟩,
⟨some 33, .bin .lss (.t 30) (.t 32), none⟩])
def A_spec_l06Times.r10 : ACode := (.region (some 22) [⟨some 36, .move (.t 5), none⟩,
⟨some 37, .move (.t 6), none⟩,
⟨some 38, .move (.t 7), none⟩,
⟨some 39, .bin .add (.t 37) (.t 38), none⟩,
⟨some 40, .move (.t 5), none⟩,
⟨some 41, .move (.t 6), none⟩,
⟨some 42, .move (.t 7), none⟩,
⟨some 43, .bin .add (.t 41) (.t 42), none⟩,
⟨some 44, .indexAddr none 1 (.t 40) (.t 43), none⟩,
⟨some 45, .load none (.t 44), none⟩,
⟨some 46, .move (.t 0), none⟩,
⟨some 47, .move (.t 6), none⟩,
⟨some 48, .indexAddr none 1 (.t 46) (.t 47), none⟩,
⟨some 49, .load none (.t 48), none⟩,
⟨some 50, .move (.t 1), none⟩,
⟨some 51, .move (.t 7), none⟩,
⟨some 52, .indexAddr none 1 (.t 50) (.t 51), none⟩,
⟨some 53, .load none (.t 52), none⟩,
⟨some 54, .bin .mul (.t 49) (.t 53), none⟩,
⟨some 55, .bin .add (.t 45) (.t 54), none⟩,
⟨some 56, .call 103 [.t 55], none⟩,
⟨some 57, .indexAddr none 1 (.t 36) (.t 39), none⟩,
⟨none, .store 1 (.t 57) (.t 56), none⟩])
def A_spec_l06Times.r9 : ACode := (.region none [⟨some 34, .move (.t 7), none⟩,
⟨some 35, .bin .add (.t 34) (.c (.int .i64 1)), none⟩,
⟨some 7, .move (.t 35), none⟩])
def A_spec_l06Times.l0 : ACode := (.seq (.seq A_spec_l06Times.r8 (.cond (.t 33) .skip (.exit 2))) (.seq (.block 3 A_spec_l06Times.r10) A_spec_l06Times.r9))
def A_spec_l06Times.r6 : ACode := (.region none [⟨some 28, .move (.t 6), none⟩,
⟨some 29, .bin .add (.t 28) (.c (.int .i64 1)), none⟩,
⟨some 6, .move (.t 29), none⟩])
def A_spec_l06Times.l1 : ACode := (.seq (.seq A_spec_l06Times.r5 (.cond (.t 27) .skip (.exit 0))) (.seq (.block 1 (.seq A_spec_l06Times.r7 (.block 2 (.loop A_spec_l06Times.l0)))) A_spec_l06Times.r6))
def A_spec_l06Times.r11 : ACode := (.region none [⟨some 58, .move (.t 5), none⟩,
⟨some 59, .call 104 [.t 58], none⟩,
⟨some 4, .move (.t 59), none⟩])
def A_spec_l06Times : AFunc := ⟨[.tmp 4], (.seq A_spec_l06Times.r0 (.seq (.seq A_spec_l06Times.r1 (.cond (.t 15) (.seq A_spec_l06Times.r2 .ret) .skip)) (.seq A_spec_l06Times.r3 (.seq (.seq A_spec_l06Times.r4 (.block 0 (.loop A_spec_l06Times.l1))) (.seq A_spec_l06Times.r11 .ret)))))⟩
/-! impl_isNumber -/
def A_impl_isNumber.r0 : ACode := (.region none [⟨some 2, .move (.c (.bool false)), none⟩])
def A_impl_isNumber.r1 : ACode := (.region none [⟨some 3, .move (.t 0), none⟩,
⟨some 4, .bin .geq (.t 3) (.c (.int .i64 0)), none⟩,
⟨some 5, .move (.t 4), none⟩,
⟨some 6, .move (.t 0), some (5, true)⟩,
⟨some 7, .bin .lss (.t 6) (.c (.int .i64 10007)), some (5, true)⟩,
⟨some 8, .pick (.t 5) (.t 7) (.c (.bool false)), none⟩,
⟨some 2, .move (.t 8), none⟩])
def A_impl_isNumber : AFunc := ⟨[.tmp 2], (.seq A_impl_isNumber.r0 (.seq A_impl_isNumber.r1 .ret))⟩
/-! spec_l06Is -/
def A_spec_l06Is.r0 : ACode := (.region none [⟨some 2, .move (.c (.bool false)), none⟩])
def A_spec_l06Is.r1 : ACode := (.region none [⟨some 3, .move (.c (.int .i64 0)), none⟩])
def A_spec_l06Is.r2 : ACode := (.region none [⟨some 4, .move (.t 3), none⟩,
⟨some 5, .move (.t 0), none⟩,
⟨some 6, .len (.t 5), none⟩,
⟨some 7, .bin .lss (.t 4) (.t 6), none⟩])
def A_spec_l06Is.r4 : ACode := (.region none [⟨some 10, .move (.t 0), none⟩,
⟨some 11, .move (.t 3), none⟩,
⟨some 12, .indexAddr none 1 (.t 10) (.t 11), none⟩,
⟨some 13, .load none (.t 12), none⟩,
⟨some 14, .call 58 [.t 13, (.c (.int .i64 0)), (.c (.int .i64 10006))], none⟩,
⟨some 15, .not (.t 14), none⟩])
def A_spec_l06Is.r5 : ACode := (.region none [⟨some 2, .move (.c (.bool false)), none⟩])
def A_spec_l06Is.r3 : ACode := (.region none [⟨some 8, .move (.t 3), none⟩,
⟨some 9, .bin .add (.t 8) (.c (.int .i64 1)), none⟩,
⟨some 3, .move (.t 9), none⟩])
def A_spec_l06Is.l0 : ACode := (.seq (.seq A_spec_l06Is.r2 (.cond (.t 7) .skip (.exit 0))) (.seq (.block 1 (.seq A_spec_l06Is.r4 (.cond (.t 15) (.seq A_spec_l06Is.r5 .ret) .skip))) A_spec_l06Is.r3))
def A_spec_l06Is.r6 : ACode := (.region none [⟨some 16, .move (.t 0), none⟩,
⟨some 17, .len (.t 16), none⟩,
⟨some 18, .bin .leq (.t 17) (.c (.int .i64 17)), none⟩,
⟨some 19, .move (.t 18), none⟩,
⟨some 20, .move (.t 0), some (19, true)⟩,
⟨some 21, .len (.t 20), some (19, true)⟩,
⟨some 22, .bin .eql (.t 21) (.c (.int .i64 0)), some (19, true)⟩,
⟨some 23, .move (.t 22), some (19, true)⟩,
⟨some 24, .move (.t 0), some (23, false)⟩,
⟨some 25, .move (.t 0), some (23, false)⟩,
⟨some 26, .len (.t 25), some (23, false)⟩,
⟨some 27, .bin .sub (.t 26) (.c (.int .i64 1)), some (23, false)⟩,
⟨some 28, .indexAddr none 1 (.t 24) (.t 27), some (23, false)⟩,
⟨some 29, .load none (.t 28), some (23, false)⟩,
⟨some 30, .bin .neq (.t 29) (.c (.int .i64 0)), some (23, false)⟩,
⟨some 31, .pick (.t 23) (.c (.bool true)) (.t 30), some (19, true)⟩,
⟨some 32, .pick (.t 19) (.t 31) (.c (.bool false)), none⟩,
⟨some 2, .move (.t 32), none⟩])
def A_spec_l06Is : AFunc := ⟨[.tmp 2], (.seq A_spec_l06Is.r0 (.seq (.seq A_spec_l06Is.r1 (.block 0 (.loop A_spec_l06Is.l0))) (.seq A_spec_l06Is.r6 .ret)))⟩
/-! impl_addAll -/
def A_impl_addAll.r0 : ACode := (.region none [⟨some 4, .move (.c (.slice none 0 0)), none⟩])
def A_impl_addAll.r1 : ACode := (.region none [⟨some 7, .move (.t 0), none⟩,
⟨some 8, .len (.t 7), none⟩,
⟨some 9, .move (.t 1), none⟩,
⟨some 10, .len (.t 9), none⟩,
⟨some 11, .max [.t 8, .t 10], none⟩,
⟨some 12, .makeSlice 1 8 [.int .i64 0] (.t 11) (.t 11), none⟩,
⟨some 5, .move (.t 12), none⟩])
def A_impl_addAll.r2 : ACode := (.region none [⟨some 13, .move (.t 5), none⟩,
⟨some 14, .len (.t 13), none⟩,
⟨some 15, .move (.c (.int .i64 0)), none⟩])
def A_impl_addAll.r3 : ACode := (.region none [⟨some 16, .bin .lss (.t 15) (.t 14), none⟩])
def A_impl_addAll.r4 : ACode := (.region none [⟨some 17, .move (.t 15), none⟩,
⟨some 6, .move (.t 17), none⟩])
def A_impl_addAll.r5 : ACode := (.region none [⟨some 18, .move (.t 6), none⟩,
⟨some 19, .move (.t 0), none⟩,
⟨some 20, .len (.t 19), none⟩,
⟨some 21, .bin .lss (.t 18) (.t 20), none⟩])
def A_impl_addAll.r6 : ACode := (.region (some 10) [⟨some 22, .move (.t 5), none⟩,
⟨some 23, .move (.t 6), none⟩,
⟨some 24, .indexAddr none 1 (.t 22) (.t 23), none⟩,
⟨some 25, .load none (.t 24), none⟩,
⟨some 26, .move (.t 0), none⟩,
⟨some 27, .move (.t 6), none⟩,
⟨some 28, .indexAddr none 1 (.t 26) (.t 27), none⟩,
⟨some 29, .load none (.t 28), none⟩,
⟨some 30, .bin .add (.t 25) (.t 29), none⟩,
⟨some 31, .indexAddr none 1 (.t 22) (.t 23), none⟩,
⟨none, .store 1 (.t 31) (.t 30), none⟩])
def A_impl_addAll.r7 : ACode := (.region none [⟨some 32, .move (.t 6), none⟩,
⟨some 33, .move (.t 1), none⟩,
⟨some 34, .len (.t 33), none⟩,
⟨some 35, .bin .lss (.t 32) (.t 34), none⟩])
def A_impl_addAll.r8 : ACode := (.region (some 10) [⟨some 36, .move (.t 5), none⟩,
⟨some 37, .move (.t 6), none⟩,
⟨some 38, .indexAddr none 1 (.t 36) (.t 37), none⟩,
⟨some 39, .load none (.t 38), none⟩,
⟨some 40, .move (.t 1), none⟩,
⟨some 41, .move (.t 6), none⟩,
⟨some 42, .indexAddr none 1 (.t 40) (.t 41), none⟩,
⟨some 43, .load none (.t 42), none⟩,
⟨some 44, .bin .add (.t 39) (.t 43), none⟩,
⟨some 45, .indexAddr none 1 (.t 36) (.t 37), none⟩,
⟨none, .store 1 (.t 45) (.t 44), none⟩])
def A_impl_addAll.r9 : ACode := (.region none [⟨some 46, .move (.t 5), none⟩,
⟨some 47, .move (.t 6), none⟩,
⟨some 48, .indexAddr none 1 (.t 46) (.t 47), none⟩,
⟨some 49, .load none (.t 48), none⟩,
⟨some 50, .bin .rem (.t 49) (.c (.int .i64 10007)), none⟩,
⟨some 51, .indexAddr none 1 (.t 46) (.t 47), none⟩,
⟨none, .store 1 (.t 51) (.t 50), none⟩])
def A_impl_addAll.r10 : ACode := (.region none [⟨some 52, .bin .add (.t 15) (.c (.int .i64 1)), none⟩,
⟨some 15, .move (.t 52), none⟩])
def A_impl_addAll.l0 : ACode := (.seq A_impl_addAll.r3 (.seq (.cond (.t 16) .skip (.exit 0)) (.seq (.block 1 (.seq A_impl_addAll.r4 (.seq (.seq A_impl_addAll.r5 (.cond (.t 21) A_impl_addAll.r6 .skip)) (.seq (.seq A_impl_addAll.r7 (.cond (.t 35) A_impl_addAll.r8 .skip)) A_impl_addAll.r9)))) A_impl_addAll.r10)))
def A_impl_addAll.r11 : ACode := (.region none [⟨some 53, .move (.t 5), none⟩,
⟨some 54, .call 105 [.t 53], none⟩,
⟨some 4, .move (.t 54), none⟩])
def A_impl_addAll : AFunc := ⟨[.tmp 4], (.seq A_impl_addAll.r0 (.seq A_impl_addAll.r1 (.seq (.seq A_impl_addAll.r2 (.block 0 (.loop A_impl_addAll.l0))) (.seq A_impl_addAll.r11 .ret))))⟩
/-! spec_l06Add -/
def A_spec_l06Add.r0 : ACode := (.region none [⟨some 6, .move (.c (.slice none 0 0)), none⟩])
def A_spec_l06Add.r1 : ACode := (.region none [⟨some 10, .buildSlice 1 0 [.int .i64 0] [], none⟩,
⟨some 7, .move (.t 10), none⟩])
def A_spec_l06Add.r2 : ACode := (.region none [⟨some 8, .move (.c (.int .i64 0)), none⟩])
def A_spec_l06Add.r3 : ACode := (.region none [⟨some 11, .move (.t 8), none⟩,
⟨some 12, .move (.t 0), none⟩,
⟨some 13, .len (.t 12), none⟩,
⟨some 14, .bin .lss (.t 11) (.t 13), none⟩,
⟨some 15, .move (.t 14), none⟩,
⟨some 16, .move (.t 8), some (15, false)⟩,
⟨some 17, .move (.t 1), some (15, false)⟩,
⟨some 18, .len (.t 17), some (15, false)⟩,
⟨some 19, .bin .lss (.t 16) (.t 18), some (15, false)⟩,
⟨some 20, .pick (.t 15) (.c (.bool true)) (.t 19), none⟩])
def A_spec_l06Add.r5 : ACode := (.region none [⟨some 9, .move (.c (.int .i64 0)), none⟩])
def A_spec_l06Add.r6 : ACode := (.region none [⟨some 23, .move (.t 8), none⟩,
⟨some 24, .move (.t 0), none⟩,
⟨some 25, .len (.t 24), none⟩,
⟨some 26, .bin .lss (.t 23) (.t 25), none⟩])
def A_spec_l06Add.r7 : ACode := (.region none [⟨some 27, .move (.t 0), none⟩,
⟨some 28, .move (.t 8), none⟩,
⟨some 29, .indexAddr none 1 (.t 27) (.t 28), none⟩,
⟨some 30, .load none (.t 29), none⟩,
⟨some 9, .move (.t 30), none⟩])
def A_spec_l06Add.r8 : ACode := (.region none [⟨some 31, .move (.t 8), none⟩,
⟨some 32, .move (.t 1), none⟩,
⟨some 33, .len (.t 32), none⟩,
⟨some 34, .bin .lss (.t 31) (.t 33), none⟩])
def A_spec_l06Add.r9 : ACode := (.region none [⟨some 35, .move (.t 9), none⟩,
⟨some 36, .move (.t 2), none⟩,
⟨some 37, .move (.t 1), none⟩,
⟨some 38, .move (.t 8), none⟩,
⟨some 39, .indexAddr none 1 (.t 37) (.t 38), none⟩,
⟨some 40, .load none (.t 39), none⟩,
⟨some 41, .bin .mul (.t 36) (.t 40), none⟩,
⟨some 42, .bin .add (.t 35) (.t 41), none⟩,
⟨some 9, .move (.t 42), none⟩])
def A_spec_l06Add.r10 : ACode := (.region none [⟨some 43, .move (.t 7), none⟩,
⟨some 44, .move (.t 9), none⟩,
⟨some 45, .call 103 [.t 44], none⟩,
⟨some 46, .buildSlice 1 1 [.int .i64 0] [(0, 1, .t 45)], none⟩,
⟨some 47, .append 1 8 (.t 43) (.t 46), none⟩,
⟨some 7, .move (.t 47), none⟩])
def A_spec_l06Add.r4 : ACode := (.region none [⟨some 21, .move (.t 8), none⟩,
⟨some 22, .bin .add (.t 21) (.c (.int .i64 1)), none⟩,
⟨some 8, .move (.t 22), none⟩])
def A_spec_l06Add.l0 : ACode := (.seq (.seq A_spec_l06Add.r3 (.cond (.t 20) .skip (.exit 0))) (.seq (.block 1 (.seq A_spec_l06Add.r5 (.seq (.seq A_spec_l06Add.r6 (.cond (.t 26) A_spec_l06Add.r7 .skip)) (.seq (.seq A_spec_l06Add.r8 (.cond (.t 34) A_spec_l06Add.r9 .skip)) A_spec_l06Add.r10)))) A_spec_l06Add.r4))
def A_spec_l06Add.r11 : ACode := (.region none [⟨some 48, .move (.t 7), none⟩,
⟨some 49, .call 104 [.t 48], none⟩,
⟨some 6, .move (.t 49), none⟩])
def A_spec_l06Add : AFunc := ⟨[.tmp 6], (.seq A_spec_l06Add.r0 (.seq A_spec_l06Add.r1 (.seq (.seq A_spec_l06Add.r2 (.block 0 (.loop A_spec_l06Add.l0))) (.seq A_spec_l06Add.r11 .ret))))⟩
/-! spec_l06Draw -/
def A_spec_l06Draw.r0 : ACode := (.region none [⟨some 4, .move (.c (.slice none 0 0)), none⟩])
def A_spec_l06Draw.r1 : ACode := (.region none [⟨some 7, .buildSlice 1 0 [.int .i64 0] [], none⟩,
⟨some 5, .move (.t 7), none⟩])
def A_spec_l06Draw.r2 : ACode := (.region none [⟨some 8, .move (.t 0), none⟩,
⟨some 9, .move (.t 1), none⟩,
⟨some 10, .bin .add (.t 9) (.c (.int .i64 2)), none⟩,
⟨some 11, .call 102 [.t 8, .t 10], none⟩,
⟨some 6, .move (.t 11), none⟩])
def A_spec_l06Draw.r3 : ACode := (.region none [⟨some 12, .move (.t 6), none⟩,
⟨some 13, .bin .gtr (.t 12) (.c (.int .i64 0)), none⟩])
def A_spec_l06Draw.r5 : ACode := (.region none [⟨some 16, .move (.t 5), none⟩,
⟨some 17, .move (.t 0), none⟩,
⟨some 18, .move (.t 0), none⟩,
⟨some 19, .call 102 [.t 18, (.c (.int .i64 10))], none⟩,
⟨some 20, .move (.t 0), none⟩,
⟨some 21, .call 102 [.t 20, (.c (.int .i64 10007))], none⟩,
⟨some 22, .buildSlice 1 5 [.int .i64 0] [(0, 1, (.c (.int .i64 0))), (1, 1, (.c (.int .i64 0))), (2, 1, (.c (.int .i64 1))), (3, 1, .t 19), (4, 1, .t 21)], none⟩,
⟨some 23, .call 98 [.t 17, .t 22], none⟩,
⟨some 24, .buildSlice 1 1 [.int .i64 0] [(0, 1, .t 23)], none⟩,
⟨some 25, .append 1 8 (.t 16) (.t 24), none⟩,
⟨some 5, .move (.t 25), none⟩])
def A_spec_l06Draw.r4 : ACode := (.region none [⟨some 14, .move (.t 6), none⟩,
⟨some 15, .bin .sub (.t 14) (.c (.int .i64 1)), none⟩,
⟨some 6, .move (.t 15), none⟩])
def A_spec_l06Draw.l0 : ACode := (.seq (.seq A_spec_l06Draw.r3 (.cond (.t 13) .skip (.exit 0))) (.seq (.block 1 A_spec_l06Draw.r5) A_spec_l06Draw.r4))
def A_spec_l06Draw.r6 : ACode := (.region none [⟨some 26, .move (.t 5), none⟩,
⟨some 27, .call 104 [.t 26], none⟩,
⟨some 5, .move (.t 27), none⟩])
def A_spec_l06Draw.r7 : ACode := (.region none [⟨some 28, .move (.t 0), none⟩,
⟨some 29, .call 102 [.t 28, (.c (.int .i64 40))], none⟩])
def A_spec_l06Draw.r8 : ACode := (.region none [⟨some 31, .bin .eql (.t 29) (.c (.int .i64 0)), none⟩,
⟨some 30, .move (.t 31), none⟩])
def A_spec_l06Draw.r9 : ACode := (.region none [⟨some 32, .move (.t 5), none⟩,
⟨some 33, .buildSlice 1 1 [.int .i64 0] [(0, 1, (.c (.int .i64 0)))], none⟩,
⟨some 34, .append 1 8 (.t 32) (.t 33), none⟩,
⟨some 5, .move (.t 34), none⟩])
def A_spec_l06Draw.r10 : ACode := (.region none [⟨some 36, .bin .eql (.t 29) (.c (.int .i64 1)), none⟩,
⟨some 35, .move (.t 36), none⟩])
def A_spec_l06Draw.r11 : ACode := (.region none [⟨some 37, .move (.t 5), none⟩,
⟨some 38, .move (.t 0), none⟩,
⟨some 39, .buildSlice 1 2 [.int .i64 0] [(0, 1, (.c (.int .i64 10007))), (1, 1, (.c (.int .i64 (-1))))], none⟩,
⟨some 40, .call 98 [.t 38, .t 39], none⟩,
⟨some 41, .buildSlice 1 1 [.int .i64 0] [(0, 1, .t 40)], none⟩,
⟨some 42, .append 1 8 (.t 37) (.t 41), none⟩,
⟨some 5, .move (.t 42), none⟩])
def A_spec_l06Draw.r12 : ACode := (.region none [⟨some 43, .move (.t 5), none⟩,
⟨some 4, .move (.t 43), none⟩])
def A_spec_l06Draw : AFunc := ⟨[.tmp 4], (.seq A_spec_l06Draw.r0 (.seq A_spec_l06Draw.r1 (.seq (.seq A_spec_l06Draw.r2 (.block 0 (.loop A_spec_l06Draw.l0))) (.seq A_spec_l06Draw.r6 (.seq (.seq A_spec_l06Draw.r7 (.block 2 (.seq A_spec_l06Draw.r8 (.cond (.t 30) A_spec_l06Draw.r9 (.seq A_spec_l06Draw.r10 (.cond (.t 35) A_spec_l06Draw.r11 .skip)))))) (.seq A_spec_l06Draw.r12 .ret))))))⟩
/-! spec_l01Pick -/
def A_spec_l01Pick.r0 : ACode := (.region none [⟨some 4, .move (.c (.int .i64 0)), none⟩])
def A_spec_l01Pick.r1 : ACode := (.region none [⟨some 5, .move (.t 1), none⟩,
⟨some 6, .move (.t 0), none⟩,
⟨some 7, .move (.t 1), none⟩,
⟨some 8, .len (.t 7), none⟩,
⟨some 9, .call 102 [.t 6, .t 8], none⟩,
⟨some 10, .indexAddr none 1 (.t 5) (.t 9), none⟩,
⟨some 11, .load none (.t 10), none⟩,
⟨some 4, .move (.t 11), none⟩])
def A_spec_l01Pick : AFunc := ⟨[.tmp 4], (.seq A_spec_l01Pick.r0 (.seq A_spec_l01Pick.r1 .ret))⟩
/-! spec_l06Compose -/
def A_spec_l06Compose.r0 : ACode := (.region none [⟨some 4, .move (.c (.slice none 0 0)), none⟩])
def A_spec_l06Compose.r1 : ACode := (.region none [⟨some 7, .buildSlice 1 0 [.int .i64 0] [], none⟩,
⟨some 5, .move (.t 7), none⟩])
def A_spec_l06Compose.r2 : ACode := (.region none [⟨some 8, .move (.t 0), none⟩,
⟨some 9, .len (.t 8), none⟩,
⟨some 10, .bin .sub (.t 9) (.c (.int .i64 1)), none⟩,
⟨some 6, .move (.t 10), none⟩])
def A_spec_l06Compose.r3 : ACode := (.region none [⟨some 11, .move (.t 6), none⟩,
⟨some 12, .bin .geq (.t 11) (.c (.int .i64 0)), none⟩])
def A_spec_l06Compose.r5 : ACode := (.region (some 11) [⟨some 15, .move (.t 5), none⟩,
⟨some 16, .move (.t 1), none⟩,
⟨some 17, .call 74 [.t 15, .t 16], none⟩,
⟨some 18, .move (.t 0), none⟩,
⟨some 19, .move (.t 6), none⟩,
⟨some 20, .indexAddr none 1 (.t 18) (.t 19), none⟩,
⟨some 21, .load none (.t 20), none⟩,
⟨some 22, .buildSlice 1 1 [.int .i64 0] [(0, 1, .t 21)], none⟩,
⟨some 23, .call 104 [.t 22], none⟩,
⟨some 24, .call 72 [.t 17, .t 23, (.c (.int .i64 1))], none⟩,
⟨some 5, .move (.t 24), none⟩])
def A_spec_l06Compose.r4 : ACode := (.region none [⟨some 13, .move (.t 6), none⟩,
⟨some 14, .bin .sub (.t 13) (.c (.int .i64 1)), none⟩,
⟨some 6, .move (.t 14), none⟩])
def A_spec_l06Compose.l0 : ACode := (.seq (.seq A_spec_l06Compose.r3 (.cond (.t 12) .skip (.exit 0))) (.seq (.block 1 A_spec_l06Compose.r5) A_spec_l06Compose.r4))
def A_spec_l06Compose.r6 : ACode := (.region none [⟨some 25, .move (.t 5), none⟩,
⟨some 4, .move (.t 25), none⟩])
def A_spec_l06Compose : AFunc := ⟨[.tmp 4], (.seq A_spec_l06Compose.r0 (.seq A_spec_l06Compose.r1 (.seq (.seq A_spec_l06Compose.r2 (.block 0 (.loop A_spec_l06Compose.l0))) (.seq A_spec_l06Compose.r6 .ret))))⟩
/-! spec_l06Some -/
def A_spec_l06Some.r0 : ACode := (.region none [⟨some 2, .move (.c (.slice none 0 0)), none⟩])
def A_spec_l06Some.r1 : ACode := (.region none [⟨some 6, .move (.t 0), none⟩,
⟨some 7, .call 102 [.t 6, (.c (.int .i64 6))], none⟩])
def A_spec_l06Some.r2 : ACode := (.region none [⟨some 9, .bin .eql (.t 7) (.c (.int .i64 0)), none⟩,
⟨some 8, .move (.t 9), none⟩])
def A_spec_l06Some.r3 : ACode := (.region none [⟨some 10, .move (.t 0), none⟩,
⟨some 11, .call 102 [.t 10, (.c (.int .i64 6))], none⟩,
⟨some 12, .bin .add (.c (.int .i64 1)) (.t 11), none⟩,
⟨some 13, .move (.t 0), none⟩,
⟨some 14, .call 102 [.t 13, (.c (.int .i64 9))], none⟩,
⟨some 15, .bin .add (.c (.int .i64 1)) (.t 14), none⟩,
⟨some 16, .call 59 [.t 12, .t 15], none⟩,
⟨some 2, .move (.t 16), none⟩])
def A_spec_l06Some.r4 : ACode := (.region none [⟨some 18, .bin .eql (.t 7) (.c (.int .i64 1)), none⟩,
⟨some 17, .move (.t 18), none⟩])
def A_spec_l06Some.r5 : ACode := (.region none [⟨some 19, .move (.t 0), none⟩,
⟨some 20, .call 102 [.t 19, (.c (.int .i64 9))], none⟩,
⟨some 21, .bin .add (.c (.int .i64 1)) (.t 20), none⟩,
⟨some 22, .call 76 [.t 21], none⟩,
⟨some 2, .move (.t 22), none⟩])
def A_spec_l06Some.r6 : ACode := (.region none [⟨some 24, .bin .eql (.t 7) (.c (.int .i64 2)), none⟩,
⟨some 23, .move (.t 24), none⟩])
def A_spec_l06Some.r7 : ACode := (.region none [⟨some 25, .move (.t 0), none⟩,
⟨some 26, .call 102 [.t 25, (.c (.int .i64 5))], none⟩,
⟨some 27, .bin .add (.c (.int .i64 1)) (.t 26), none⟩,
⟨some 28, .move (.t 0), none⟩,
⟨some 29, .call 102 [.t 28, (.c (.int .i64 5))], none⟩,
⟨some 30, .bin .add (.c (.int .i64 1)) (.t 29), none⟩,
⟨some 31, .call 82 [.t 27, .t 30], none⟩,
⟨some 2, .move (.t 31), none⟩])
def A_spec_l06Some.r8 : ACode := (.region none [⟨some 33, .bin .eql (.t 7) (.c (.int .i64 3)), none⟩,
⟨some 32, .move (.t 33), none⟩])
def A_spec_l06Some.r9 : ACode := (.region none [⟨some 34, .move (.t 0), none⟩,
⟨some 35, .call 102 [.t 34, (.c (.int .i64 2))], none⟩,
⟨some 36, .bin .add (.c (.int .i64 1)) (.t 35), none⟩,
⟨some 37, .move (.t 0), none⟩,
⟨some 38, .call 102 [.t 37, (.c (.int .i64 2))], none⟩,
⟨some 39, .bin .add (.c (.int .i64 1)) (.t 38), none⟩,
⟨some 40, .call 82 [.t 36, .t 39], none⟩,
⟨some 41, .move (.t 0), none⟩,
⟨some 42, .call 102 [.t 41, (.c (.int .i64 2))], none⟩,
⟨some 43, .bin .add (.c (.int .i64 1)) (.t 42), none⟩,
⟨some 44, .move (.t 0), none⟩,
⟨some 45, .call 102 [.t 44, (.c (.int .i64 2))], none⟩,
⟨some 46, .bin .add (.c (.int .i64 1)) (.t 45), none⟩,
⟨some 47, .call 82 [.t 43, .t 46], none⟩,
⟨some 48, .call 85 [.t 40, .t 47], none⟩,
⟨some 2, .move (.t 48), none⟩])
def A_spec_l06Some.r10 : ACode := (.region none [⟨some 50, .bin .eql (.t 7) (.c (.int .i64 4)), none⟩,
⟨some 49, .move (.t 50), none⟩])
def A_spec_l06Some.r11 : ACode := (.region none [⟨some 51, .move (.t 0), none⟩,
⟨some 52, .call 99 [.t 51, (.c (.int .i64 3))], none⟩,
⟨some 53, .buildSlice 1 1 [.int .i64 0] [(0, 1, (.c (.int .i64 1)))], none⟩,
⟨some 3, .move (.t 52), none⟩,
⟨some 4, .move (.t 53), none⟩])
def A_spec_l06Some.r12 : ACode := (.region none [⟨some 54, .move (.t 3), none⟩,
⟨some 55, .call 56 [.t 54], none⟩,
⟨some 56, .not (.t 55), none⟩])
def A_spec_l06Some.r13 : ACode := (.region none [⟨some 57, .move (.t 3), none⟩,
⟨some 2, .move (.t 57), none⟩])
def A_spec_l06Some.r14 : ACode := (.region none [⟨some 58, .move (.t 0), none⟩,
⟨some 59, .call 102 [.t 58, (.c (.int .i64 3))], none⟩,
⟨some 60, .bin .add (.c (.int .i64 1)) (.t 59), none⟩,
⟨some 5, .move (.t 60), none⟩])
def A_spec_l06Some.r15 : ACode := (.region none [⟨some 61, .move (.t 5), none⟩,
⟨some 62, .bin .gtr (.t 61) (.c (.int .i64 0)), none⟩])
def A_spec_l06Some.r17 : ACode := (.region none [⟨some 65, .move (.t 4), none⟩,
⟨some 66, .move (.t 3), none⟩,
⟨some 67, .call 74 [.t 65, .t 66], none⟩,
⟨some 4, .move (.t 67), none⟩])
def A_spec_l06Some.r16 : ACode := (.region none [⟨some 63, .move (.t 5), none⟩,
⟨some 64, .bin .sub (.t 63) (.c (.int .i64 1)), none⟩,
⟨some 5, .move (.t 64), none⟩])
def A_spec_l06Some.l0 : ACode := (.seq (.seq A_spec_l06Some.r15 (.cond (.t 62) .skip (.exit 1))) (.seq (.block 2 A_spec_l06Some.r17) A_spec_l06Some.r16))
def A_spec_l06Some.r18 : ACode := (.region none [⟨some 68, .move (.t 4), none⟩,
⟨some 2, .move (.t 68), none⟩])
def A_spec_l06Some.r19 : ACode := (.region none [⟨some 69, .move (.t 0), none⟩,
⟨some 70, .call 99 [.t 69, (.c (.int .i64 8))], none⟩,
⟨some 2, .move (.t 70), none⟩])
def A_spec_l06Some : AFunc := ⟨[.tmp 2], (.seq A_spec_l06Some.r0 (.seq (.seq A_spec_l06Some.r1 (.block 0 (.seq A_spec_l06Some.r2 (.cond (.t 8) (.seq A_spec_l06Some.r3 .ret) (.seq A_spec_l06Some.r4 (.cond (.t 17) (.seq A_spec_l06Some.r5 .ret) (.seq A_spec_l06Some.r6 (.cond (.t 23) (.seq A_spec_l06Some.r7 .ret) (.seq A_spec_l06Some.r8 (.cond (.t 32) (.seq A_spec_l06Some.r9 .ret) (.seq A_spec_l06Some.r10 (.cond (.t 49) (.seq A_spec_l06Some.r11 (.seq (.seq A_spec_l06Some.r12 (.cond (.t 56) (.seq A_spec_l06Some.r13 .ret) .skip)) (.seq (.seq A_spec_l06Some.r14 (.block 1 (.loop A_spec_l06Some.l0))) (.seq A_spec_l06Some.r18 .ret)))) .skip)))))))))))) (.seq A_spec_l06Some.r19 .ret)))⟩
/-! impl_derivative -/
def A_impl_derivative.r0 : ACode := (.region none [⟨some 2, .move (.c (.slice none 0 0)), none⟩])
def A_impl_derivative.r1 : ACode := (.region none [⟨some 5, .buildSlice 1 0 [.int .i64 0] [], none⟩,
⟨some 3, .move (.t 5), none⟩])
def A_impl_derivative.r2 : ACode := (.region none [⟨some 4, .move (.c (.int .i64 1)), none⟩])
def A_impl_derivative.r3 : ACode := (.region none [⟨some 6, .move (.t 4), none⟩,
⟨some 7, .move (.t 0), none⟩,
⟨some 8, .len (.t 7), none⟩,
⟨some 9, .bin .lss (.t 6) (.t 8), none⟩])
def A_impl_derivative.r5 : ACode := (.region none [⟨some 12, .move (.t 3), none⟩,
⟨some 13, .move (.t 0), none⟩,
⟨some 14, .move (.t 4), none⟩,
⟨some 15, .indexAddr none 1 (.t 13) (.t 14), none⟩,
⟨some 16, .load none (.t 15), none⟩,
⟨some 17, .move (.t 4), none⟩,
⟨some 18, .bin .mul (.t 16) (.t 17), none⟩,
⟨some 19, .bin .rem (.t 18) (.c (.int .i64 10007)), none⟩,
⟨some 20, .buildSlice 1 1 [.int .i64 0] [(0, 1, .t 19)], none⟩,
⟨some 21, .append 1 8 (.t 12) (.t 20), none⟩,
⟨some 3, .move (.t 21), none⟩])
def A_impl_derivative.r4 : ACode := (.region none [⟨some 10, .move (.t 4), none⟩,
⟨some 11, .bin .add (.t 10) (.c (.int .i64 1)), none⟩,
⟨some 4, .move (.t 11), none⟩])
def A_impl_derivative.l0 : ACode := (.seq (.seq A_impl_derivative.r3 (.cond (.t 9) .skip (.exit 0))) (.seq (.block 1 A_impl_derivative.r5) A_impl_derivative.r4))
def A_impl_derivative.r6 : ACode := (.region none [⟨some 22, .move (.t 3), none⟩,
⟨some 23, .call 105 [.t 22], none⟩,
⟨some 2, .move (.t 23), none⟩])
def A_impl_derivative : AFunc := ⟨[.tmp 2], (.seq A_impl_derivative.r0 (.seq A_impl_derivative.r1 (.seq (.seq A_impl_derivative.r2 (.block 0 (.loop A_impl_derivative.l0))) (.seq A_impl_derivative.r6 .ret))))⟩
/-! spec_l06Slope -/
def A_spec_l06Slope.r0 : ACode := (.region none [⟨some 2, .move (.c (.slice none 0 0)), none⟩])
def A_spec_l06Slope.r1 : ACode := (.region none [⟨some 5, .buildSlice 1 0 [.int .i64 0] [], none⟩,
⟨some 3, .move (.t 5), none⟩])
def A_spec_l06Slope.r2 : ACode := (.region none [⟨some 4, .move (.c (.int .i64 1)), none⟩])
def A_spec_l06Slope.r3 : ACode := (.region none [⟨some 6, .move (.t 4), none⟩,
⟨some 7, .move (.t 0), none⟩,
⟨some 8, .len (.t 7), none⟩,
⟨some 9, .bin .lss (.t 6) (.t 8), none⟩])
def A_spec_l06Slope.r5 : ACode := (.region none [⟨some 12, .move (.t 3), none⟩,
⟨some 13, .move (.t 0), none⟩,
⟨some 14, .move (.t 4), none⟩,
⟨some 15, .indexAddr none 1 (.t 13) (.t 14), none⟩,
⟨some 16, .load none (.t 15), none⟩,
⟨some 17, .move (.t 4), none⟩,
⟨some 18, .bin .mul (.t 16) (.t 17), none⟩,
⟨some 19, .call 103 [.t 18], none⟩,
⟨some 20, .buildSlice 1 1 [.int .i64 0] [(0, 1, .t 19)], none⟩,
⟨some 21, .append 1 8 (.t 12) (.t 20), none⟩,
⟨some 3, .move (.t 21), none⟩])
def A_spec_l06Slope.r4 : ACode := (.region none [⟨some 10, .move (.t 4), none⟩,
⟨some 11, .bin .add (.t 10) (.c (.int .i64 1)), none⟩,
⟨some 4, .move (.t 11), none⟩])
def A_spec_l06Slope.l0 : ACode := (.seq (.seq A_spec_l06Slope.r3 (.cond (.t 9) .skip (.exit 0))) (.seq (.block 1 A_spec_l06Slope.r5) A_spec_l06Slope.r4))
def A_spec_l06Slope.r6 : ACode := (.region none [⟨some 22, .move (.t 3), none⟩,
⟨some 23, .call 104 [.t 22], none⟩,
⟨some 2, .move (.t 23), none⟩])
def A_spec_l06Slope : AFunc := ⟨[.tmp 2], (.seq A_spec_l06Slope.r0 (.seq A_spec_l06Slope.r1 (.seq (.seq A_spec_l06Slope.r2 (.block 0 (.loop A_spec_l06Slope.l0))) (.seq A_spec_l06Slope.r6 .ret))))⟩
/-! impl_common -/
def A_impl_common.r0 : ACode := (.region none [⟨some 4, .move (.c (.slice none 0 0)), none⟩])
def A_impl_common.r1 : ACode := (.region none [⟨some 7, .move (.t 1), none⟩,
⟨some 8, .len (.t 7), none⟩,
⟨some 9, .bin .gtr (.t 8) (.c (.int .i64 0)), none⟩])
def A_impl_common.r2 : ACode := (.region none [⟨some 11, .move (.t 0), none⟩,
⟨some 12, .move (.t 1), none⟩,
⟨some 13, .call 110 [.t 11, .t 12], none⟩,
⟨some 10, .move (.t 13), none⟩,
⟨some 14, .extract (.t 10) 0, none⟩,
⟨some 15, .extract (.t 10) 1, none⟩,
⟨some 5, .move (.t 14), none⟩,
⟨some 6, .move (.t 15), none⟩])
def A_impl_common.r3 : ACode := (.region none [⟨some 16, .move (.t 1), none⟩,
⟨some 17, .move (.t 6), none⟩,
⟨some 0, .move (.t 16), none⟩,
⟨some 1, .move (.t 17), none⟩])
def A_impl_common.l0 : ACode := (.seq (.seq A_impl_common.r1 (.cond (.t 9) .skip (.exit 0))) (.block 1 (.seq A_impl_common.r2 A_impl_common.r3)))
def A_impl_common.r4 : ACode := (.region none [⟨some 18, .move (.t 0), none⟩,
⟨some 19, .move (.t 0), none⟩,
⟨some 20, .move (.t 0), none⟩,
⟨some 21, .len (.t 20), none⟩,
⟨some 22, .bin .sub (.t 21) (.c (.int .i64 1)), none⟩,
⟨some 23, .indexAddr none 1 (.t 19) (.t 22), none⟩,
⟨some 24, .load none (.t 23), none⟩,
⟨some 25, .call 84 [.t 24], none⟩,
⟨some 26, .buildSlice 1 1 [.int .i64 0] [(0, 1, .t 25)], none⟩,
⟨some 27, .call 75 [.t 18, .t 26], none⟩,
⟨some 4, .move (.t 27), none⟩])
def A_impl_common : AFunc := ⟨[.tmp 4], (.seq A_impl_common.r0 (.seq (.block 0 (.loop A_impl_common.l0)) (.seq A_impl_common.r4 .ret)))⟩
/-! spec_l06Common -/
def A_spec_l06Common.r0 : ACode := (.region none [⟨some 4, .move (.c (.slice none 0 0)), none⟩])
def A_spec_l06Common.r1 : ACode := (.region none [⟨some 7, .move (.t 1), none⟩,
⟨some 8, .len (.t 7), none⟩,
⟨some 9, .bin .gtr (.t 8) (.c (.int .i64 0)), none⟩])
def A_spec_l06Common.r2 : ACode := (.region none [⟨some 11, .move (.t 0), none⟩,
⟨some 12, .move (.t 1), none⟩,
⟨some 13, .call 108 [.t 11, .t 12], none⟩,
⟨some 10, .move (.t 13), none⟩,
⟨some 14, .extract (.t 10) 0, none⟩,
⟨some 15, .extract (.t 10) 1, none⟩,
⟨some 5, .move (.t 14), none⟩,
⟨some 6, .move (.t 15), none⟩])
def A_spec_l06Common.r3 : ACode := (.region none [⟨some 16, .move (.t 1), none⟩,
⟨some 0, .move (.t 16), none⟩])
def A_spec_l06Common.r4 : ACode := (.region none [⟨some 17, .move (.t 6), none⟩,
⟨some 1, .move (.t 17), none⟩])
def A_spec_l06Common.l0 : ACode := (.seq (.seq A_spec_l06Common.r1 (.cond (.t 9) .skip (.exit 0))) (.block 1 (.seq A_spec_l06Common.r2 (.seq A_spec_l06Common.r3 A_spec_l06Common.r4))))
def A_spec_l06Common.r5 : ACode := (.region none [⟨some 18, .move (.t 0), none⟩,
⟨some 19, .call 109 [.t 18], none⟩,
⟨some 4, .move (.t 19), none⟩])
def A_spec_l06Common : AFunc := ⟨[.tmp 4], (.seq A_spec_l06Common.r0 (.seq (.block 0 (.loop A_spec_l06Common.l0)) (.seq A_spec_l06Common.r5 .ret)))⟩
/-! spec_l06DrawValue -/
def A_spec_l06DrawValue.r0 : ACode := (.region none [⟨some 2, .move (.c (.int .i64 0)), none⟩])
def A_spec_l06DrawValue.r1 : ACode := (.region none [⟨some 3, .move (.t 0), none⟩,
⟨some 4, .move (.t 0), none⟩,
⟨some 5, .call 102 [.t 4, (.c (.int .i64 10007))], none⟩,
⟨some 6, .move (.t 0), none⟩,
⟨some 7, .call 102 [.t 6, (.c (.int .i64 10008))], none⟩,
⟨some 8, .buildSlice 1 7 [.int .i64 0] [(0, 1, (.c (.int .i64 0))), (1, 1, (.c (.int .i64 0))), (2, 1, (.c (.int .i64 1))), (3, 1, (.c (.int .i64 1))), (4, 1, (.c (.int .i64 10006))), (5, 1, .t 5), (6, 1, .t 7)], none⟩,
⟨some 9, .call 98 [.t 3, .t 8], none⟩,
⟨some 2, .move (.t 9), none⟩])
def A_spec_l06DrawValue : AFunc := ⟨[.tmp 2], (.seq A_spec_l06DrawValue.r0 (.seq A_spec_l06DrawValue.r1 .ret))⟩
/-! spec_l01In -/
def A_spec_l01In.r0 : ACode := (.region none [⟨some 6, .move (.c (.bool false)), none⟩])
def A_spec_l01In.r1 : ACode := (.region none [⟨some 7, .move (.t 0), none⟩,
⟨some 8, .move (.t 1), none⟩,
⟨some 9, .bin .geq (.t 7) (.t 8), none⟩,
⟨some 10, .move (.t 9), none⟩,
⟨some 11, .move (.t 0), some (10, true)⟩,
⟨some 12, .move (.t 2), some (10, true)⟩,
⟨some 13, .bin .leq (.t 11) (.t 12), some (10, true)⟩,
⟨some 14, .pick (.t 10) (.t 13) (.c (.bool false)), none⟩,
⟨some 6, .move (.t 14), none⟩])
def A_spec_l01In : AFunc := ⟨[.tmp 6], (.seq A_spec_l01In.r0 (.seq A_spec_l01In.r1 .ret))⟩
/-! spec_l06Value -/
def A_spec_l06Value.r0 : ACode := (.region none [⟨some 4, .move (.c (.int .i64 0)), none⟩])
def A_spec_l06Value.r1 : ACode := (.region none [⟨some 5, .move (.c (.int .i64 0)), none⟩])
def A_spec_l06Value.r2 : ACode := (.region none [⟨some 7, .move (.t 0), none⟩,
⟨some 8, .len (.t 7), none⟩,
⟨some 9, .bin .sub (.t 8) (.c (.int .i64 1)), none⟩,
⟨some 6, .move (.t 9), none⟩])
def A_spec_l06Value.r3 : ACode := (.region none [⟨some 10, .move (.t 6), none⟩,
⟨some 11, .bin .geq (.t 10) (.c (.int .i64 0)), none⟩])
def A_spec_l06Value.r5 : ACode := (.region none [⟨some 14, .move (.t 5), none⟩,
⟨some 15, .move (.t 1), none⟩,
⟨some 16, .bin .mul (.t 14) (.t 15), none⟩,
⟨some 17, .move (.t 0), none⟩,
⟨some 18, .move (.t 6), none⟩,
⟨some 19, .indexAddr none 1 (.t 17) (.t 18), none⟩,
⟨some 20, .load none (.t 19), none⟩,
⟨some 21, .bin .add (.t 16) (.t 20), none⟩,
⟨some 22, .call 103 [.t 21], none⟩,
⟨some 5, .move (.t 22), none⟩])
def A_spec_l06Value.r4 : ACode := (.region none [⟨some 12, .move (.t 6), none⟩,
⟨some 13, .bin .sub (.t 12) (.c (.int .i64 1)), none⟩,
⟨some 6, .move (.t 13), none⟩])
def A_spec_l06Value.l0 : ACode := (.seq (.seq A_spec_l06Value.r3 (.cond (.t 11) .skip (.exit 0))) (.seq (.block 1 A_spec_l06Value.r5) A_spec_l06Value.r4))
def A_spec_l06Value.r6 : ACode := (.region none [⟨some 23, .move (.t 5), none⟩,
⟨some 4, .move (.t 23), none⟩])
def A_spec_l06Value : AFunc := ⟨[.tmp 4], (.seq A_spec_l06Value.r0 (.seq A_spec_l06Value.r1 (.seq (.seq A_spec_l06Value.r2 (.block 0 (.loop A_spec_l06Value.l0))) (.seq A_spec_l06Value.r6 .ret))))⟩
/-! impl_polynomialCode -/
def A_impl_polynomialCode.r0 : ACode := (.region none [⟨some 4, .move (.c (.int .i64 0)), none⟩])
def A_impl_polynomialCode.r1 : ACode := (.region none [⟨some 7, .move (.t 0), none⟩,
⟨some 8, .call 2 [.t 7], none⟩,
⟨some 9, .not (.t 8), none⟩])
def A_impl_polynomialCode.r2 : ACode := (.region none [⟨some 4, .move (.c (.int .i64 1)), none⟩])
def A_impl_polynomialCode.r3 : ACode := (.region none [⟨some 10, .move (.t 1), none⟩,
⟨some 11, .len (.t 10), none⟩,
⟨some 12, .move (.c (.int .i64 0)), none⟩])
def A_impl_polynomialCode.r4 : ACode := (.region none [⟨some 13, .bin .lss (.t 12) (.t 11), none⟩])
def A_impl_polynomialCode.r5 : ACode := (.region none [⟨some 14, .indexAddr none 1 (.t 10) (.t 12), none⟩,
⟨some 15, .load none (.t 14), none⟩,
⟨some 6, .move (.t 15), none⟩])
def A_impl_polynomialCode.r6 : ACode := (.region none [⟨some 16, .move (.t 6), none⟩,
⟨some 17, .call 57 [.t 16], none⟩,
⟨some 18, .not (.t 17), none⟩])
def A_impl_polynomialCode.r7 : ACode := (.region none [⟨some 4, .move (.c (.int .i64 2)), none⟩])
def A_impl_polynomialCode.r8 : ACode := (.region none [⟨some 19, .bin .add (.t 12) (.c (.int .i64 1)), none⟩,
⟨some 12, .move (.t 19), none⟩])
def A_impl_polynomialCode.l0 : ACode := (.seq A_impl_polynomialCode.r4 (.seq (.cond (.t 13) .skip (.exit 0)) (.seq (.block 1 (.seq A_impl_polynomialCode.r5 (.seq A_impl_polynomialCode.r6 (.cond (.t 18) (.seq A_impl_polynomialCode.r7 .ret) .skip)))) A_impl_polynomialCode.r8)))
def A_impl_polynomialCode.r9 : ACode := (.region none [⟨some 20, .move (.t 0), none⟩,
⟨some 21, .len (.t 20), none⟩,
⟨some 22, .bin .lss (.t 21) (.c (.int .i64 2)), none⟩])
def A_impl_polynomialCode.r10 : ACode := (.region none [⟨some 4, .move (.c (.int .i64 2)), none⟩])
def A_impl_polynomialCode.r11 : ACode := (.region none [⟨some 4, .move (.c (.int .i64 0)), none⟩])
def A_impl_polynomialCode : AFunc := ⟨[.tmp 4], (.seq A_impl_polynomialCode.r0 (.seq (.seq A_impl_polynomialCode.r1 (.cond (.t 9) (.seq A_impl_polynomialCode.r2 .ret) .skip)) (.seq (.seq A_impl_polynomialCode.r3 (.block 0 (.loop A_impl_polynomialCode.l0))) (.seq (.seq A_impl_polynomialCode.r9 (.cond (.t 22) (.seq A_impl_polynomialCode.r10 .ret) .skip)) (.seq A_impl_polynomialCode.r11 .ret)))))⟩
/-! impl_multiplicities -/
def A_impl_multiplicities.r0 : ACode := (.region none [⟨some 4, .move (.c (.slice none 0 0)), none⟩])
def A_impl_multiplicities.r1 : ACode := (.region none [⟨some 10, .move (.t 0), none⟩,
⟨some 11, .move (.t 1), none⟩,
⟨some 12, .bin .sub (.c (.int .i64 10007)) (.t 11), none⟩,
⟨some 13, .buildSlice 1 1 [.int .i64 0] [(0, 1, .t 12)], none⟩,
⟨some 14, .call 73 [.t 10, .t 13], none⟩,
⟨some 0, .move (.t 14), none⟩])
def A_impl_multiplicities.r2 : ACode := (.region none [⟨some 15, .buildSlice 1 0 [.int .i64 0] [], none⟩,
⟨some 5, .move (.t 15), none⟩])
def A_impl_multiplicities.r3 : ACode := (.region none [⟨some 16, .move (.t 0), none⟩,
⟨some 17, .len (.t 16), none⟩,
⟨some 18, .bin .gtr (.t 17) (.c (.int .i64 1)), none⟩])
def A_impl_multiplicities.r4 : ACode := (.region none [⟨some 19, .move (.t 0), none⟩,
⟨some 20, .move (.t 0), none⟩,
⟨some 21, .call 63 [.t 20], none⟩,
⟨some 22, .call 87 [.t 19, .t 21], none⟩,
⟨some 6, .move (.t 22), none⟩])
def A_impl_multiplicities.r5 : ACode := (.region none [⟨some 23, .move (.t 5), none⟩,
⟨some 24, .move (.t 0), none⟩,
⟨some 25, .len (.t 24), none⟩,
⟨some 26, .move (.t 6), none⟩,
⟨some 27, .len (.t 26), none⟩,
⟨some 28, .bin .sub (.t 25) (.t 27), none⟩,
⟨some 29, .buildSlice 1 1 [.int .i64 0] [(0, 1, .t 28)], none⟩,
⟨some 30, .append 1 8 (.t 23) (.t 29), none⟩,
⟨some 5, .move (.t 30), none⟩])
def A_impl_multiplicities.r6 : ACode := (.region none [⟨some 31, .move (.t 6), none⟩,
⟨some 0, .move (.t 31), none⟩])
def A_impl_multiplicities.l0 : ACode := (.seq (.seq A_impl_multiplicities.r3 (.cond (.t 18) .skip (.exit 0))) (.block 1 (.seq A_impl_multiplicities.r4 (.seq A_impl_multiplicities.r5 A_impl_multiplicities.r6))))
def A_impl_multiplicities.r7 : ACode := (.region none [⟨some 32, .buildSlice 1 0 [.int .i64 0] [], none⟩,
⟨some 7, .move (.t 32), none⟩])
def A_impl_multiplicities.r8 : ACode := (.region none [⟨some 33, .move (.t 5), none⟩,
⟨some 34, .len (.t 33), none⟩,
⟨some 35, .bin .sub (.t 34) (.c (.int .i64 1)), none⟩,
⟨some 8, .move (.t 35), none⟩])
def A_impl_multiplicities.r9 : ACode := (.region none [⟨some 36, .move (.t 8), none⟩,
⟨some 37, .bin .geq (.t 36) (.c (.int .i64 0)), none⟩])
def A_impl_multiplicities.r11 : ACode := (.region none [⟨some 9, .move (.c (.int .i64 0)), none⟩])
def A_impl_multiplicities.r12 : ACode := (.region none [⟨some 40, .move (.t 8), none⟩,
⟨some 41, .bin .add (.t 40) (.c (.int .i64 1)), none⟩,
⟨some 42, .move (.t 5), none⟩,
⟨some 43, .len (.t 42), none⟩,
⟨some 44, .bin .lss (.t 41) (.t 43), none⟩])
def A_impl_multiplicities.r13 : ACode := (.region none [⟨some 45, .move (.t 5), none⟩,
⟨some 46, .move (.t 8), none⟩,
⟨some 47, .bin .add (.t 46) (.c (.int .i64 1)), none⟩,
⟨some 48, .indexAddr none 1 (.t 45) (.t 47), none⟩,
⟨some 49, .load none (.t 48), none⟩,
⟨some 9, .move (.t 49), none⟩])
def A_impl_multiplicities.r14 : ACode := (.region none [⟨some 50, .move (.t 5), none⟩,
⟨some 51, .move (.t 8), none⟩,
⟨some 52, .indexAddr none 1 (.t 50) (.t 51), none⟩,
⟨some 53, .load none (.t 52), none⟩,
⟨some 54, .move (.t 9), none⟩,
⟨some 55, .bin .sub (.t 53) (.t 54), none⟩,
⟨some 56, .move (.c (.int .i64 0)), none⟩])
def A_impl_multiplicities.r15 : ACode := (.region none [⟨some 57, .bin .lss (.t 56) (.t 55), none⟩])
def A_impl_multiplicities.r16 : ACode := (.region none [⟨some 58, .move (.t 7), none⟩,
⟨some 59, .move (.t 8), none⟩,
⟨some 60, .bin .add (.t 59) (.c (.int .i64 1)), none⟩,
⟨some 61, .buildSlice 1 1 [.int .i64 0] [(0, 1, .t 60)], none⟩,
⟨some 62, .append 1 8 (.t 58) (.t 61), none⟩,
⟨some 7, .move (.t 62), none⟩])
def A_impl_multiplicities.r17 : ACode := (.region none [⟨some 63, .bin .add (.t 56) (.c (.int .i64 1)), none⟩,
⟨some 56, .move (.t 63), none⟩])
def A_impl_multiplicities.l1 : ACode := (.seq A_impl_multiplicities.r15 (.seq (.cond (.t 57) .skip (.exit 4)) (.seq (.block 5 A_impl_multiplicities.r16) A_impl_multiplicities.r17)))
def A_impl_multiplicities.r10 : ACode := (.region none [⟨some 38, .move (.t 8), none⟩,
⟨some 39, .bin .sub (.t 38) (.c (.int .i64 1)), none⟩,
⟨some 8, .move (.t 39), none⟩])
def A_impl_multiplicities.l2 : ACode := (.seq (.seq A_impl_multiplicities.r9 (.cond (.t 37) .skip (.exit 2))) (.seq (.block 3 (.seq A_impl_multiplicities.r11 (.seq (.seq A_impl_multiplicities.r12 (.cond (.t 44) A_impl_multiplicities.r13 .skip)) (.seq A_impl_multiplicities.r14 (.block 4 (.loop A_impl_multiplicities.l1)))))) A_impl_multiplicities.r10))
def A_impl_multiplicities.r18 : ACode := (.region none [⟨some 64, .move (.t 7), none⟩,
⟨some 4, .move (.t 64), none⟩])
def A_impl_multiplicities : AFunc := ⟨[.tmp 4], (.seq A_impl_multiplicities.r0 (.seq A_impl_multiplicities.r1 (.seq A_impl_multiplicities.r2 (.seq (.block 0 (.loop A_impl_multiplicities.l0)) (.seq A_impl_multiplicities.r7 (.seq (.seq A_impl_multiplicities.r8 (.block 2 (.loop A_impl_multiplicities.l2))) (.seq A_impl_multiplicities.r18 .ret)))))))⟩
/-! spec_l06Code -/
def A_spec_l06Code.r0 : ACode := (.region none [⟨some 4, .move (.c (.int .i64 0)), none⟩])
def A_spec_l06Code.r1 : ACode := (.region none [⟨some 6, .move (.t 0), none⟩,
⟨some 7, .call 56 [.t 6], none⟩,
⟨some 8, .not (.t 7), none⟩])
def A_spec_l06Code.r2 : ACode := (.region none [⟨some 4, .move (.c (.int .i64 1)), none⟩])
def A_spec_l06Code.r3 : ACode := (.region none [⟨some 5, .move (.c (.int .i64 0)), none⟩])
def A_spec_l06Code.r4 : ACode := (.region none [⟨some 9, .move (.t 5), none⟩,
⟨some 10, .move (.t 1), none⟩,
⟨some 11, .len (.t 10), none⟩,
⟨some 12, .bin .lss (.t 9) (.t 11), none⟩])
def A_spec_l06Code.r6 : ACode := (.region none [⟨some 15, .move (.t 1), none⟩,
⟨some 16, .move (.t 5), none⟩,
⟨some 17, .indexAddr none 1 (.t 15) (.t 16), none⟩,
⟨some 18, .load none (.t 17), none⟩,
⟨some 19, .call 58 [.t 18, (.c (.int .i64 0)), (.c (.int .i64 10006))], none⟩,
⟨some 20, .not (.t 19), none⟩])
def A_spec_l06Code.r7 : ACode := (.region none [⟨some 4, .move (.c (.int .i64 2)), none⟩])
def A_spec_l06Code.r5 : ACode := (.region none [⟨some 13, .move (.t 5), none⟩,
⟨some 14, .bin .add (.t 13) (.c (.int .i64 1)), none⟩,
⟨some 5, .move (.t 14), none⟩])
def A_spec_l06Code.l0 : ACode := (.seq (.seq A_spec_l06Code.r4 (.cond (.t 12) .skip (.exit 0))) (.seq (.block 1 (.seq A_spec_l06Code.r6 (.cond (.t 20) (.seq A_spec_l06Code.r7 .ret) .skip))) A_spec_l06Code.r5))
def A_spec_l06Code.r8 : ACode := (.region none [⟨some 21, .move (.t 0), none⟩,
⟨some 22, .len (.t 21), none⟩,
⟨some 23, .bin .lss (.t 22) (.c (.int .i64 2)), none⟩])
def A_spec_l06Code.r9 : ACode := (.region none [⟨some 4, .move (.c (.int .i64 2)), none⟩])
def A_spec_l06Code.r10 : ACode := (.region none [⟨some 4, .move (.c (.int .i64 0)), none⟩])
def A_spec_l06Code : AFunc := ⟨[.tmp 4], (.seq A_spec_l06Code.r0 (.seq (.seq A_spec_l06Code.r1 (.cond (.t 8) (.seq A_spec_l06Code.r2 .ret) .skip)) (.seq (.seq A_spec_l06Code.r3 (.block 0 (.loop A_spec_l06Code.l0))) (.seq (.seq A_spec_l06Code.r8 (.cond (.t 23) (.seq A_spec_l06Code.r9 .ret) .skip)) (.seq A_spec_l06Code.r10 .ret)))))⟩
/-! spec_l06Multiplicities -/
def A_spec_l06Multiplicities.r0 : ACode := (.region none [⟨some 4, .move (.c (.slice none 0 0)), none⟩])
def A_spec_l06Multiplicities.r1 : ACode := (.region none [⟨some 12, .move (.t 0), none⟩,
⟨some 13, .move (.t 1), none⟩,
⟨some 14, .buildSlice 1 1 [.int .i64 0] [(0, 1, .t 13)], none⟩,
⟨some 15, .call 104 [.t 14], none⟩,
⟨some 16, .call 72 [.t 12, .t 15, (.c (.int .i64 (-1)))], none⟩,
⟨some 17, .buildSlice 1 0 [.int .i64 0] [], none⟩,
⟨some 5, .move (.t 16), none⟩,
⟨some 6, .move (.t 17), none⟩])
def A_spec_l06Multiplicities.r2 : ACode := (.region none [⟨some 18, .move (.t 5), none⟩,
⟨some 19, .len (.t 18), none⟩,
⟨some 20, .bin .gtr (.t 19) (.c (.int .i64 1)), none⟩])
def A_spec_l06Multiplicities.r3 : ACode := (.region none [⟨some 21, .move (.t 5), none⟩,
⟨some 22, .move (.t 5), none⟩,
⟨some 23, .call 62 [.t 22], none⟩,
⟨some 24, .call 86 [.t 21, .t 23], none⟩,
⟨some 7, .move (.t 24), none⟩])
def A_spec_l06Multiplicities.r4 : ACode := (.region none [⟨some 25, .move (.t 6), none⟩,
⟨some 26, .move (.t 5), none⟩,
⟨some 27, .len (.t 26), none⟩,
⟨some 28, .move (.t 7), none⟩,
⟨some 29, .len (.t 28), none⟩,
⟨some 30, .bin .sub (.t 27) (.t 29), none⟩,
⟨some 31, .buildSlice 1 1 [.int .i64 0] [(0, 1, .t 30)], none⟩,
⟨some 32, .append 1 8 (.t 25) (.t 31), none⟩,
⟨some 6, .move (.t 32), none⟩])
def A_spec_l06Multiplicities.r5 : ACode := (.region none [⟨some 33, .move (.t 7), none⟩,
⟨some 5, .move (.t 33), none⟩])
def A_spec_l06Multiplicities.l0 : ACode := (.seq (.seq A_spec_l06Multiplicities.r2 (.cond (.t 20) .skip (.exit 0))) (.block 1 (.seq A_spec_l06Multiplicities.r3 (.seq A_spec_l06Multiplicities.r4 A_spec_l06Multiplicities.r5))))
def A_spec_l06Multiplicities.r6 : ACode := (.region none [⟨some 34, .buildSlice 1 0 [.int .i64 0] [], none⟩,
⟨some 8, .move (.t 34), none⟩])
def A_spec_l06Multiplicities.r7 : ACode := (.region none [⟨some 35, .move (.t 6), none⟩,
⟨some 36, .len (.t 35), none⟩,
⟨some 9, .move (.t 36), none⟩])
def A_spec_l06Multiplicities.r8 : ACode := (.region none [⟨some 37, .move (.t 9), none⟩,
⟨some 38, .bin .gtr (.t 37) (.c (.int .i64 0)), none⟩])
def A_spec_l06Multiplicities.r10 : ACode := (.region none [⟨some 10, .move (.c (.int .i64 0)), none⟩])
def A_spec_l06Multiplicities.r11 : ACode := (.region none [⟨some 41, .move (.t 9), none⟩,
⟨some 42, .move (.t 6), none⟩,
⟨some 43, .len (.t 42), none⟩,
⟨some 44, .bin .lss (.t 41) (.t 43), none⟩])
def A_spec_l06Multiplicities.r12 : ACode := (.region none [⟨some 45, .move (.t 6), none⟩,
⟨some 46, .move (.t 9), none⟩,
⟨some 47, .indexAddr none 1 (.t 45) (.t 46), none⟩,
⟨some 48, .load none (.t 47), none⟩,
⟨some 10, .move (.t 48), none⟩])
def A_spec_l06Multiplicities.r13 : ACode := (.region none [⟨some 49, .move (.t 6), none⟩,
⟨some 50, .move (.t 9), none⟩,
⟨some 51, .bin .sub (.t 50) (.c (.int .i64 1)), none⟩,
⟨some 52, .indexAddr none 1 (.t 49) (.t 51), none⟩,
⟨some 53, .load none (.t 52), none⟩,
⟨some 54, .move (.t 10), none⟩,
⟨some 55, .bin .sub (.t 53) (.t 54), none⟩,
⟨some 11, .move (.t 55), none⟩])
def A_spec_l06Multiplicities.r14 : ACode := (.region none [⟨some 56, .move (.t 11), none⟩,
⟨some 57, .bin .gtr (.t 56) (.c (.int .i64 0)), none⟩])
def A_spec_l06Multiplicities.r16 : ACode := (.region none [⟨some 60, .move (.t 8), none⟩,
⟨some 61, .move (.t 9), none⟩,
⟨some 62, .buildSlice 1 1 [.int .i64 0] [(0, 1, .t 61)], none⟩,
⟨some 63, .append 1 8 (.t 60) (.t 62), none⟩,
⟨some 8, .move (.t 63), none⟩])
def A_spec_l06Multiplicities.r15 : ACode := (.region none [⟨some 58, .move (.t 11), none⟩,
⟨some 59, .bin .sub (.t 58) (.c (.int .i64 1)), none⟩,
⟨some 11, .move (.t 59), none⟩])
def A_spec_l06Multiplicities.l1 : ACode := (.seq (.seq A_spec_l06Multiplicities.r14 (.cond (.t 57) .skip (.exit 4))) (.seq (.block 5 A_spec_l06Multiplicities.r16) A_spec_l06Multiplicities.r15))
def A_spec_l06Multiplicities.r9 : ACode := (.region none [⟨some 39, .move (.t 9), none⟩,
⟨some 40, .bin .sub (.t 39) (.c (.int .i64 1)), none⟩,
⟨some 9, .move (.t 40), none⟩])
def A_spec_l06Multiplicities.l2 : ACode := (.seq (.seq A_spec_l06Multiplicities.r8 (.cond (.t 38) .skip (.exit 2))) (.seq (.block 3 (.seq A_spec_l06Multiplicities.r10 (.seq (.seq A_spec_l06Multiplicities.r11 (.cond (.t 44) A_spec_l06Multiplicities.r12 .skip)) (.seq A_spec_l06Multiplicities.r13 (.block 4 (.loop A_spec_l06Multiplicities.l1)))))) A_spec_l06Multiplicities.r9))
def A_spec_l06Multiplicities.r17 : ACode := (.region none [⟨some 64, .move (.t 8), none⟩,
⟨some 4, .move (.t 64), none⟩])
def A_spec_l06Multiplicities : AFunc := ⟨[.tmp 4], (.seq A_spec_l06Multiplicities.r0 (.seq A_spec_l06Multiplicities.r1 (.seq (.block 0 (.loop A_spec_l06Multiplicities.l0)) (.seq A_spec_l06Multiplicities.r6 (.seq (.seq A_spec_l06Multiplicities.r7 (.block 2 (.loop A_spec_l06Multiplicities.l2))) (.seq A_spec_l06Multiplicities.r17 .ret))))))⟩
/-! spec_l01Next -/
def A_spec_l01Next.r0 : ACode := (.region none [⟨some 4, .move (.c (.int .i64 0)), none⟩])
def A_spec_l01Next.r1 : ACode := (.region none [⟨some 6, .move (.t 1), none⟩,
⟨some 7, .bin .lss (.t 6) (.c (.int .i64 1)), none⟩])
def A_spec_l01Next.r2 : ACode := (.region none [⟨some 4, .move (.c (.int .i64 0)), none⟩])
def A_spec_l01Next.r3 : ACode := (.region none [⟨some 8, .move (.t 0), none⟩,
⟨some 9, .move (.t 0), none⟩,
⟨some 10, .nilCheck (.t 9), none⟩,
⟨some 11, .fieldAddr 2 (.t 10), none⟩,
⟨some 12, .load none (.t 11), none⟩,
⟨some 13, .bin .mul (.t 12) (.c (.int .u64 6364136223846793005)), none⟩,
⟨some 14, .bin .add (.t 13) (.c (.int .u64 1442695040888963407)), none⟩,
⟨some 15, .nilCheck (.t 8), none⟩,
⟨some 16, .fieldAddr 2 (.t 15), none⟩,
⟨none, .store 1 (.t 16) (.t 14), none⟩])
def A_spec_l01Next.r4 : ACode := (.region none [⟨some 17, .move (.t 0), none⟩,
⟨some 18, .nilCheck (.t 17), none⟩,
⟨some 19, .fieldAddr 2 (.t 18), none⟩,
⟨some 20, .load none (.t 19), none⟩,
⟨some 21, .bin .shr (.t 20) (.c (.int .u64 33)), none⟩,
⟨some 22, .bin .and (.t 21) (.c (.int .u64 16777215)), none⟩,
⟨some 23, .conv .i64 (.t 22), none⟩,
⟨some 5, .move (.t 23), none⟩])
def A_spec_l01Next.r5 : ACode := (.region (some 10) [⟨some 24, .move (.t 0), none⟩,
⟨some 25, .nilCheck (.t 24), none⟩,
⟨some 26, .fieldAddr 1 (.t 25), none⟩,
⟨some 27, .load none (.t 26), none⟩,
⟨some 28, .move (.t 0), none⟩,
⟨some 29, .nilCheck (.t 28), none⟩,
⟨some 30, .fieldAddr 0 (.t 29), none⟩,
⟨some 31, .load none (.t 30), none⟩,
⟨some 32, .len (.t 31), none⟩,
⟨some 33, .bin .lss (.t 27) (.t 32), none⟩])
def A_spec_l01Next.r6 : ACode := (.region (some 14) [⟨some 34, .move (.t 5), none⟩,
⟨some 35, .move (.t 0), none⟩,
⟨some 36, .nilCheck (.t 35), none⟩,
⟨some 37, .fieldAddr 0 (.t 36), none⟩,
⟨some 38, .load none (.t 37), none⟩,
⟨some 39, .move (.t 0), none⟩,
⟨some 40, .nilCheck (.t 39), none⟩,
⟨some 41, .fieldAddr 1 (.t 40), none⟩,
⟨some 42, .load none (.t 41), none⟩,
⟨some 43, .indexAddr none 1 (.t 38) (.t 42), none⟩,
⟨some 44, .load none (.t 43), none⟩,
⟨some 45, .conv .i64 (.t 44), none⟩,
⟨some 46, .bin .add (.t 34) (.t 45), none⟩,
⟨some 5, .move (.t 46), none⟩])
def A_spec_l01Next.r7 : ACode := (.region none [⟨some 47, .move (.t 0), none⟩,
⟨some 48, .move (.t 0), none⟩,
⟨some 49, .nilCheck (.t 48), none⟩,
⟨some 50, .fieldAddr 1 (.t 49), none⟩,
⟨some 51, .load none (.t 50), none⟩,
⟨some 52, .bin .add (.t 51) (.c (.int .i64 1)), none⟩,
⟨some 53, .nilCheck (.t 47), none⟩,
⟨some 54, .fieldAddr 1 (.t 53), none⟩,
⟨none, .store 1 (.t 54) (.t 52), none⟩])
def A_spec_l01Next.r8 : ACode := (.region none [⟨some 55, .move (.t 5), none⟩,
⟨some 56, .move (.t 1), none⟩,
⟨some 57, .bin .rem (.t 55) (.t 56), none⟩,
⟨some 4, .move (.t 57), none⟩])
def A_spec_l01Next : AFunc := ⟨[.tmp 4], (.seq A_spec_l01Next.r0 (.seq (.seq A_spec_l01Next.r1 (.cond (.t 7) (.seq A_spec_l01Next.r2 .ret) .skip)) (.seq A_spec_l01Next.r3 (.seq A_spec_l01Next.r4 (.seq (.seq A_spec_l01Next.r5 (.cond (.t 33) (.seq A_spec_l01Next.r6 A_spec_l01Next.r7) .skip)) (.seq A_spec_l01Next.r8 .ret))))))⟩
/-! impl_shabatCode -/
def A_impl_shabatCode.r0 : ACode := (.region none [⟨some 6, .move (.c (.int .i64 0)), none⟩])
def A_impl_shabatCode.r1 : ACode := (.region none [⟨some 8, .move (.t 0), none⟩,
⟨some 9, .move (.t 1), none⟩,
⟨some 10, .move (.t 2), none⟩,
⟨some 11, .buildSlice 1 2 [.int .i64 0] [(0, 1, .t 9), (1, 1, .t 10)], none⟩,
⟨some 12, .call 90 [.t 8, .t 11], none⟩,
⟨some 7, .move (.t 12), none⟩])
def A_impl_shabatCode.r2 : ACode := (.region none [⟨some 13, .move (.t 7), none⟩,
⟨some 14, .bin .neq (.t 13) (.c (.int .i64 0)), none⟩])
def A_impl_shabatCode.r3 : ACode := (.region none [⟨some 15, .move (.t 7), none⟩,
⟨some 6, .move (.t 15), none⟩])
def A_impl_shabatCode.r4 : ACode := (.region none [⟨some 16, .move (.t 1), none⟩,
⟨some 17, .move (.t 2), none⟩,
⟨some 18, .bin .eql (.t 16) (.t 17), none⟩])
def A_impl_shabatCode.r5 : ACode := (.region none [⟨some 6, .move (.c (.int .i64 2)), none⟩])
def A_impl_shabatCode.r6 : ACode := (.region none [⟨some 6, .move (.c (.int .i64 0)), none⟩])
def A_impl_shabatCode : AFunc := ⟨[.tmp 6], (.seq A_impl_shabatCode.r0 (.seq (.seq A_impl_shabatCode.r1 (.seq A_impl_shabatCode.r2 (.cond (.t 14) (.seq A_impl_shabatCode.r3 .ret) .skip))) (.seq (.seq A_impl_shabatCode.r4 (.cond (.t 18) (.seq A_impl_shabatCode.r5 .ret) .skip)) (.seq A_impl_shabatCode.r6 .ret))))⟩
/-! impl_shabat -/
def A_impl_shabat.r0 : ACode := (.region none [⟨some 6, .move (.c (.slice none 0 0)), none⟩,
⟨some 7, .move (.c (.bool false)), none⟩])
def A_impl_shabat.r1 : ACode := (.region none [⟨some 10, .move (.t 0), none⟩,
⟨some 11, .move (.t 1), none⟩,
⟨some 12, .call 91 [.t 10, .t 11], none⟩,
⟨some 13, .move (.t 0), none⟩,
⟨some 14, .move (.t 2), none⟩,
⟨some 15, .call 91 [.t 13, .t 14], none⟩,
⟨some 8, .move (.t 12), none⟩,
⟨some 9, .move (.t 15), none⟩])
def A_impl_shabat.r2 : ACode := (.region none [⟨some 16, .move (.t 8), none⟩,
⟨some 17, .move (.t 9), none⟩,
⟨some 18, .move (.t 0), none⟩,
⟨some 19, .len (.t 18), none⟩,
⟨some 20, .bin .sub (.t 19) (.c (.int .i64 1)), none⟩,
⟨some 21, .buildSlice 1 1 [.int .i64 0] [(0, 1, .t 20)], none⟩,
⟨some 22, .buildSlice 1 3 [.slice none 0 0] [(0, 1, .t 16), (1, 1, .t 17), (2, 1, .t 21)], none⟩,
⟨some 23, .move (.t 8), none⟩,
⟨some 24, .len (.t 23), none⟩,
⟨some 25, .move (.t 9), none⟩,
⟨some 26, .len (.t 25), none⟩,
⟨some 27, .bin .add (.t 24) (.t 26), none⟩,
⟨some 28, .move (.t 0), none⟩,
⟨some 29, .len (.t 28), none⟩,
⟨some 30, .bin .eql (.t 27) (.t 29), none⟩,
⟨some 6, .move (.t 22), none⟩,
⟨some 7, .move (.t 30), none⟩])
def A_impl_shabat : AFunc := ⟨[.tmp 6, .tmp 7], (.seq A_impl_shabat.r0 (.seq A_impl_shabat.r1 (.seq A_impl_shabat.r2 .ret)))⟩
/-! spec_l06Two -/
def A_spec_l06Two.r0 : ACode := (.region none [⟨some 6, .move (.c (.int .i64 0)), none⟩])
def A_spec_l06Two.r1 : ACode := (.region none [⟨some 8, .move (.t 0), none⟩,
⟨some 9, .move (.t 1), none⟩,
⟨some 10, .move (.t 2), none⟩,
⟨some 11, .buildSlice 1 2 [.int .i64 0] [(0, 1, .t 9), (1, 1, .t 10)], none⟩,
⟨some 12, .call 88 [.t 8, .t 11], none⟩,
⟨some 7, .move (.t 12), none⟩])
def A_spec_l06Two.r2 : ACode := (.region none [⟨some 13, .move (.t 7), none⟩,
⟨some 14, .bin .eql (.t 13) (.c (.int .i64 0)), none⟩,
⟨some 15, .move (.t 14), none⟩,
⟨some 16, .move (.t 1), some (15, true)⟩,
⟨some 17, .move (.t 2), some (15, true)⟩,
⟨some 18, .bin .eql (.t 16) (.t 17), some (15, true)⟩,
⟨some 19, .pick (.t 15) (.t 18) (.c (.bool false)), none⟩])
def A_spec_l06Two.r3 : ACode := (.region none [⟨some 7, .move (.c (.int .i64 2)), none⟩])
def A_spec_l06Two.r4 : ACode := (.region none [⟨some 20, .move (.t 7), none⟩,
⟨some 6, .move (.t 20), none⟩])
def A_spec_l06Two : AFunc := ⟨[.tmp 6], (.seq A_spec_l06Two.r0 (.seq A_spec_l06Two.r1 (.seq (.seq A_spec_l06Two.r2 (.cond (.t 19) A_spec_l06Two.r3 .skip)) (.seq A_spec_l06Two.r4 .ret))))⟩
/-! spec_l06Shabat -/
def A_spec_l06Shabat.r0 : ACode := (.region none [⟨some 6, .move (.c (.bool false)), none⟩])
def A_spec_l06Shabat.r1 : ACode := (.region none [⟨some 7, .move (.t 0), none⟩,
⟨some 8, .move (.t 1), none⟩,
⟨some 9, .call 89 [.t 7, .t 8], none⟩,
⟨some 10, .len (.t 9), none⟩,
⟨some 11, .move (.t 0), none⟩,
⟨some 12, .move (.t 2), none⟩,
⟨some 13, .call 89 [.t 11, .t 12], none⟩,
⟨some 14, .len (.t 13), none⟩,
⟨some 15, .bin .add (.t 10) (.t 14), none⟩,
⟨some 16, .move (.t 0), none⟩,
⟨some 17, .len (.t 16), none⟩,
⟨some 18, .bin .eql (.t 15) (.t 17), none⟩,
⟨some 6, .move (.t 18), none⟩])
def A_spec_l06Shabat : AFunc := ⟨[.tmp 6], (.seq A_spec_l06Shabat.r0 (.seq A_spec_l06Shabat.r1 .ret))⟩
/-! impl_isPower -/
def A_impl_isPower.r0 : ACode := (.region none [⟨some 2, .move (.c (.bool false)), none⟩])
def A_impl_isPower.r1 : ACode := (.region none [⟨some 3, .move (.t 0), none⟩,
⟨some 4, .bin .geq (.t 3) (.c (.int .i64 1)), none⟩,
⟨some 5, .move (.t 4), none⟩,
⟨some 6, .move (.t 0), some (5, true)⟩,
⟨some 7, .bin .leq (.t 6) (.c (.int .i64 16)), some (5, true)⟩,
⟨some 8, .pick (.t 5) (.t 7) (.c (.bool false)), none⟩,
⟨some 2, .move (.t 8), none⟩])
def A_impl_isPower : AFunc := ⟨[.tmp 2], (.seq A_impl_isPower.r0 (.seq A_impl_isPower.r1 .ret))⟩
/-! spec_l06Monomial -/
def A_spec_l06Monomial.r0 : ACode := (.region none [⟨some 4, .move (.c (.slice none 0 0)), none⟩])
def A_spec_l06Monomial.r1 : ACode := (.region none [⟨some 5, .move (.t 1), none⟩,
⟨some 6, .makeSlice 1 8 [.int .i64 0] (.t 5) (.t 5), none⟩,
⟨some 7, .move (.t 0), none⟩,
⟨some 8, .buildSlice 1 1 [.int .i64 0] [(0, 1, .t 7)], none⟩,
⟨some 9, .append 1 8 (.t 6) (.t 8), none⟩,
⟨some 4, .move (.t 9), none⟩])
def A_spec_l06Monomial : AFunc := ⟨[.tmp 4], (.seq A_spec_l06Monomial.r0 (.seq A_spec_l06Monomial.r1 .ret))⟩
/-! spec_l06Chain -/
def A_spec_l06Chain.r0 : ACode := (.region none [⟨some 2, .move (.c (.slice none 0 0)), none⟩])
def A_spec_l06Chain.r1 : ACode := (.region none [⟨some 7, .buildSlice 1 1 [.int .i64 0] [(0, 1, (.c (.int .i64 1)))], none⟩,
⟨some 8, .buildSlice 1 2 [.int .i64 0] [(0, 1, (.c (.int .i64 0))), (1, 1, (.c (.int .i64 1)))], none⟩,
⟨some 3, .move (.t 7), none⟩,
⟨some 4, .move (.t 8), none⟩])
def A_spec_l06Chain.r2 : ACode := (.region none [⟨some 5, .move (.c (.int .i64 1)), none⟩])
def A_spec_l06Chain.r3 : ACode := (.region none [⟨some 9, .move (.t 5), none⟩,
⟨some 10, .move (.t 0), none⟩,
⟨some 11, .bin .lss (.t 9) (.t 10), none⟩])
def A_spec_l06Chain.r5 : ACode := (.region none [⟨some 14, .buildSlice 1 2 [.int .i64 0] [(0, 1, (.c (.int .i64 0))), (1, 1, (.c (.int .i64 2)))], none⟩,
⟨some 15, .move (.t 4), none⟩,
⟨some 16, .call 74 [.t 14, .t 15], none⟩,
⟨some 17, .move (.t 3), none⟩,
⟨some 18, .call 72 [.t 16, .t 17, (.c (.int .i64 (-1)))], none⟩,
⟨some 6, .move (.t 18), none⟩])
def A_spec_l06Chain.r6 : ACode := (.region none [⟨some 19, .move (.t 4), none⟩,
⟨some 3, .move (.t 19), none⟩])
def A_spec_l06Chain.r7 : ACode := (.region none [⟨some 20, .move (.t 6), none⟩,
⟨some 4, .move (.t 20), none⟩])
def A_spec_l06Chain.r4 : ACode := (.region none [⟨some 12, .move (.t 5), none⟩,
⟨some 13, .bin .add (.t 12) (.c (.int .i64 1)), none⟩,
⟨some 5, .move (.t 13), none⟩])
def A_spec_l06Chain.l0 : ACode := (.seq (.seq A_spec_l06Chain.r3 (.cond (.t 11) .skip (.exit 0))) (.seq (.block 1 (.seq A_spec_l06Chain.r5 (.seq A_spec_l06Chain.r6 A_spec_l06Chain.r7))) A_spec_l06Chain.r4))
def A_spec_l06Chain.r8 : ACode := (.region none [⟨some 21, .move (.t 4), none⟩,
⟨some 2, .move (.t 21), none⟩])
def A_spec_l06Chain : AFunc := ⟨[.tmp 2], (.seq A_spec_l06Chain.r0 (.seq A_spec_l06Chain.r1 (.seq (.seq A_spec_l06Chain.r2 (.block 0 (.loop A_spec_l06Chain.l0))) (.seq A_spec_l06Chain.r8 .ret))))⟩
/-! impl_power -/
def A_impl_power.r0 : ACode := (.region none [⟨some 4, .move (.c (.int .i64 0)), none⟩])
def A_impl_power.r1 : ACode := (.region none [⟨some 5, .move (.c (.int .i64 1)), none⟩])
def A_impl_power.r2 : ACode := (.region none [⟨some 6, .move (.t 1), none⟩,
⟨some 7, .bin .gtr (.t 6) (.c (.int .i64 0)), none⟩])
def A_impl_power.r4 : ACode := (.region none [⟨some 10, .move (.t 5), none⟩,
⟨some 11, .move (.t 0), none⟩,
⟨some 12, .bin .mul (.t 10) (.t 11), none⟩,
⟨some 13, .bin .rem (.t 12) (.c (.int .i64 10007)), none⟩,
⟨some 5, .move (.t 13), none⟩])
def A_impl_power.r3 : ACode := (.region none [⟨some 8, .move (.t 1), none⟩,
⟨some 9, .bin .sub (.t 8) (.c (.int .i64 1)), none⟩,
⟨some 1, .move (.t 9), none⟩])
def A_impl_power.l0 : ACode := (.seq (.seq A_impl_power.r2 (.cond (.t 7) .skip (.exit 0))) (.seq (.block 1 A_impl_power.r4) A_impl_power.r3))
def A_impl_power.r5 : ACode := (.region none [⟨some 14, .move (.t 5), none⟩,
⟨some 4, .move (.t 14), none⟩])
def A_impl_power : AFunc := ⟨[.tmp 4], (.seq A_impl_power.r0 (.seq A_impl_power.r1 (.seq (.block 0 (.loop A_impl_power.l0)) (.seq A_impl_power.r5 .ret))))⟩
/-! impl_inverse -/
def A_impl_inverse.r0 : ACode := (.region none [⟨some 2, .move (.c (.int .i64 0)), none⟩])
def A_impl_inverse.r1 : ACode := (.region none [⟨some 6, .move (.t 0), none⟩,
⟨some 3, .move (.c (.int .i64 1)), none⟩,
⟨some 4, .move (.t 6), none⟩])
def A_impl_inverse.r2 : ACode := (.region none [⟨some 5, .move (.c (.int .i64 10005)), none⟩])
def A_impl_inverse.r3 : ACode := (.region none [⟨some 7, .move (.t 5), none⟩,
⟨some 8, .bin .gtr (.t 7) (.c (.int .i64 0)), none⟩])
def A_impl_inverse.r5 : ACode := (.region none [⟨some 11, .move (.t 5), none⟩,
⟨some 12, .bin .rem (.t 11) (.c (.int .i64 2)), none⟩,
⟨some 13, .bin .eql (.t 12) (.c (.int .i64 1)), none⟩])
def A_impl_inverse.r6 : ACode := (.region none [⟨some 14, .move (.t 3), none⟩,
⟨some 15, .move (.t 4), none⟩,
⟨some 16, .bin .mul (.t 14) (.t 15), none⟩,
⟨some 17, .bin .rem (.t 16) (.c (.int .i64 10007)), none⟩,
⟨some 3, .move (.t 17), none⟩])
def A_impl_inverse.r7 : ACode := (.region none [⟨some 18, .move (.t 4), none⟩,
⟨some 19, .move (.t 4), none⟩,
⟨some 20, .bin .mul (.t 18) (.t 19), none⟩,
⟨some 21, .bin .rem (.t 20) (.c (.int .i64 10007)), none⟩,
⟨some 4, .move (.t 21), none⟩])
def A_impl_inverse.r4 : ACode := (.region none [⟨some 9, .move (.t 5), none⟩,
⟨some 10, .bin .quo (.t 9) (.c (.int .i64 2)), none⟩,
⟨some 5, .move (.t 10), none⟩])
def A_impl_inverse.l0 : ACode := (.seq (.seq A_impl_inverse.r3 (.cond (.t 8) .skip (.exit 0))) (.seq (.block 1 (.seq (.seq A_impl_inverse.r5 (.cond (.t 13) A_impl_inverse.r6 .skip)) A_impl_inverse.r7)) A_impl_inverse.r4))
def A_impl_inverse.r8 : ACode := (.region none [⟨some 22, .move (.t 3), none⟩,
⟨some 2, .move (.t 22), none⟩])
def A_impl_inverse : AFunc := ⟨[.tmp 2], (.seq A_impl_inverse.r0 (.seq A_impl_inverse.r1 (.seq (.seq A_impl_inverse.r2 (.block 0 (.loop A_impl_inverse.l0))) (.seq A_impl_inverse.r8 .ret))))⟩
/-! spec_l06Fork -/
def A_spec_l06Fork.r0 : ACode := (.region none [⟨some 4, .move (.c (.slice none 0 0)), none⟩])
def A_spec_l06Fork.r1 : ACode := (.region none [⟨some 8, .move (.t 0), none⟩,
⟨some 9, .call 59 [(.c (.int .i64 1)), .t 8], none⟩,
⟨some 5, .move (.t 9), none⟩])
def A_spec_l06Fork.r2 : ACode := (.region none [⟨some 6, .move (.c (.int .i64 0)), none⟩])
def A_spec_l06Fork.r3 : ACode := (.region none [⟨some 10, .move (.t 6), none⟩,
⟨some 11, .move (.t 1), none⟩,
⟨some 12, .bin .lss (.t 10) (.t 11), none⟩])
def A_spec_l06Fork.r5 : ACode := (.region none [⟨some 15, .move (.t 5), none⟩,
⟨some 16, .buildSlice 1 2 [.int .i64 0] [(0, 1, (.c (.int .i64 1))), (1, 1, (.c (.int .i64 10006)))], none⟩,
⟨some 17, .call 74 [.t 15, .t 16], none⟩,
⟨some 5, .move (.t 17), none⟩])
def A_spec_l06Fork.r4 : ACode := (.region none [⟨some 13, .move (.t 6), none⟩,
⟨some 14, .bin .add (.t 13) (.c (.int .i64 1)), none⟩,
⟨some 6, .move (.t 14), none⟩])
def A_spec_l06Fork.l0 : ACode := (.seq (.seq A_spec_l06Fork.r3 (.cond (.t 12) .skip (.exit 0))) (.seq (.block 1 A_spec_l06Fork.r5) A_spec_l06Fork.r4))
def A_spec_l06Fork.r6 : ACode := (.region none [⟨some 18, .move (.t 0), none⟩,
⟨some 19, .move (.t 0), none⟩,
⟨some 20, .move (.t 1), none⟩,
⟨some 21, .bin .add (.t 19) (.t 20), none⟩,
⟨some 22, .call 107 [.t 21], none⟩,
⟨some 23, .bin .mul (.t 18) (.t 22), none⟩,
⟨some 24, .call 103 [.t 23], none⟩,
⟨some 7, .move (.t 24), none⟩])
def A_spec_l06Fork.r7 : ACode := (.region none [⟨some 25, .move (.t 5), none⟩,
⟨some 26, .move (.t 5), none⟩,
⟨some 27, .move (.t 7), none⟩,
⟨some 28, .call 61 [.t 26, .t 27], none⟩,
⟨some 29, .call 107 [.t 28], none⟩,
⟨some 30, .call 72 [(.c (.slice none 0 0)), .t 25, .t 29], none⟩,
⟨some 4, .move (.t 30), none⟩])
def A_spec_l06Fork : AFunc := ⟨[.tmp 4], (.seq A_spec_l06Fork.r0 (.seq A_spec_l06Fork.r1 (.seq (.seq A_spec_l06Fork.r2 (.block 0 (.loop A_spec_l06Fork.l0))) (.seq A_spec_l06Fork.r6 (.seq A_spec_l06Fork.r7 .ret)))))⟩
/-! impl_sumOfPassport -/
def A_impl_sumOfPassport.r0 : ACode := (.region none [⟨some 2, .move (.c (.int .i64 0)), none⟩])
def A_impl_sumOfPassport.r1 : ACode := (.region none [⟨some 4, .move (.t 0), none⟩,
⟨some 5, .len (.t 4), none⟩,
⟨some 6, .bin .neq (.t 5) (.c (.int .i64 3)), none⟩])
def A_impl_sumOfPassport.r2 : ACode := (.region none [⟨some 2, .move (.c (.int .i64 0)), none⟩])
def A_impl_sumOfPassport.r3 : ACode := (.region none [⟨some 7, .move (.t 0), none⟩,
⟨some 8, .indexAddr none 1 (.t 7) (.c (.int .i64 0)), none⟩,
⟨some 9, .load none (.t 8), none⟩,
⟨some 10, .call 68 [.t 9], none⟩,
⟨some 3, .move (.t 10), none⟩])
def A_impl_sumOfPassport.r4 : ACode := (.region none [⟨some 11, .move (.t 0), none⟩,
⟨some 12, .indexAddr none 1 (.t 11) (.c (.int .i64 1)), none⟩,
⟨some 13, .load none (.t 12), none⟩,
⟨some 14, .call 68 [.t 13], none⟩,
⟨some 15, .move (.t 3), none⟩,
⟨some 16, .bin .neq (.t 14) (.t 15), none⟩,
⟨some 17, .move (.t 16), none⟩,
⟨some 18, .move (.t 0), some (17, false)⟩,
⟨some 19, .indexAddr none 1 (.t 18) (.c (.int .i64 2)), some (17, false)⟩,
⟨some 20, .load none (.t 19), some (17, false)⟩,
⟨some 21, .call 68 [.t 20], some (17, false)⟩,
⟨some 22, .move (.t 3), some (17, false)⟩,
⟨some 23, .bin .neq (.t 21) (.t 22), some (17, false)⟩,
⟨some 24, .pick (.t 17) (.c (.bool true)) (.t 23), none⟩])
def A_impl_sumOfPassport.r5 : ACode := (.region none [⟨some 2, .move (.c (.int .i64 0)), none⟩])
def A_impl_sumOfPassport.r6 : ACode := (.region none [⟨some 25, .move (.t 3), none⟩,
⟨some 2, .move (.t 25), none⟩])
def A_impl_sumOfPassport : AFunc := ⟨[.tmp 2], (.seq A_impl_sumOfPassport.r0 (.seq (.seq A_impl_sumOfPassport.r1 (.cond (.t 6) (.seq A_impl_sumOfPassport.r2 .ret) .skip)) (.seq A_impl_sumOfPassport.r3 (.seq (.seq A_impl_sumOfPassport.r4 (.cond (.t 24) (.seq A_impl_sumOfPassport.r5 .ret) .skip)) (.seq A_impl_sumOfPassport.r6 .ret)))))⟩
/-! impl_eulerOf -/
def A_impl_eulerOf.r0 : ACode := (.region none [⟨some 4, .move (.c (.int .i64 0)), none⟩])
def A_impl_eulerOf.r1 : ACode := (.region (some 17) [⟨some 5, .move (.t 0), none⟩,
⟨some 6, .indexAddr none 1 (.t 5) (.c (.int .i64 0)), none⟩,
⟨some 7, .load none (.t 6), none⟩,
⟨some 8, .len (.t 7), none⟩,
⟨some 9, .move (.t 0), none⟩,
⟨some 10, .indexAddr none 1 (.t 9) (.c (.int .i64 1)), none⟩,
⟨some 11, .load none (.t 10), none⟩,
⟨some 12, .len (.t 11), none⟩,
⟨some 13, .bin .add (.t 8) (.t 12), none⟩,
⟨some 14, .move (.t 0), none⟩,
⟨some 15, .indexAddr none 1 (.t 14) (.c (.int .i64 2)), none⟩,
⟨some 16, .load none (.t 15), none⟩,
⟨some 17, .len (.t 16), none⟩,
⟨some 18, .bin .add (.t 13) (.t 17), none⟩,
⟨some 19, .move (.t 1), none⟩,
⟨some 20, .bin .sub (.t 18) (.t 19), none⟩,
⟨some 4, .move (.t 20), none⟩])
def A_impl_eulerOf : AFunc := ⟨[.tmp 4], (.seq A_impl_eulerOf.r0 (.seq A_impl_eulerOf.r1 .ret))⟩
/-! impl_areTypes -/
def A_impl_areTypes.r0 : ACode := (.region none [⟨some 6, .move (.c (.bool false)), none⟩])
def A_impl_areTypes.r1 : ACode := (.region none [⟨some 8, .move (.t 0), none⟩,
⟨some 9, .call 68 [.t 8], none⟩,
⟨some 7, .move (.t 9), none⟩])
def A_impl_areTypes.r2 : ACode := (.region none [⟨some 10, .move (.t 7), none⟩,
⟨some 11, .bin .gtr (.t 10) (.c (.int .i64 0)), none⟩,
⟨some 12, .move (.t 11), none⟩,
⟨some 13, .move (.t 7), some (12, true)⟩,
⟨some 14, .move (.t 2), some (12, true)⟩,
⟨some 15, .bin .leq (.t 13) (.t 14), some (12, true)⟩,
⟨some 16, .pick (.t 12) (.t 15) (.c (.bool false)), none⟩,
⟨some 17, .move (.t 16), none⟩,
⟨some 18, .move (.t 1), some (17, true)⟩,
⟨some 19, .call 68 [.t 18], some (17, true)⟩,
⟨some 20, .move (.t 7), some (17, true)⟩,
⟨some 21, .bin .eql (.t 19) (.t 20), some (17, true)⟩,
⟨some 22, .pick (.t 17) (.t 21) (.c (.bool false)), none⟩,
⟨some 6, .move (.t 22), none⟩])
def A_impl_areTypes : AFunc := ⟨[.tmp 6], (.seq A_impl_areTypes.r0 (.seq A_impl_areTypes.r1 (.seq A_impl_areTypes.r2 .ret)))⟩
/-! impl_sumOfType -/
def A_impl_sumOfType.r0 : ACode := (.region none [⟨some 2, .move (.c (.int .i64 0)), none⟩])
def A_impl_sumOfType.r1 : ACode := (.region none [⟨some 3, .move (.c (.int .i64 0)), none⟩])
def A_impl_sumOfType.r2 : ACode := (.region none [⟨some 6, .move (.t 0), none⟩,
⟨some 7, .len (.t 6), none⟩,
⟨some 8, .move (.c (.int .i64 0)), none⟩])
def A_impl_sumOfType.r3 : ACode := (.region none [⟨some 9, .bin .lss (.t 8) (.t 7), none⟩])
def A_impl_sumOfType.r4 : ACode := (.region none [⟨some 10, .move (.t 8), none⟩,
⟨some 11, .indexAddr none 1 (.t 6) (.t 8), none⟩,
⟨some 12, .load none (.t 11), none⟩,
⟨some 4, .move (.t 10), none⟩,
⟨some 5, .move (.t 12), none⟩])
def A_impl_sumOfType.r5 : ACode := (.region none [⟨some 13, .move (.t 5), none⟩,
⟨some 14, .bin .lss (.t 13) (.c (.int .i64 1)), none⟩,
⟨some 15, .move (.t 14), none⟩,
⟨some 16, .move (.t 5), some (15, false)⟩,
⟨some 17, .bin .gtr (.t 16) (.c (.int .i64 16)), some (15, false)⟩,
⟨some 18, .pick (.t 15) (.c (.bool true)) (.t 17), none⟩,
⟨some 19, .move (.t 18), none⟩,
⟨some 20, .move (.t 4), some (19, false)⟩,
⟨some 21, .bin .gtr (.t 20) (.c (.int .i64 0)), some (19, false)⟩,
⟨some 22, .move (.t 21), some (19, false)⟩,
⟨some 23, .move (.t 5), some (22, true)⟩,
⟨some 24, .move (.t 0), some (22, true)⟩,
⟨some 25, .move (.t 4), some (22, true)⟩,
⟨some 26, .bin .sub (.t 25) (.c (.int .i64 1)), some (22, true)⟩,
⟨some 27, .indexAddr none 1 (.t 24) (.t 26), some (22, true)⟩,
⟨some 28, .load none (.t 27), some (22, true)⟩,
⟨some 29, .bin .gtr (.t 23) (.t 28), some (22, true)⟩,
⟨some 30, .pick (.t 22) (.t 29) (.c (.bool false)), some (19, false)⟩,
⟨some 31, .pick (.t 19) (.c (.bool true)) (.t 30), none⟩])
def A_impl_sumOfType.r6 : ACode := (.region none [⟨some 2, .move (.c (.int .i64 0)), none⟩])
def A_impl_sumOfType.r7 : ACode := (.region none [⟨some 32, .move (.t 3), none⟩,
⟨some 33, .move (.t 5), none⟩,
⟨some 34, .bin .add (.t 32) (.t 33), none⟩,
⟨some 3, .move (.t 34), none⟩])
def A_impl_sumOfType.r8 : ACode := (.region none [⟨some 35, .move (.t 3), none⟩,
⟨some 36, .bin .gtr (.t 35) (.c (.int .i64 16)), none⟩])
def A_impl_sumOfType.r9 : ACode := (.region none [⟨some 2, .move (.c (.int .i64 0)), none⟩])
def A_impl_sumOfType.r10 : ACode := (.region none [⟨some 37, .bin .add (.t 8) (.c (.int .i64 1)), none⟩,
⟨some 8, .move (.t 37), none⟩])
def A_impl_sumOfType.l0 : ACode := (.seq A_impl_sumOfType.r3 (.seq (.cond (.t 9) .skip (.exit 0)) (.seq (.block 1 (.seq A_impl_sumOfType.r4 (.seq (.seq A_impl_sumOfType.r5 (.cond (.t 31) (.seq A_impl_sumOfType.r6 .ret) .skip)) (.seq A_impl_sumOfType.r7 (.seq A_impl_sumOfType.r8 (.cond (.t 36) (.seq A_impl_sumOfType.r9 .ret) .skip)))))) A_impl_sumOfType.r10)))
def A_impl_sumOfType.r11 : ACode := (.region none [⟨some 38, .move (.t 3), none⟩,
⟨some 2, .move (.t 38), none⟩])
def A_impl_sumOfType : AFunc := ⟨[.tmp 2], (.seq A_impl_sumOfType.r0 (.seq A_impl_sumOfType.r1 (.seq (.seq A_impl_sumOfType.r2 (.block 0 (.loop A_impl_sumOfType.l0))) (.seq A_impl_sumOfType.r11 .ret))))⟩
/-! impl_factorial -/
def A_impl_factorial.r0 : ACode := (.region none [⟨some 2, .move (.c (.int .i64 0)), none⟩])
def A_impl_factorial.r1 : ACode := (.region none [⟨some 3, .move (.c (.int .i64 1)), none⟩])
def A_impl_factorial.r2 : ACode := (.region none [⟨some 4, .move (.c (.int .i64 2)), none⟩])
def A_impl_factorial.r3 : ACode := (.region none [⟨some 5, .move (.t 4), none⟩,
⟨some 6, .move (.t 0), none⟩,
⟨some 7, .bin .leq (.t 5) (.t 6), none⟩])
def A_impl_factorial.r5 : ACode := (.region none [⟨some 10, .move (.t 3), none⟩,
⟨some 11, .move (.t 4), none⟩,
⟨some 12, .bin .mul (.t 10) (.t 11), none⟩,
⟨some 3, .move (.t 12), none⟩])
def A_impl_factorial.r4 : ACode := (.region none [⟨some 8, .move (.t 4), none⟩,
⟨some 9, .bin .add (.t 8) (.c (.int .i64 1)), none⟩,
⟨some 4, .move (.t 9), none⟩])
def A_impl_factorial.l0 : ACode := (.seq (.seq A_impl_factorial.r3 (.cond (.t 7) .skip (.exit 0))) (.seq (.block 1 A_impl_factorial.r5) A_impl_factorial.r4))
def A_impl_factorial.r6 : ACode := (.region none [⟨some 13, .move (.t 3), none⟩,
⟨some 2, .move (.t 13), none⟩])
def A_impl_factorial : AFunc := ⟨[.tmp 2], (.seq A_impl_factorial.r0 (.seq A_impl_factorial.r1 (.seq (.seq A_impl_factorial.r2 (.block 0 (.loop A_impl_factorial.l0))) (.seq A_impl_factorial.r6 .ret))))⟩
/-! impl_repeated -/
def A_impl_repeated.r0 : ACode := (.region none [⟨some 2, .move (.c (.int .i64 0)), none⟩])
def A_impl_repeated.r1 : ACode := (.region none [⟨some 3, .move (.c (.int .i64 1)), none⟩,
⟨some 4, .move (.c (.int .i64 0)), none⟩])
def A_impl_repeated.r2 : ACode := (.region none [⟨some 7, .move (.t 0), none⟩,
⟨some 8, .len (.t 7), none⟩,
⟨some 9, .move (.c (.int .i64 0)), none⟩])
def A_impl_repeated.r3 : ACode := (.region none [⟨some 10, .bin .lss (.t 9) (.t 8), none⟩])
def A_impl_repeated.r4 : ACode := (.region none [⟨some 11, .move (.t 9), none⟩,
⟨some 12, .indexAddr none 1 (.t 7) (.t 9), none⟩,
⟨some 13, .load none (.t 12), none⟩,
⟨some 5, .move (.t 11), none⟩,
⟨some 6, .move (.t 13), none⟩])
def A_impl_repeated.r5 : ACode := (.region none [⟨some 14, .move (.t 5), none⟩,
⟨some 15, .bin .gtr (.t 14) (.c (.int .i64 0)), none⟩,
⟨some 16, .move (.t 15), none⟩,
⟨some 17, .move (.t 6), some (16, true)⟩,
⟨some 18, .move (.t 0), some (16, true)⟩,
⟨some 19, .move (.t 5), some (16, true)⟩,
⟨some 20, .bin .sub (.t 19) (.c (.int .i64 1)), some (16, true)⟩,
⟨some 21, .indexAddr none 1 (.t 18) (.t 20), some (16, true)⟩,
⟨some 22, .load none (.t 21), some (16, true)⟩,
⟨some 23, .bin .eql (.t 17) (.t 22), some (16, true)⟩,
⟨some 24, .pick (.t 16) (.t 23) (.c (.bool false)), none⟩])
def A_impl_repeated.r6 : ACode := (.region none [⟨some 25, .move (.t 4), none⟩,
⟨some 26, .bin .add (.t 25) (.c (.int .i64 1)), none⟩,
⟨some 4, .move (.t 26), none⟩])
def A_impl_repeated.r7 : ACode := (.region none [⟨some 4, .move (.c (.int .i64 1)), none⟩])
def A_impl_repeated.r8 : ACode := (.region none [⟨some 27, .move (.t 3), none⟩,
⟨some 28, .move (.t 4), none⟩,
⟨some 29, .bin .mul (.t 27) (.t 28), none⟩,
⟨some 3, .move (.t 29), none⟩])
def A_impl_repeated.r9 : ACode := (.region none [⟨some 30, .bin .add (.t 9) (.c (.int .i64 1)), none⟩,
⟨some 9, .move (.t 30), none⟩])
def A_impl_repeated.l0 : ACode := (.seq A_impl_repeated.r3 (.seq (.cond (.t 10) .skip (.exit 0)) (.seq (.block 1 (.seq A_impl_repeated.r4 (.seq (.seq A_impl_repeated.r5 (.cond (.t 24) A_impl_repeated.r6 A_impl_repeated.r7)) A_impl_repeated.r8))) A_impl_repeated.r9)))
def A_impl_repeated.r10 : ACode := (.region none [⟨some 31, .move (.t 3), none⟩,
⟨some 2, .move (.t 31), none⟩])
def A_impl_repeated : AFunc := ⟨[.tmp 2], (.seq A_impl_repeated.r0 (.seq A_impl_repeated.r1 (.seq (.seq A_impl_repeated.r2 (.block 0 (.loop A_impl_repeated.l0))) (.seq A_impl_repeated.r10 .ret))))⟩
/-! impl_cut -/
def A_impl_cut.r0 : ACode := (.region none [⟨some 2, .move (.c (.slice none 0 0)), none⟩])
def A_impl_cut.r1 : ACode := (.region none [⟨some 3, .move (.t 0), none⟩,
⟨some 4, .len (.t 3), none⟩,
⟨some 5, .bin .gtr (.t 4) (.c (.int .i64 0)), none⟩,
⟨some 6, .move (.t 5), none⟩,
⟨some 7, .move (.t 0), some (6, true)⟩,
⟨some 8, .move (.t 0), some (6, true)⟩,
⟨some 9, .len (.t 8), some (6, true)⟩,
⟨some 10, .bin .sub (.t 9) (.c (.int .i64 1)), some (6, true)⟩,
⟨some 11, .indexAddr none 1 (.t 7) (.t 10), some (6, true)⟩,
⟨some 12, .load none (.t 11), some (6, true)⟩,
⟨some 13, .bin .eql (.t 12) (.c (.int .i64 0)), some (6, true)⟩,
⟨some 14, .pick (.t 6) (.t 13) (.c (.bool false)), none⟩])
def A_impl_cut.r2 : ACode := (.region none [⟨some 15, .move (.t 0), none⟩,
⟨some 16, .move (.t 0), none⟩,
⟨some 17, .len (.t 16), none⟩,
⟨some 18, .bin .sub (.t 17) (.c (.int .i64 1)), none⟩,
⟨some 19, .slice 1 (.t 15) none (some (.t 18)), none⟩,
⟨some 0, .move (.t 19), none⟩])
def A_impl_cut.l0 : ACode := (.seq (.seq A_impl_cut.r1 (.cond (.t 14) .skip (.exit 0))) (.block 1 A_impl_cut.r2))
def A_impl_cut.r3 : ACode := (.region none [⟨some 20, .move (.t 0), none⟩,
⟨some 2, .move (.t 20), none⟩])
def A_impl_cut : AFunc := ⟨[.tmp 2], (.seq A_impl_cut.r0 (.seq (.block 0 (.loop A_impl_cut.l0)) (.seq A_impl_cut.r3 .ret)))⟩
/-! spec_l06Mod -/
def A_spec_l06Mod.r0 : ACode := (.region none [⟨some 2, .move (.c (.int .i64 0)), none⟩])
def A_spec_l06Mod.r1 : ACode := (.region none [⟨some 3, .move (.t 0), none⟩,
⟨some 4, .bin .rem (.t 3) (.c (.int .i64 10007)), none⟩,
⟨some 5, .bin .add (.t 4) (.c (.int .i64 10007)), none⟩,
⟨some 6, .bin .rem (.t 5) (.c (.int .i64 10007)), none⟩,
⟨some 2, .move (.t 6), none⟩])
def A_spec_l06Mod : AFunc := ⟨[.tmp 2], (.seq A_spec_l06Mod.r0 (.seq A_spec_l06Mod.r1 .ret))⟩
/-! spec_l06Trim -/
def A_spec_l06Trim.r0 : ACode := (.region none [⟨some 2, .move (.c (.slice none 0 0)), none⟩])
def A_spec_l06Trim.r1 : ACode := (.region none [⟨some 4, .move (.t 0), none⟩,
⟨some 5, .len (.t 4), none⟩,
⟨some 3, .move (.t 5), none⟩])
def A_spec_l06Trim.r2 : ACode := (.region none [⟨some 6, .move (.t 3), none⟩,
⟨some 7, .bin .gtr (.t 6) (.c (.int .i64 0)), none⟩,
⟨some 8, .move (.t 7), none⟩,
⟨some 9, .move (.t 0), some (8, true)⟩,
⟨some 10, .move (.t 3), some (8, true)⟩,
⟨some 11, .bin .sub (.t 10) (.c (.int .i64 1)), some (8, true)⟩,
⟨some 12, .indexAddr none 1 (.t 9) (.t 11), some (8, true)⟩,
⟨some 13, .load none (.t 12), some (8, true)⟩,
⟨some 14, .bin .eql (.t 13) (.c (.int .i64 0)), some (8, true)⟩,
⟨some 15, .pick (.t 8) (.t 14) (.c (.bool false)), none⟩])
def A_spec_l06Trim.r3 : ACode := (.region none [⟨some 16, .move (.t 3), none⟩,
⟨some 17, .bin .sub (.t 16) (.c (.int .i64 1)), none⟩,
⟨some 3, .move (.t 17), none⟩])
def A_spec_l06Trim.l0 : ACode := (.seq (.seq A_spec_l06Trim.r2 (.cond (.t 15) .skip (.exit 0))) (.block 1 A_spec_l06Trim.r3))
def A_spec_l06Trim.r4 : ACode := (.region none [⟨some 18, .move (.t 0), none⟩,
⟨some 19, .move (.t 3), none⟩,
⟨some 20, .slice 1 (.t 18) none (some (.t 19)), none⟩,
⟨some 21, .call 111 [.t 20], none⟩,
⟨some 2, .move (.t 21), none⟩])
def A_spec_l06Trim : AFunc := ⟨[.tmp 2], (.seq A_spec_l06Trim.r0 (.seq A_spec_l06Trim.r1 (.seq (.block 0 (.loop A_spec_l06Trim.l0)) (.seq A_spec_l06Trim.r4 .ret))))⟩
/-! impl_divide -/
def A_impl_divide.r0 : ACode := (.region none [⟨some 4, .move (.c (.slice none 0 0)), none⟩,
⟨some 5, .move (.c (.slice none 0 0)), none⟩])
def A_impl_divide.r1 : ACode := (.region none [⟨some 13, .move (.t 0), none⟩,
⟨some 14, .call 112 [.t 13], none⟩,
⟨some 6, .move (.t 14), none⟩])
def A_impl_divide.r2 : ACode := (.region none [⟨some 15, .move (.t 0), none⟩,
⟨some 16, .len (.t 15), none⟩,
⟨some 17, .move (.t 1), none⟩,
⟨some 18, .len (.t 17), none⟩,
⟨some 19, .bin .sub (.t 16) (.t 18), none⟩,
⟨some 20, .bin .add (.t 19) (.c (.int .i64 1)), none⟩,
⟨some 21, .max [.t 20, (.c (.int .i64 0))], none⟩,
⟨some 22, .makeSlice 1 8 [.int .i64 0] (.t 21) (.t 21), none⟩,
⟨some 7, .move (.t 22), none⟩])
def A_impl_divide.r3 : ACode := (.region none [⟨some 23, .move (.t 1), none⟩,
⟨some 24, .move (.t 1), none⟩,
⟨some 25, .len (.t 24), none⟩,
⟨some 26, .bin .sub (.t 25) (.c (.int .i64 1)), none⟩,
⟨some 27, .indexAddr none 1 (.t 23) (.t 26), none⟩,
⟨some 28, .load none (.t 27), none⟩,
⟨some 29, .call 84 [.t 28], none⟩,
⟨some 8, .move (.t 29), none⟩])
def A_impl_divide.r4 : ACode := (.region none [⟨some 30, .move (.t 6), none⟩,
⟨some 31, .len (.t 30), none⟩,
⟨some 32, .move (.t 1), none⟩,
⟨some 33, .len (.t 32), none⟩,
⟨some 34, .bin .geq (.t 31) (.t 33), none⟩])
def A_impl_divide.r5 : ACode := (.region none [⟨some 35, .move (.t 6), none⟩,
⟨some 36, .len (.t 35), none⟩,
⟨some 37, .move (.t 1), none⟩,
⟨some 38, .len (.t 37), none⟩,
⟨some 39, .bin .sub (.t 36) (.t 38), none⟩,
⟨some 9, .move (.t 39), none⟩])
def A_impl_divide.r6 : ACode := (.region none [⟨some 40, .move (.t 6), none⟩,
⟨some 41, .move (.t 6), none⟩,
⟨some 42, .len (.t 41), none⟩,
⟨some 43, .bin .sub (.t 42) (.c (.int .i64 1)), none⟩,
⟨some 44, .indexAddr none 1 (.t 40) (.t 43), none⟩,
⟨some 45, .load none (.t 44), none⟩,
⟨some 46, .move (.t 8), none⟩,
⟨some 47, .bin .mul (.t 45) (.t 46), none⟩,
⟨some 48, .bin .rem (.t 47) (.c (.int .i64 10007)), none⟩,
⟨some 10, .move (.t 48), none⟩])
def A_impl_divide.r7 : ACode := (.region none [⟨some 49, .move (.t 7), none⟩,
⟨some 50, .move (.t 9), none⟩,
⟨some 51, .move (.t 10), none⟩,
⟨some 52, .indexAddr none 1 (.t 49) (.t 50), none⟩,
⟨none, .store 1 (.t 52) (.t 51), none⟩])
def A_impl_divide.r8 : ACode := (.region none [⟨some 53, .move (.t 1), none⟩,
⟨some 54, .len (.t 53), none⟩,
⟨some 55, .move (.c (.int .i64 0)), none⟩])
def A_impl_divide.r9 : ACode := (.region none [⟨some 56, .bin .lss (.t 55) (.t 54), none⟩])
def A_impl_divide.r10 : ACode := (.region none [⟨some 57, .move (.t 55), none⟩,
⟨some 58, .indexAddr none 1 (.t 53) (.t 55), none⟩,
⟨some 59, .load none (.t 58), none⟩,
⟨some 11, .move (.t 57), none⟩,
⟨some 12, .move (.t 59), none⟩])
def A_impl_divide.r11 : ACode := (.region none [⟨some 60, .move (.t 6), none⟩,
⟨some 61, .move (.t 9), none⟩,
⟨some 62, .move (.t 11), none⟩,
⟨some 63, .bin .add (.t 61) (.t 62), none⟩,
⟨some 64, .move (.t 6), none⟩,
⟨some 65, .move (.t 9), none⟩,
⟨some 66, .move (.t 11), none⟩,
⟨some 67, .bin .add (.t 65) (.t 66), none⟩,
⟨some 68, .indexAddr none 1 (.t 64) (.t 67), none⟩,
⟨some 69, .load none (.t 68), none⟩,
⟨some 70, .move (.t 12), none⟩,
⟨some 71, .bin .sub (.c (.int .i64 10007)) (.t 70), none⟩,
⟨some 72, .move (.t 10), none⟩,
⟨some 73, .bin .mul (.t 71) (.t 72), none⟩,
⟨some 74, .bin .add (.t 69) (.t 73), none⟩,
⟨some 75, .bin .rem (.t 74) (.c (.int .i64 10007)), none⟩,
⟨some 76, .indexAddr none 1 (.t 60) (.t 63), none⟩,
⟨none, .store 1 (.t 76) (.t 75), none⟩])
def A_impl_divide.r12 : ACode := (.region none [⟨some 77, .bin .add (.t 55) (.c (.int .i64 1)), none⟩,
⟨some 55, .move (.t 77), none⟩])
def A_impl_divide.l0 : ACode := (.seq A_impl_divide.r9 (.seq (.cond (.t 56) .skip (.exit 2)) (.seq (.block 3 (.seq A_impl_divide.r10 A_impl_divide.r11)) A_impl_divide.r12)))
def A_impl_divide.r13 : ACode := (.region none [⟨some 78, .move (.t 6), none⟩,
⟨some 79, .call 105 [.t 78], none⟩,
⟨some 6, .move (.t 79), none⟩])
def A_impl_divide.l1 : ACode := (.seq (.seq A_impl_divide.r4 (.cond (.t 34) .skip (.exit 0))) (.block 1 (.seq A_impl_divide.r5 (.seq A_impl_divide.r6 (.seq A_impl_divide.r7 (.seq (.seq A_impl_divide.r8 (.block 2 (.loop A_impl_divide.l0))) A_impl_divide.r13))))))
def A_impl_divide.r14 : ACode := (.region none [⟨some 80, .move (.t 7), none⟩,
⟨some 81, .call 105 [.t 80], none⟩,
⟨some 82, .move (.t 6), none⟩,
⟨some 4, .move (.t 81), none⟩,
⟨some 5, .move (.t 82), none⟩])
def A_impl_divide : AFunc := ⟨[.tmp 4, .tmp 5], (.seq A_impl_divide.r0 (.seq A_impl_divide.r1 (.seq A_impl_divide.r2 (.seq A_impl_divide.r3 (.seq (.block 0 (.loop A_impl_divide.l1)) (.seq A_impl_divide.r14 .ret))))))⟩
/-! spec_l06Divide -/
def A_spec_l06Divide.r0 : ACode := (.region none [⟨some 4, .move (.c (.slice none 0 0)), none⟩,
⟨some 5, .move (.c (.slice none 0 0)), none⟩])
def A_spec_l06Divide.r1 : ACode := (.region (some 13) [⟨some 11, .move (.t 0), none⟩,
⟨some 12, .call 111 [.t 11], none⟩,
⟨some 13, .move (.t 1), none⟩,
⟨some 14, .move (.t 1), none⟩,
⟨some 15, .len (.t 14), none⟩,
⟨some 16, .bin .sub (.t 15) (.c (.int .i64 1)), none⟩,
⟨some 17, .indexAddr none 1 (.t 13) (.t 16), none⟩,
⟨some 18, .load none (.t 17), none⟩,
⟨some 19, .call 107 [.t 18], none⟩,
⟨some 20, .buildSlice 1 0 [.int .i64 0] [], none⟩,
⟨some 6, .move (.t 12), none⟩,
⟨some 7, .move (.t 19), none⟩,
⟨some 8, .move (.t 20), none⟩])
def A_spec_l06Divide.r2 : ACode := (.region none [⟨some 21, .move (.t 0), none⟩,
⟨some 22, .len (.t 21), none⟩,
⟨some 23, .move (.t 1), none⟩,
⟨some 24, .len (.t 23), none⟩,
⟨some 25, .bin .geq (.t 22) (.t 24), none⟩])
def A_spec_l06Divide.r3 : ACode := (.region none [⟨some 26, .move (.t 0), none⟩,
⟨some 27, .len (.t 26), none⟩,
⟨some 28, .move (.t 1), none⟩,
⟨some 29, .len (.t 28), none⟩,
⟨some 30, .bin .sub (.t 27) (.t 29), none⟩,
⟨some 31, .bin .add (.t 30) (.c (.int .i64 1)), none⟩,
⟨some 32, .makeSlice 1 8 [.int .i64 0] (.t 31) (.t 31), none⟩,
⟨some 8, .move (.t 32), none⟩])
def A_spec_l06Divide.r4 : ACode := (.region none [⟨some 33, .move (.t 6), none⟩,
⟨some 34, .len (.t 33), none⟩,
⟨some 35, .move (.t 1), none⟩,
⟨some 36, .len (.t 35), none⟩,
⟨some 37, .bin .geq (.t 34) (.t 36), none⟩])
def A_spec_l06Divide.r5 : ACode := (.region none [⟨some 38, .move (.t 6), none⟩,
⟨some 39, .len (.t 38), none⟩,
⟨some 40, .move (.t 1), none⟩,
⟨some 41, .len (.t 40), none⟩,
⟨some 42, .bin .sub (.t 39) (.t 41), none⟩,
⟨some 43, .move (.t 6), none⟩,
⟨some 44, .move (.t 6), none⟩,
⟨some 45, .len (.t 44), none⟩,
⟨some 46, .bin .sub (.t 45) (.c (.int .i64 1)), none⟩,
⟨some 47, .indexAddr none 1 (.t 43) (.t 46), none⟩,
⟨some 48, .load none (.t 47), none⟩,
⟨some 49, .move (.t 7), none⟩,
⟨some 50, .bin .mul (.t 48) (.t 49), none⟩,
⟨some 51, .call 103 [.t 50], none⟩,
⟨some 9, .move (.t 42), none⟩,
⟨some 10, .move (.t 51), none⟩])
def A_spec_l06Divide.r6 : ACode := (.region none [⟨some 52, .move (.t 8), none⟩,
⟨some 53, .move (.t 9), none⟩,
⟨some 54, .move (.t 10), none⟩,
⟨some 55, .indexAddr none 1 (.t 52) (.t 53), none⟩,
⟨none, .store 1 (.t 55) (.t 54), none⟩])
def A_spec_l06Divide.r7 : ACode := (.region none [⟨some 56, .move (.t 6), none⟩,
⟨some 57, .move (.t 9), none⟩,
⟨some 58, .makeSlice 1 8 [.int .i64 0] (.t 57) (.t 57), none⟩,
⟨some 59, .move (.t 1), none⟩,
⟨some 60, .append 1 8 (.t 58) (.t 59), none⟩,
⟨some 61, .move (.t 10), none⟩,
⟨some 62, .neg (.t 61), none⟩,
⟨some 63, .call 72 [.t 56, .t 60, .t 62], none⟩,
⟨some 6, .move (.t 63), none⟩])
def A_spec_l06Divide.l0 : ACode := (.seq (.seq A_spec_l06Divide.r4 (.cond (.t 37) .skip (.exit 0))) (.block 1 (.seq A_spec_l06Divide.r5 (.seq A_spec_l06Divide.r6 A_spec_l06Divide.r7))))
def A_spec_l06Divide.r8 : ACode := (.region none [⟨some 64, .move (.t 8), none⟩,
⟨some 65, .move (.t 6), none⟩,
⟨some 4, .move (.t 64), none⟩,
⟨some 5, .move (.t 65), none⟩])
def A_spec_l06Divide : AFunc := ⟨[.tmp 4, .tmp 5], (.seq A_spec_l06Divide.r0 (.seq A_spec_l06Divide.r1 (.seq (.seq A_spec_l06Divide.r2 (.cond (.t 25) A_spec_l06Divide.r3 .skip)) (.seq (.block 0 (.loop A_spec_l06Divide.l0)) (.seq A_spec_l06Divide.r8 .ret)))))⟩
/-! spec_l06Monic -/
def A_spec_l06Monic.r0 : ACode := (.region none [⟨some 2, .move (.c (.slice none 0 0)), none⟩])
def A_spec_l06Monic.r1 : ACode := (.region none [⟨some 3, .move (.t 0), none⟩,
⟨some 4, .move (.t 0), none⟩,
⟨some 5, .move (.t 0), none⟩,
⟨some 6, .len (.t 5), none⟩,
⟨some 7, .bin .sub (.t 6) (.c (.int .i64 1)), none⟩,
⟨some 8, .indexAddr none 1 (.t 4) (.t 7), none⟩,
⟨some 9, .load none (.t 8), none⟩,
⟨some 10, .call 107 [.t 9], none⟩,
⟨some 11, .call 72 [(.c (.slice none 0 0)), .t 3, .t 10], none⟩,
⟨some 2, .move (.t 11), none⟩])
def A_spec_l06Monic : AFunc := ⟨[.tmp 2], (.seq A_spec_l06Monic.r0 (.seq A_spec_l06Monic.r1 .ret))⟩
/-! spec_l06Inverse -/
def A_spec_l06Inverse.r0 : ACode := (.region none [⟨some 2, .move (.c (.int .i64 0)), none⟩])
def A_spec_l06Inverse.r1 : ACode := (.region none [⟨some 6, .move (.t 0), none⟩,
⟨some 3, .move (.c (.int .i64 1)), none⟩,
⟨some 4, .move (.t 6), none⟩])
def A_spec_l06Inverse.r2 : ACode := (.region none [⟨some 5, .move (.c (.int .i64 10005)), none⟩])
def A_spec_l06Inverse.r3 : ACode := (.region none [⟨some 7, .move (.t 5), none⟩,
⟨some 8, .bin .gtr (.t 7) (.c (.int .i64 0)), none⟩])
def A_spec_l06Inverse.r5 : ACode := (.region none [⟨some 11, .move (.t 5), none⟩,
⟨some 12, .bin .rem (.t 11) (.c (.int .i64 2)), none⟩,
⟨some 13, .bin .eql (.t 12) (.c (.int .i64 1)), none⟩])
def A_spec_l06Inverse.r6 : ACode := (.region none [⟨some 14, .move (.t 3), none⟩,
⟨some 15, .move (.t 4), none⟩,
⟨some 16, .bin .mul (.t 14) (.t 15), none⟩,
⟨some 17, .call 103 [.t 16], none⟩,
⟨some 3, .move (.t 17), none⟩])
def A_spec_l06Inverse.r7 : ACode := (.region none [⟨some 18, .move (.t 4), none⟩,
⟨some 19, .move (.t 4), none⟩,
⟨some 20, .bin .mul (.t 18) (.t 19), none⟩,
⟨some 21, .call 103 [.t 20], none⟩,
⟨some 4, .move (.t 21), none⟩])
def A_spec_l06Inverse.r4 : ACode := (.region none [⟨some 9, .move (.t 5), none⟩,
⟨some 10, .bin .quo (.t 9) (.c (.int .i64 2)), none⟩,
⟨some 5, .move (.t 10), none⟩])
def A_spec_l06Inverse.l0 : ACode := (.seq (.seq A_spec_l06Inverse.r3 (.cond (.t 8) .skip (.exit 0))) (.seq (.block 1 (.seq (.seq A_spec_l06Inverse.r5 (.cond (.t 13) A_spec_l06Inverse.r6 .skip)) A_spec_l06Inverse.r7)) A_spec_l06Inverse.r4))
def A_spec_l06Inverse.r8 : ACode := (.region none [⟨some 22, .move (.t 3), none⟩,
⟨some 2, .move (.t 22), none⟩])
def A_spec_l06Inverse : AFunc := ⟨[.tmp 2], (.seq A_spec_l06Inverse.r0 (.seq A_spec_l06Inverse.r1 (.seq (.seq A_spec_l06Inverse.r2 (.block 0 (.loop A_spec_l06Inverse.l0))) (.seq A_spec_l06Inverse.r8 .ret))))⟩
/-! spec_l01Own -/
def A_spec_l01Own.r0 : ACode := (.region none [⟨some 2, .move (.c (.slice none 0 0)), none⟩])
def A_spec_l01Own.r1 : ACode := (.region none [⟨some 3, .buildSlice 1 0 [.int .i64 0] [], none⟩,
⟨some 4, .move (.t 0), none⟩,
⟨some 5, .append 1 8 (.t 3) (.t 4), none⟩,
⟨some 2, .move (.t 5), none⟩])
def A_spec_l01Own : AFunc := ⟨[.tmp 2], (.seq A_spec_l01Own.r0 (.seq A_spec_l01Own.r1 .ret))⟩
/-! slices_Clone_int64_int64 -/
def A_slices_Clone_int64_int64.r0 : ACode := (.region none [⟨some 2, .move (.c (.slice none 0 0)), none⟩])
def A_slices_Clone_int64_int64.r1 : ACode := (.region none [⟨some 3, .move (.t 0), none⟩,
⟨some 4, .eqn false (.t 3), none⟩])
def A_slices_Clone_int64_int64.r2 : ACode := (.region none [⟨some 2, .move (.c (.slice none 0 0)), none⟩])
def A_slices_Clone_int64_int64.r3 : ACode := (.region none [⟨some 5, .buildSlice 1 0 [.int .i64 0] [], none⟩,
⟨some 6, .move (.t 0), none⟩,
⟨some 7, .append 1 8 (.t 5) (.t 6), none⟩,
⟨some 2, .move (.t 7), none⟩])
def A_slices_Clone_int64_int64 : AFunc := ⟨[.tmp 2], (.seq A_slices_Clone_int64_int64.r0 (.seq (.seq A_slices_Clone_int64_int64.r1 (.cond (.t 4) (.seq A_slices_Clone_int64_int64.r2 .ret) .skip)) (.seq A_slices_Clone_int64_int64.r3 .ret)))⟩
end Go.Am
