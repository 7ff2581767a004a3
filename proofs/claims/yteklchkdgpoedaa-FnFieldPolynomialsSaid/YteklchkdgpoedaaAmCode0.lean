/- The code of the functions that the claim reaches, in the small machine's form: written by a program of mine, off the loaded program; the checks compare the two. -/
import Derived.Test.YteklchkdgpoedaaAmCore
set_option linter.unusedVariables false
set_option maxRecDepth 100000
namespace Go.Am
open Go
/-! laws_FnFieldPolynomials -/
def A_laws_FnFieldPolynomials.r0 : ACode := (.region none [⟨some 2, .move (.c (.bool false)), none⟩])
def A_laws_FnFieldPolynomials.r1 : ACode := (.region none [⟨some 53, .move (.t 0), none⟩,
    ⟨some 54, .call 41 [(.t 53)], none⟩])
def A_laws_FnFieldPolynomials.r2 : ACode := (.region none [⟨some 2, .move (.c (.bool true)), none⟩])
def A_laws_FnFieldPolynomials.r3 : ACode := (.region none [⟨some 56, .move (.t 0), none⟩,
    ⟨some 57, .call 42 [(.t 56)], none⟩,
    ⟨some 55, .move (.t 57), none⟩,
    ⟨some 58, .extract (.t 55) 0, none⟩,
    ⟨some 59, .extract (.t 55) 1, none⟩,
    ⟨some 3, .move (.t 58), none⟩,
    ⟨some 4, .move (.t 59), none⟩])
def A_laws_FnFieldPolynomials.r4 : ACode := (.region none [⟨some 61, .move (.t 3), none⟩,
    ⟨some 62, .move (.t 4), none⟩,
    ⟨some 63, .call 17 [(.t 61), (.t 62)], none⟩,
    ⟨some 60, .move (.t 63), none⟩,
    ⟨some 64, .extract (.t 60) 0, none⟩,
    ⟨some 65, .extract (.t 60) 1, none⟩,
    ⟨some 5, .move (.t 64), none⟩,
    ⟨some 6, .move (.t 65), none⟩])
def A_laws_FnFieldPolynomials.r5 : ACode := (.region none [⟨some 67, .move (.t 3), none⟩,
    ⟨some 68, .move (.t 4), none⟩,
    ⟨some 69, .call 16 [(.t 67), (.t 68)], none⟩,
    ⟨some 66, .move (.t 69), none⟩,
    ⟨some 70, .extract (.t 66) 0, none⟩,
    ⟨some 71, .extract (.t 66) 1, none⟩,
    ⟨some 7, .move (.t 70), none⟩,
    ⟨some 8, .move (.t 71), none⟩])
def A_laws_FnFieldPolynomials.r6 : ACode := (.region none [⟨some 72, .move (.t 6), none⟩,
    ⟨some 73, .move (.t 8), none⟩,
    ⟨some 74, .bin .neq (.t 72) (.t 73), none⟩,
    ⟨some 75, .move (.t 74), none⟩,
    ⟨some 76, .move (.t 5), some (75, false)⟩,
    ⟨some 77, .move (.t 7), some (75, false)⟩,
    ⟨some 78, .call 43 [(.t 76), (.t 77)], some (75, false)⟩,
    ⟨some 79, .not (.t 78), some (75, false)⟩,
    ⟨some 80, .pick (.t 75) (.c (.bool true)) (.t 79), none⟩,
    ⟨some 81, .move (.t 80), none⟩,
    ⟨some 82, .move (.t 3), some (81, false)⟩,
    ⟨some 83, .call 2 [(.t 82)], some (81, false)⟩,
    ⟨some 84, .move (.t 3), some (81, false)⟩,
    ⟨some 85, .call 1 [(.t 84)], some (81, false)⟩,
    ⟨some 86, .eqb true (.t 83) (.t 85), some (81, false)⟩,
    ⟨some 87, .pick (.t 81) (.c (.bool true)) (.t 86), none⟩])
def A_laws_FnFieldPolynomials.r7 : ACode := (.region none [⟨some 2, .move (.c (.bool false)), none⟩])
def A_laws_FnFieldPolynomials.r8 : ACode := (.region none [⟨some 89, .move (.t 3), none⟩,
    ⟨some 90, .move (.t 4), none⟩,
    ⟨some 91, .call 15 [(.t 89), (.t 90)], none⟩,
    ⟨some 88, .move (.t 91), none⟩,
    ⟨some 92, .extract (.t 88) 0, none⟩,
    ⟨some 93, .extract (.t 88) 1, none⟩,
    ⟨some 9, .move (.t 92), none⟩,
    ⟨some 10, .move (.t 93), none⟩])
def A_laws_FnFieldPolynomials.r9 : ACode := (.region none [⟨some 95, .move (.t 3), none⟩,
    ⟨some 96, .move (.t 4), none⟩,
    ⟨some 97, .call 14 [(.t 95), (.t 96)], none⟩,
    ⟨some 94, .move (.t 97), none⟩,
    ⟨some 98, .extract (.t 94) 0, none⟩,
    ⟨some 99, .extract (.t 94) 1, none⟩,
    ⟨some 11, .move (.t 98), none⟩,
    ⟨some 12, .move (.t 99), none⟩])
def A_laws_FnFieldPolynomials.r10 : ACode := (.region none [⟨some 100, .move (.t 10), none⟩,
    ⟨some 101, .move (.t 12), none⟩,
    ⟨some 102, .bin .neq (.t 100) (.t 101), none⟩,
    ⟨some 103, .move (.t 102), none⟩,
    ⟨some 104, .move (.t 9), some (103, false)⟩,
    ⟨some 105, .move (.t 11), some (103, false)⟩,
    ⟨some 106, .call 43 [(.t 104), (.t 105)], some (103, false)⟩,
    ⟨some 107, .not (.t 106), some (103, false)⟩,
    ⟨some 108, .pick (.t 103) (.c (.bool true)) (.t 107), none⟩])
def A_laws_FnFieldPolynomials.r11 : ACode := (.region none [⟨some 2, .move (.c (.bool false)), none⟩])
def A_laws_FnFieldPolynomials.r12 : ACode := (.region none [⟨some 110, .move (.t 0), none⟩,
    ⟨some 111, .call 44 [(.t 110)], none⟩,
    ⟨some 109, .move (.t 111), none⟩,
    ⟨some 112, .extract (.t 109) 0, none⟩,
    ⟨some 113, .extract (.t 109) 1, none⟩,
    ⟨some 13, .move (.t 112), none⟩,
    ⟨some 14, .move (.t 113), none⟩])
def A_laws_FnFieldPolynomials.r13 : ACode := (.region none [⟨some 115, .move (.t 13), none⟩,
    ⟨some 116, .move (.t 14), none⟩,
    ⟨some 117, .call 28 [(.t 115), (.t 116)], none⟩,
    ⟨some 114, .move (.t 117), none⟩,
    ⟨some 118, .extract (.t 114) 0, none⟩,
    ⟨some 119, .extract (.t 114) 1, none⟩,
    ⟨some 15, .move (.t 118), none⟩,
    ⟨some 16, .move (.t 119), none⟩])
def A_laws_FnFieldPolynomials.r14 : ACode := (.region none [⟨some 121, .move (.t 13), none⟩,
    ⟨some 122, .move (.t 14), none⟩,
    ⟨some 123, .call 27 [(.t 121), (.t 122)], none⟩,
    ⟨some 120, .move (.t 123), none⟩,
    ⟨some 124, .extract (.t 120) 0, none⟩,
    ⟨some 125, .extract (.t 120) 1, none⟩,
    ⟨some 17, .move (.t 124), none⟩,
    ⟨some 18, .move (.t 125), none⟩])
def A_laws_FnFieldPolynomials.r15 : ACode := (.region none [⟨some 126, .move (.t 16), none⟩,
    ⟨some 127, .move (.t 18), none⟩,
    ⟨some 128, .bin .neq (.t 126) (.t 127), none⟩,
    ⟨some 129, .move (.t 128), none⟩,
    ⟨some 130, .move (.t 15), some (129, false)⟩,
    ⟨some 131, .move (.t 17), some (129, false)⟩,
    ⟨some 132, .call 43 [(.t 130), (.t 131)], some (129, false)⟩,
    ⟨some 133, .not (.t 132), some (129, false)⟩,
    ⟨some 134, .pick (.t 129) (.c (.bool true)) (.t 133), none⟩])
def A_laws_FnFieldPolynomials.r16 : ACode := (.region none [⟨some 2, .move (.c (.bool false)), none⟩])
def A_laws_FnFieldPolynomials.r17 : ACode := (.region none [⟨some 135, .move (.t 0), none⟩,
    ⟨some 136, .call 45 [(.t 135)], none⟩,
    ⟨some 19, .move (.t 136), none⟩])
def A_laws_FnFieldPolynomials.r18 : ACode := (.region none [⟨some 138, .move (.t 19), none⟩,
    ⟨some 139, .call 11 [(.t 138)], none⟩,
    ⟨some 137, .move (.t 139), none⟩,
    ⟨some 140, .extract (.t 137) 0, none⟩,
    ⟨some 141, .extract (.t 137) 1, none⟩,
    ⟨some 20, .move (.t 140), none⟩,
    ⟨some 21, .move (.t 141), none⟩])
def A_laws_FnFieldPolynomials.r19 : ACode := (.region none [⟨some 143, .move (.t 19), none⟩,
    ⟨some 144, .call 10 [(.t 143)], none⟩,
    ⟨some 142, .move (.t 144), none⟩,
    ⟨some 145, .extract (.t 142) 0, none⟩,
    ⟨some 146, .extract (.t 142) 1, none⟩,
    ⟨some 22, .move (.t 145), none⟩,
    ⟨some 23, .move (.t 146), none⟩])
def A_laws_FnFieldPolynomials.r20 : ACode := (.region none [⟨some 147, .move (.t 21), none⟩,
    ⟨some 148, .move (.t 23), none⟩,
    ⟨some 149, .bin .neq (.t 147) (.t 148), none⟩,
    ⟨some 150, .move (.t 149), none⟩,
    ⟨some 151, .move (.t 20), some (150, false)⟩,
    ⟨some 152, .move (.t 22), some (150, false)⟩,
    ⟨some 153, .call 43 [(.t 151), (.t 152)], some (150, false)⟩,
    ⟨some 154, .not (.t 153), some (150, false)⟩,
    ⟨some 155, .pick (.t 150) (.c (.bool true)) (.t 154), none⟩])
def A_laws_FnFieldPolynomials.r21 : ACode := (.region none [⟨some 2, .move (.c (.bool false)), none⟩])
def A_laws_FnFieldPolynomials.r22 : ACode := (.region none [⟨some 157, .move (.t 3), none⟩,
    ⟨some 158, .move (.t 4), none⟩,
    ⟨some 159, .call 30 [(.t 157), (.t 158)], none⟩,
    ⟨some 156, .move (.t 159), none⟩,
    ⟨some 160, .extract (.t 156) 0, none⟩,
    ⟨some 161, .extract (.t 156) 1, none⟩,
    ⟨some 24, .move (.t 160), none⟩,
    ⟨some 25, .move (.t 161), none⟩])
def A_laws_FnFieldPolynomials.r23 : ACode := (.region none [⟨some 163, .move (.t 3), none⟩,
    ⟨some 164, .move (.t 4), none⟩,
    ⟨some 165, .call 29 [(.t 163), (.t 164)], none⟩,
    ⟨some 162, .move (.t 165), none⟩,
    ⟨some 166, .extract (.t 162) 0, none⟩,
    ⟨some 167, .extract (.t 162) 1, none⟩,
    ⟨some 26, .move (.t 166), none⟩,
    ⟨some 27, .move (.t 167), none⟩])
def A_laws_FnFieldPolynomials.r24 : ACode := (.region none [⟨some 168, .move (.t 25), none⟩,
    ⟨some 169, .move (.t 27), none⟩,
    ⟨some 170, .bin .neq (.t 168) (.t 169), none⟩,
    ⟨some 171, .move (.t 170), none⟩,
    ⟨some 172, .move (.t 24), some (171, false)⟩,
    ⟨some 173, .move (.t 26), some (171, false)⟩,
    ⟨some 174, .call 43 [(.t 172), (.t 173)], some (171, false)⟩,
    ⟨some 175, .not (.t 174), some (171, false)⟩,
    ⟨some 176, .pick (.t 171) (.c (.bool true)) (.t 175), none⟩])
def A_laws_FnFieldPolynomials.r25 : ACode := (.region none [⟨some 2, .move (.c (.bool false)), none⟩])
def A_laws_FnFieldPolynomials.r26 : ACode := (.region none [⟨some 178, .move (.t 0), none⟩,
    ⟨some 179, .call 46 [(.t 178)], none⟩,
    ⟨some 177, .move (.t 179), none⟩,
    ⟨some 180, .extract (.t 177) 0, none⟩,
    ⟨some 181, .extract (.t 177) 1, none⟩,
    ⟨some 28, .move (.t 180), none⟩,
    ⟨some 29, .move (.t 181), none⟩])
def A_laws_FnFieldPolynomials.r27 : ACode := (.region none [⟨some 183, .move (.t 28), none⟩,
    ⟨some 184, .move (.t 29), none⟩,
    ⟨some 185, .call 9 [(.t 183), (.t 184)], none⟩,
    ⟨some 182, .move (.t 185), none⟩,
    ⟨some 186, .extract (.t 182) 0, none⟩,
    ⟨some 187, .extract (.t 182) 1, none⟩,
    ⟨some 30, .move (.t 186), none⟩,
    ⟨some 31, .move (.t 187), none⟩])
def A_laws_FnFieldPolynomials.r28 : ACode := (.region none [⟨some 189, .move (.t 28), none⟩,
    ⟨some 190, .move (.t 29), none⟩,
    ⟨some 191, .call 8 [(.t 189), (.t 190)], none⟩,
    ⟨some 188, .move (.t 191), none⟩,
    ⟨some 192, .extract (.t 188) 0, none⟩,
    ⟨some 193, .extract (.t 188) 1, none⟩,
    ⟨some 32, .move (.t 192), none⟩,
    ⟨some 33, .move (.t 193), none⟩])
def A_laws_FnFieldPolynomials.r29 : ACode := (.region none [⟨some 194, .move (.t 31), none⟩,
    ⟨some 195, .move (.t 33), none⟩,
    ⟨some 196, .bin .neq (.t 194) (.t 195), none⟩,
    ⟨some 197, .move (.t 196), none⟩,
    ⟨some 198, .move (.t 30), some (197, false)⟩,
    ⟨some 199, .move (.t 32), some (197, false)⟩,
    ⟨some 200, .bin .neq (.t 198) (.t 199), some (197, false)⟩,
    ⟨some 201, .pick (.t 197) (.c (.bool true)) (.t 200), none⟩])
def A_laws_FnFieldPolynomials.r30 : ACode := (.region none [⟨some 2, .move (.c (.bool false)), none⟩])
def A_laws_FnFieldPolynomials.r31 : ACode := (.region none [⟨some 202, .move (.t 0), none⟩,
    ⟨some 203, .call 47 [(.t 202), (.c (.int .u64 9806))], none⟩,
    ⟨some 204, .call 48 [(.t 203), (.c (.int .i64 10007))], none⟩,
    ⟨some 34, .move (.t 204), none⟩])
def A_laws_FnFieldPolynomials.r32 : ACode := (.region none [⟨some 205, .move (.t 16), none⟩,
    ⟨some 206, .bin .eql (.t 205) (.c (.int .i64 0)), none⟩])
def A_laws_FnFieldPolynomials.r33 : ACode := (.region none [⟨some 208, .move (.t 14), none⟩,
    ⟨some 209, .move (.t 34), none⟩,
    ⟨some 210, .call 9 [(.t 208), (.t 209)], none⟩,
    ⟨some 207, .move (.t 210), none⟩,
    ⟨some 211, .extract (.t 207) 0, none⟩,
    ⟨some 212, .extract (.t 207) 1, none⟩,
    ⟨some 35, .move (.t 211), none⟩,
    ⟨some 36, .move (.t 212), none⟩])
def A_laws_FnFieldPolynomials.r34 : ACode := (.region none [⟨some 214, .move (.t 13), none⟩,
    ⟨some 215, .move (.t 35), none⟩,
    ⟨some 216, .call 9 [(.t 214), (.t 215)], none⟩,
    ⟨some 213, .move (.t 216), none⟩,
    ⟨some 217, .extract (.t 213) 0, none⟩,
    ⟨some 218, .extract (.t 213) 1, none⟩,
    ⟨some 37, .move (.t 217), none⟩,
    ⟨some 38, .move (.t 218), none⟩])
def A_laws_FnFieldPolynomials.r35 : ACode := (.region none [⟨some 220, .move (.t 15), none⟩,
    ⟨some 221, .move (.t 34), none⟩,
    ⟨some 222, .call 9 [(.t 220), (.t 221)], none⟩,
    ⟨some 219, .move (.t 222), none⟩,
    ⟨some 223, .extract (.t 219) 0, none⟩,
    ⟨some 224, .extract (.t 219) 1, none⟩,
    ⟨some 39, .move (.t 223), none⟩,
    ⟨some 40, .move (.t 224), none⟩])
def A_laws_FnFieldPolynomials.r36 : ACode := (.region none [⟨some 225, .move (.t 36), none⟩,
    ⟨some 226, .bin .neq (.t 225) (.c (.int .i64 0)), none⟩,
    ⟨some 227, .move (.t 226), none⟩,
    ⟨some 228, .move (.t 38), some (227, false)⟩,
    ⟨some 229, .bin .neq (.t 228) (.c (.int .i64 0)), some (227, false)⟩,
    ⟨some 230, .pick (.t 227) (.c (.bool true)) (.t 229), none⟩,
    ⟨some 231, .move (.t 230), none⟩,
    ⟨some 232, .move (.t 40), some (231, false)⟩,
    ⟨some 233, .bin .neq (.t 232) (.c (.int .i64 0)), some (231, false)⟩,
    ⟨some 234, .pick (.t 231) (.c (.bool true)) (.t 233), none⟩,
    ⟨some 235, .move (.t 234), none⟩,
    ⟨some 236, .move (.t 37), some (235, false)⟩,
    ⟨some 237, .move (.t 39), some (235, false)⟩,
    ⟨some 238, .bin .neq (.t 236) (.t 237), some (235, false)⟩,
    ⟨some 239, .pick (.t 235) (.c (.bool true)) (.t 238), none⟩])
def A_laws_FnFieldPolynomials.r37 : ACode := (.region none [⟨some 2, .move (.c (.bool false)), none⟩])
def A_laws_FnFieldPolynomials.r38 : ACode := (.region none [⟨some 240, .move (.t 6), none⟩,
    ⟨some 241, .bin .neq (.t 240) (.c (.int .i64 0)), none⟩])
def A_laws_FnFieldPolynomials.r39 : ACode := (.region none [⟨some 242, .move (.t 5), none⟩,
    ⟨some 243, .len (.t 242), none⟩,
    ⟨some 244, .bin .eql (.t 243) (.c (.int .i64 0)), none⟩,
    ⟨some 2, .move (.t 244), none⟩])
def A_laws_FnFieldPolynomials.r40 : ACode := (.region none [⟨some 246, .move (.t 3), none⟩,
    ⟨some 247, .call 11 [(.t 246)], none⟩,
    ⟨some 245, .move (.t 247), none⟩,
    ⟨some 248, .extract (.t 245) 0, none⟩,
    ⟨some 249, .extract (.t 245) 1, none⟩,
    ⟨some 41, .move (.t 248), none⟩,
    ⟨some 42, .move (.t 249), none⟩])
def A_laws_FnFieldPolynomials.r41 : ACode := (.region none [⟨some 251, .move (.t 4), none⟩,
    ⟨some 252, .call 11 [(.t 251)], none⟩,
    ⟨some 250, .move (.t 252), none⟩,
    ⟨some 253, .extract (.t 250) 0, none⟩,
    ⟨some 254, .extract (.t 250) 1, none⟩,
    ⟨some 43, .move (.t 253), none⟩,
    ⟨some 44, .move (.t 254), none⟩])
def A_laws_FnFieldPolynomials.r42 : ACode := (.region none [⟨some 256, .move (.t 41), none⟩,
    ⟨some 257, .move (.t 4), none⟩,
    ⟨some 258, .call 17 [(.t 256), (.t 257)], none⟩,
    ⟨some 255, .move (.t 258), none⟩,
    ⟨some 259, .extract (.t 255) 0, none⟩,
    ⟨some 260, .extract (.t 255) 1, none⟩,
    ⟨some 45, .move (.t 259), none⟩,
    ⟨some 46, .move (.t 260), none⟩])
def A_laws_FnFieldPolynomials.r43 : ACode := (.region none [⟨some 262, .move (.t 3), none⟩,
    ⟨some 263, .move (.t 43), none⟩,
    ⟨some 264, .call 17 [(.t 262), (.t 263)], none⟩,
    ⟨some 261, .move (.t 264), none⟩,
    ⟨some 265, .extract (.t 261) 0, none⟩,
    ⟨some 266, .extract (.t 261) 1, none⟩,
    ⟨some 47, .move (.t 265), none⟩,
    ⟨some 48, .move (.t 266), none⟩])
def A_laws_FnFieldPolynomials.r44 : ACode := (.region none [⟨some 268, .move (.t 45), none⟩,
    ⟨some 269, .move (.t 47), none⟩,
    ⟨some 270, .call 15 [(.t 268), (.t 269)], none⟩,
    ⟨some 267, .move (.t 270), none⟩,
    ⟨some 271, .extract (.t 267) 0, none⟩,
    ⟨some 272, .extract (.t 267) 1, none⟩,
    ⟨some 49, .move (.t 271), none⟩,
    ⟨some 50, .move (.t 272), none⟩])
def A_laws_FnFieldPolynomials.r45 : ACode := (.region none [⟨some 274, .move (.t 5), none⟩,
    ⟨some 275, .call 11 [(.t 274)], none⟩,
    ⟨some 273, .move (.t 275), none⟩,
    ⟨some 276, .extract (.t 273) 0, none⟩,
    ⟨some 277, .extract (.t 273) 1, none⟩,
    ⟨some 51, .move (.t 276), none⟩,
    ⟨some 52, .move (.t 277), none⟩])
def A_laws_FnFieldPolynomials.r46 : ACode := (.region none [⟨some 278, .move (.t 42), none⟩,
    ⟨some 279, .bin .eql (.t 278) (.c (.int .i64 0)), none⟩,
    ⟨some 280, .move (.t 279), none⟩,
    ⟨some 281, .move (.t 44), some (280, true)⟩,
    ⟨some 282, .bin .eql (.t 281) (.c (.int .i64 0)), some (280, true)⟩,
    ⟨some 283, .pick (.t 280) (.t 282) (.c (.bool false)), none⟩,
    ⟨some 284, .move (.t 283), none⟩,
    ⟨some 285, .move (.t 46), some (284, true)⟩,
    ⟨some 286, .bin .eql (.t 285) (.c (.int .i64 0)), some (284, true)⟩,
    ⟨some 287, .pick (.t 284) (.t 286) (.c (.bool false)), none⟩,
    ⟨some 288, .move (.t 287), none⟩,
    ⟨some 289, .move (.t 48), some (288, true)⟩,
    ⟨some 290, .bin .eql (.t 289) (.c (.int .i64 0)), some (288, true)⟩,
    ⟨some 291, .pick (.t 288) (.t 290) (.c (.bool false)), none⟩,
    ⟨some 292, .move (.t 291), none⟩,
    ⟨some 293, .move (.t 50), some (292, true)⟩,
    ⟨some 294, .bin .eql (.t 293) (.c (.int .i64 0)), some (292, true)⟩,
    ⟨some 295, .pick (.t 292) (.t 294) (.c (.bool false)), none⟩,
    ⟨some 296, .move (.t 295), none⟩,
    ⟨some 297, .move (.t 52), some (296, true)⟩,
    ⟨some 298, .bin .eql (.t 297) (.c (.int .i64 0)), some (296, true)⟩,
    ⟨some 299, .pick (.t 296) (.t 298) (.c (.bool false)), none⟩,
    ⟨some 300, .move (.t 299), none⟩,
    ⟨some 301, .move (.t 51), some (300, true)⟩,
    ⟨some 302, .move (.t 49), some (300, true)⟩,
    ⟨some 303, .call 43 [(.t 301), (.t 302)], some (300, true)⟩,
    ⟨some 304, .pick (.t 300) (.t 303) (.c (.bool false)), none⟩,
    ⟨some 305, .move (.t 304), none⟩,
    ⟨some 306, .move (.t 25), some (305, true)⟩,
    ⟨some 307, .bin .neq (.t 306) (.c (.int .i64 0)), some (305, true)⟩,
    ⟨some 308, .move (.t 307), some (305, true)⟩,
    ⟨some 309, .move (.t 24), some (308, false)⟩,
    ⟨some 310, .len (.t 309), some (308, false)⟩,
    ⟨some 311, .bin .gtr (.t 310) (.c (.int .i64 0)), some (308, false)⟩,
    ⟨some 312, .move (.t 311), some (308, false)⟩,
    ⟨some 313, .move (.t 24), some (312, true)⟩,
    ⟨some 314, .move (.t 24), some (312, true)⟩,
    ⟨some 315, .len (.t 314), some (312, true)⟩,
    ⟨some 316, .bin .sub (.t 315) (.c (.int .i64 1)), some (312, true)⟩,
    ⟨some 317, .indexAddr none 1 (.t 313) (.t 316), some (312, true)⟩,
    ⟨some 318, .load none (.t 317), some (312, true)⟩,
    ⟨some 319, .bin .eql (.t 318) (.c (.int .i64 1)), some (312, true)⟩,
    ⟨some 320, .pick (.t 312) (.t 319) (.c (.bool false)), some (308, false)⟩,
    ⟨some 321, .pick (.t 308) (.c (.bool true)) (.t 320), some (305, true)⟩,
    ⟨some 322, .pick (.t 305) (.t 321) (.c (.bool false)), none⟩,
    ⟨some 2, .move (.t 322), none⟩])
def A_laws_FnFieldPolynomials : AFunc := ⟨[.tmp 2], (.seq A_laws_FnFieldPolynomials.r0 (.seq (.seq A_laws_FnFieldPolynomials.r1 (.cond (.t 54) (.seq A_laws_FnFieldPolynomials.r2 .ret) .skip)) (.seq A_laws_FnFieldPolynomials.r3 (.seq A_laws_FnFieldPolynomials.r4 (.seq (.seq A_laws_FnFieldPolynomials.r5 (.seq A_laws_FnFieldPolynomials.r6 (.cond (.t 87) (.seq A_laws_FnFieldPolynomials.r7 .ret) .skip))) (.seq A_laws_FnFieldPolynomials.r8 (.seq (.seq A_laws_FnFieldPolynomials.r9 (.seq A_laws_FnFieldPolynomials.r10 (.cond (.t 108) (.seq A_laws_FnFieldPolynomials.r11 .ret) .skip))) (.seq A_laws_FnFieldPolynomials.r12 (.seq A_laws_FnFieldPolynomials.r13 (.seq (.seq A_laws_FnFieldPolynomials.r14 (.seq A_laws_FnFieldPolynomials.r15 (.cond (.t 134) (.seq A_laws_FnFieldPolynomials.r16 .ret) .skip))) (.seq A_laws_FnFieldPolynomials.r17 (.seq A_laws_FnFieldPolynomials.r18 (.seq (.seq A_laws_FnFieldPolynomials.r19 (.seq A_laws_FnFieldPolynomials.r20 (.cond (.t 155) (.seq A_laws_FnFieldPolynomials.r21 .ret) .skip))) (.seq A_laws_FnFieldPolynomials.r22 (.seq (.seq A_laws_FnFieldPolynomials.r23 (.seq A_laws_FnFieldPolynomials.r24 (.cond (.t 176) (.seq A_laws_FnFieldPolynomials.r25 .ret) .skip))) (.seq A_laws_FnFieldPolynomials.r26 (.seq A_laws_FnFieldPolynomials.r27 (.seq (.seq A_laws_FnFieldPolynomials.r28 (.seq A_laws_FnFieldPolynomials.r29 (.cond (.t 201) (.seq A_laws_FnFieldPolynomials.r30 .ret) .skip))) (.seq A_laws_FnFieldPolynomials.r31 (.seq (.seq A_laws_FnFieldPolynomials.r32 (.cond (.t 206) (.seq A_laws_FnFieldPolynomials.r33 (.seq A_laws_FnFieldPolynomials.r34 (.seq A_laws_FnFieldPolynomials.r35 (.seq A_laws_FnFieldPolynomials.r36 (.cond (.t 239) (.seq A_laws_FnFieldPolynomials.r37 .ret) .skip))))) .skip)) (.seq (.seq A_laws_FnFieldPolynomials.r38 (.cond (.t 241) (.seq A_laws_FnFieldPolynomials.r39 .ret) .skip)) (.seq A_laws_FnFieldPolynomials.r40 (.seq A_laws_FnFieldPolynomials.r41 (.seq A_laws_FnFieldPolynomials.r42 (.seq A_laws_FnFieldPolynomials.r43 (.seq A_laws_FnFieldPolynomials.r44 (.seq A_laws_FnFieldPolynomials.r45 (.seq A_laws_FnFieldPolynomials.r46 .ret))))))))))))))))))))))))))))⟩
/-! laws_big -/
def A_laws_big.r0 : ACode := (.region none [⟨some 2, .move (.c (.bool false)), none⟩])
def A_laws_big.r1 : ACode := (.region none [⟨some 3, .move (.t 0), none⟩,
    ⟨some 4, .len (.t 3), none⟩,
    ⟨some 5, .bin .gtr (.t 4) (.c (.int .i64 4096)), none⟩,
    ⟨some 2, .move (.t 5), none⟩])
def A_laws_big : AFunc := ⟨[.tmp 2], (.seq A_laws_big.r0 (.seq A_laws_big.r1 .ret))⟩
/-! laws_roll -/
def A_laws_roll.r0 : ACode := (.region none [⟨some 4, .move (.c (.pointer none)), none⟩])
def A_laws_roll.r1 : ACode := (.region none [⟨some 7, .move (.t 0), none⟩,
    ⟨some 8, .move (.t 1), none⟩,
    ⟨some 9, .bin .mul (.t 8) (.c (.int .u64 6257)), none⟩,
    ⟨some 10, .move (.t 0), none⟩,
    ⟨some 11, .len (.t 10), none⟩,
    ⟨some 12, .conv .u64 (.t 11), none⟩,
    ⟨some 13, .bin .add (.t 9) (.t 12), none⟩,
    ⟨some 14, .build ([.slice none 0 0] ++ [.int .i64 0] ++ [.int .u64 0]) [(0, 1, (.t 7)), (2, 1, (.t 13))], none⟩,
    ⟨some 15, .box (.t 14), none⟩,
    ⟨some 5, .move (.t 15), none⟩])
def A_laws_roll.r2 : ACode := (.region none [⟨some 6, .move (.c (.int .i64 0)), none⟩])
def A_laws_roll.r3 : ACode := (.region none [⟨some 16, .move (.t 6), none⟩,
    ⟨some 17, .move (.t 0), none⟩,
    ⟨some 18, .len (.t 17), none⟩,
    ⟨some 19, .bin .lss (.t 16) (.t 18), none⟩])
def A_laws_roll.r5 : ACode := (.region (some 15) [⟨some 22, .move (.t 5), none⟩,
    ⟨some 23, .move (.t 5), none⟩,
    ⟨some 24, .nilCheck (.t 23), none⟩,
    ⟨some 25, .fieldAddr 2 (.t 24), none⟩,
    ⟨some 26, .load none (.t 25), none⟩,
    ⟨some 27, .bin .mul (.t 26) (.c (.int .u64 1099511628211)), none⟩,
    ⟨some 28, .move (.t 0), none⟩,
    ⟨some 29, .move (.t 6), none⟩,
    ⟨some 30, .indexAddr none 1 (.t 28) (.t 29), none⟩,
    ⟨some 31, .load none (.t 30), none⟩,
    ⟨some 32, .conv .u64 (.t 31), none⟩,
    ⟨some 33, .bin .add (.t 27) (.t 32), none⟩,
    ⟨some 34, .bin .add (.t 33) (.c (.int .u64 5)), none⟩,
    ⟨some 35, .nilCheck (.t 22), none⟩,
    ⟨some 36, .fieldAddr 2 (.t 35), none⟩,
    ⟨none, .store 1 (.t 36) (.t 34), none⟩])
def A_laws_roll.r4 : ACode := (.region none [⟨some 20, .move (.t 6), none⟩,
    ⟨some 21, .bin .add (.t 20) (.c (.int .i64 1)), none⟩,
    ⟨some 6, .move (.t 21), none⟩])
def A_laws_roll.l0 : ACode := (.seq (.seq A_laws_roll.r3 (.cond (.t 19) .skip (.exit 0))) (.seq (.block 1 A_laws_roll.r5) A_laws_roll.r4))
def A_laws_roll.r6 : ACode := (.region none [⟨some 37, .move (.t 5), none⟩,
    ⟨some 4, .move (.t 37), none⟩])
def A_laws_roll : AFunc := ⟨[.tmp 4], (.seq A_laws_roll.r0 (.seq A_laws_roll.r1 (.seq (.seq A_laws_roll.r2 (.block 0 (.loop A_laws_roll.l0))) (.seq A_laws_roll.r6 .ret))))⟩
/-! laws_dice_below -/
def A_laws_dice_below.r0 : ACode := (.region none [⟨some 4, .move (.c (.int .i64 0)), none⟩])
def A_laws_dice_below.r1 : ACode := (.region none [⟨some 6, .move (.t 1), none⟩,
    ⟨some 7, .bin .lss (.t 6) (.c (.int .i64 1)), none⟩])
def A_laws_dice_below.r2 : ACode := (.region none [⟨some 4, .move (.c (.int .i64 0)), none⟩])
def A_laws_dice_below.r3 : ACode := (.region none [⟨some 8, .move (.t 0), none⟩,
    ⟨some 9, .move (.t 0), none⟩,
    ⟨some 10, .nilCheck (.t 9), none⟩,
    ⟨some 11, .fieldAddr 2 (.t 10), none⟩,
    ⟨some 12, .load none (.t 11), none⟩,
    ⟨some 13, .bin .mul (.t 12) (.c (.int .u64 6364136223846793005)), none⟩,
    ⟨some 14, .bin .add (.t 13) (.c (.int .u64 1442695040888963407)), none⟩,
    ⟨some 15, .nilCheck (.t 8), none⟩,
    ⟨some 16, .fieldAddr 2 (.t 15), none⟩,
    ⟨none, .store 1 (.t 16) (.t 14), none⟩])
def A_laws_dice_below.r4 : ACode := (.region none [⟨some 17, .move (.t 0), none⟩,
    ⟨some 18, .nilCheck (.t 17), none⟩,
    ⟨some 19, .fieldAddr 2 (.t 18), none⟩,
    ⟨some 20, .load none (.t 19), none⟩,
    ⟨some 21, .bin .shr (.t 20) (.c (.int .u64 33)), none⟩,
    ⟨some 22, .bin .and (.t 21) (.c (.int .u64 16777215)), none⟩,
    ⟨some 23, .conv .i64 (.t 22), none⟩,
    ⟨some 5, .move (.t 23), none⟩])
def A_laws_dice_below.r5 : ACode := (.region (some 10) [⟨some 24, .move (.t 0), none⟩,
    ⟨some 25, .nilCheck (.t 24), none⟩,
    ⟨some 26, .fieldAddr 1 (.t 25), none⟩,
    ⟨some 27, .load none (.t 26), none⟩,
    ⟨some 28, .move (.t 0), none⟩,
    ⟨some 29, .nilCheck (.t 28), none⟩,
    ⟨some 30, .fieldAddr 0 (.t 29), none⟩,
    ⟨some 31, .load none (.t 30), none⟩,
    ⟨some 32, .len (.t 31), none⟩,
    ⟨some 33, .bin .lss (.t 27) (.t 32), none⟩])
def A_laws_dice_below.r6 : ACode := (.region (some 14) [⟨some 34, .move (.t 5), none⟩,
    ⟨some 35, .move (.t 0), none⟩,
    ⟨some 36, .nilCheck (.t 35), none⟩,
    ⟨some 37, .fieldAddr 0 (.t 36), none⟩,
    ⟨some 38, .load none (.t 37), none⟩,
    ⟨some 39, .move (.t 0), none⟩,
    ⟨some 40, .nilCheck (.t 39), none⟩,
    ⟨some 41, .fieldAddr 1 (.t 40), none⟩,
    ⟨some 42, .load none (.t 41), none⟩,
    ⟨some 43, .indexAddr none 1 (.t 38) (.t 42), none⟩,
    ⟨some 44, .load none (.t 43), none⟩,
    ⟨some 45, .conv .i64 (.t 44), none⟩,
    ⟨some 46, .bin .add (.t 34) (.t 45), none⟩,
    ⟨some 5, .move (.t 46), none⟩])
def A_laws_dice_below.r7 : ACode := (.region none [⟨some 47, .move (.t 0), none⟩,
    ⟨some 48, .move (.t 0), none⟩,
    ⟨some 49, .nilCheck (.t 48), none⟩,
    ⟨some 50, .fieldAddr 1 (.t 49), none⟩,
    ⟨some 51, .load none (.t 50), none⟩,
    ⟨some 52, .bin .add (.t 51) (.c (.int .i64 1)), none⟩,
    ⟨some 53, .nilCheck (.t 47), none⟩,
    ⟨some 54, .fieldAddr 1 (.t 53), none⟩,
    ⟨none, .store 1 (.t 54) (.t 52), none⟩])
def A_laws_dice_below.r8 : ACode := (.region none [⟨some 55, .move (.t 5), none⟩,
    ⟨some 56, .move (.t 1), none⟩,
    ⟨some 57, .bin .rem (.t 55) (.t 56), none⟩,
    ⟨some 4, .move (.t 57), none⟩])
def A_laws_dice_below : AFunc := ⟨[.tmp 4], (.seq A_laws_dice_below.r0 (.seq (.seq A_laws_dice_below.r1 (.cond (.t 7) (.seq A_laws_dice_below.r2 .ret) .skip)) (.seq A_laws_dice_below.r3 (.seq A_laws_dice_below.r4 (.seq (.seq A_laws_dice_below.r5 (.cond (.t 33) (.seq A_laws_dice_below.r6 A_laws_dice_below.r7) .skip)) (.seq A_laws_dice_below.r8 .ret))))))⟩
/-! laws_likeInts -/
def A_laws_likeInts.r0 : ACode := (.region none [⟨some 4, .move (.c (.bool false)), none⟩])
def A_laws_likeInts.r1 : ACode := (.region none [⟨some 6, .move (.t 0), none⟩,
    ⟨some 7, .len (.t 6), none⟩,
    ⟨some 8, .move (.t 1), none⟩,
    ⟨some 9, .len (.t 8), none⟩,
    ⟨some 10, .bin .neq (.t 7) (.t 9), none⟩])
def A_laws_likeInts.r2 : ACode := (.region none [⟨some 4, .move (.c (.bool false)), none⟩])
def A_laws_likeInts.r3 : ACode := (.region none [⟨some 5, .move (.c (.int .i64 0)), none⟩])
def A_laws_likeInts.r4 : ACode := (.region none [⟨some 11, .move (.t 5), none⟩,
    ⟨some 12, .move (.t 0), none⟩,
    ⟨some 13, .len (.t 12), none⟩,
    ⟨some 14, .bin .lss (.t 11) (.t 13), none⟩])
def A_laws_likeInts.r6 : ACode := (.region (some 9) [⟨some 17, .move (.t 0), none⟩,
    ⟨some 18, .move (.t 5), none⟩,
    ⟨some 19, .indexAddr none 1 (.t 17) (.t 18), none⟩,
    ⟨some 20, .load none (.t 19), none⟩,
    ⟨some 21, .move (.t 1), none⟩,
    ⟨some 22, .move (.t 5), none⟩,
    ⟨some 23, .indexAddr none 1 (.t 21) (.t 22), none⟩,
    ⟨some 24, .load none (.t 23), none⟩,
    ⟨some 25, .bin .neq (.t 20) (.t 24), none⟩])
def A_laws_likeInts.r7 : ACode := (.region none [⟨some 4, .move (.c (.bool false)), none⟩])
def A_laws_likeInts.r5 : ACode := (.region none [⟨some 15, .move (.t 5), none⟩,
    ⟨some 16, .bin .add (.t 15) (.c (.int .i64 1)), none⟩,
    ⟨some 5, .move (.t 16), none⟩])
def A_laws_likeInts.l0 : ACode := (.seq (.seq A_laws_likeInts.r4 (.cond (.t 14) .skip (.exit 0))) (.seq (.block 1 (.seq A_laws_likeInts.r6 (.cond (.t 25) (.seq A_laws_likeInts.r7 .ret) .skip))) A_laws_likeInts.r5))
def A_laws_likeInts.r8 : ACode := (.region none [⟨some 4, .move (.c (.bool true)), none⟩])
def A_laws_likeInts : AFunc := ⟨[.tmp 4], (.seq A_laws_likeInts.r0 (.seq (.seq A_laws_likeInts.r1 (.cond (.t 10) (.seq A_laws_likeInts.r2 .ret) .skip)) (.seq (.seq A_laws_likeInts.r3 (.block 0 (.loop A_laws_likeInts.l0))) (.seq A_laws_likeInts.r8 .ret))))⟩
/-! spec_DrawMultiplyPolynomials -/
def A_spec_DrawMultiplyPolynomials.r0 : ACode := (.region none [⟨some 2, .move (.c (.slice none 0 0)), none⟩,
    ⟨some 3, .move (.c (.slice none 0 0)), none⟩])
def A_spec_DrawMultiplyPolynomials.r1 : ACode := (.region none [⟨some 7, .move (.t 0), none⟩,
    ⟨some 8, .call 96 [(.t 7)], none⟩,
    ⟨some 6, .move (.t 8), none⟩,
    ⟨some 9, .extract (.t 6) 0, none⟩,
    ⟨some 10, .extract (.t 6) 1, none⟩,
    ⟨some 4, .move (.t 9), none⟩,
    ⟨some 5, .move (.t 10), none⟩])
def A_spec_DrawMultiplyPolynomials.r2 : ACode := (.region none [⟨some 11, .move (.t 4), none⟩,
    ⟨some 12, .move (.t 5), none⟩,
    ⟨some 2, .move (.t 11), none⟩,
    ⟨some 3, .move (.t 12), none⟩])
def A_spec_DrawMultiplyPolynomials : AFunc := ⟨[.tmp 2, .tmp 3], (.seq A_spec_DrawMultiplyPolynomials.r0 (.seq A_spec_DrawMultiplyPolynomials.r1 (.seq A_spec_DrawMultiplyPolynomials.r2 .ret)))⟩
/-! impl_MultiplyPolynomials -/
def A_impl_MultiplyPolynomials.r0 : ACode := (.region none [⟨some 4, .move (.c (.slice none 0 0)), none⟩,
    ⟨some 5, .move (.c (.int .i64 0)), none⟩])
def A_impl_MultiplyPolynomials.r1 : ACode := (.region none [⟨some 7, .move (.t 0), none⟩,
    ⟨some 8, .call 2 [(.t 7)], none⟩,
    ⟨some 9, .not (.t 8), none⟩,
    ⟨some 10, .move (.t 9), none⟩,
    ⟨some 11, .move (.t 1), some (10, false)⟩,
    ⟨some 12, .call 2 [(.t 11)], some (10, false)⟩,
    ⟨some 13, .not (.t 12), some (10, false)⟩,
    ⟨some 14, .pick (.t 10) (.c (.bool true)) (.t 13), none⟩])
def A_impl_MultiplyPolynomials.r2 : ACode := (.region none [⟨some 4, .move (.c (.slice none 0 0)), none⟩,
    ⟨some 5, .move (.c (.int .i64 1)), none⟩])
def A_impl_MultiplyPolynomials.r3 : ACode := (.region none [⟨some 15, .move (.t 0), none⟩,
    ⟨some 16, .move (.t 1), none⟩,
    ⟨some 17, .call 75 [(.t 15), (.t 16)], none⟩,
    ⟨some 6, .move (.t 17), none⟩])
def A_impl_MultiplyPolynomials.r4 : ACode := (.region none [⟨some 18, .move (.t 6), none⟩,
    ⟨some 19, .len (.t 18), none⟩,
    ⟨some 20, .bin .gtr (.t 19) (.c (.int .i64 17)), none⟩])
def A_impl_MultiplyPolynomials.r5 : ACode := (.region none [⟨some 4, .move (.c (.slice none 0 0)), none⟩,
    ⟨some 5, .move (.c (.int .i64 3)), none⟩])
def A_impl_MultiplyPolynomials.r6 : ACode := (.region none [⟨some 21, .move (.t 6), none⟩,
    ⟨some 4, .move (.t 21), none⟩,
    ⟨some 5, .move (.c (.int .i64 0)), none⟩])
def A_impl_MultiplyPolynomials : AFunc := ⟨[.tmp 4, .tmp 5], (.seq A_impl_MultiplyPolynomials.r0 (.seq (.seq A_impl_MultiplyPolynomials.r1 (.cond (.t 14) (.seq A_impl_MultiplyPolynomials.r2 .ret) .skip)) (.seq A_impl_MultiplyPolynomials.r3 (.seq (.seq A_impl_MultiplyPolynomials.r4 (.cond (.t 20) (.seq A_impl_MultiplyPolynomials.r5 .ret) .skip)) (.seq A_impl_MultiplyPolynomials.r6 .ret)))))⟩
/-! spec_MultiplyPolynomials -/
def A_spec_MultiplyPolynomials.r0 : ACode := (.region none [⟨some 4, .move (.c (.slice none 0 0)), none⟩,
    ⟨some 5, .move (.c (.int .i64 0)), none⟩])
def A_spec_MultiplyPolynomials.r1 : ACode := (.region none [⟨some 8, .move (.t 0), none⟩,
    ⟨some 9, .move (.t 1), none⟩,
    ⟨some 10, .call 71 [(.t 8), (.t 9)], none⟩,
    ⟨some 6, .move (.t 10), none⟩])
def A_spec_MultiplyPolynomials.r2 : ACode := (.region none [⟨some 11, .move (.t 6), none⟩,
    ⟨some 12, .bin .neq (.t 11) (.c (.int .i64 0)), none⟩])
def A_spec_MultiplyPolynomials.r3 : ACode := (.region none [⟨some 13, .move (.t 6), none⟩,
    ⟨some 4, .move (.c (.slice none 0 0)), none⟩,
    ⟨some 5, .move (.t 13), none⟩])
def A_spec_MultiplyPolynomials.r4 : ACode := (.region none [⟨some 14, .move (.t 0), none⟩,
    ⟨some 15, .move (.t 1), none⟩,
    ⟨some 16, .call 74 [(.t 14), (.t 15)], none⟩,
    ⟨some 7, .move (.t 16), none⟩])
def A_spec_MultiplyPolynomials.r5 : ACode := (.region none [⟨some 17, .move (.t 7), none⟩,
    ⟨some 18, .len (.t 17), none⟩,
    ⟨some 19, .bin .gtr (.t 18) (.c (.int .i64 17)), none⟩])
def A_spec_MultiplyPolynomials.r6 : ACode := (.region none [⟨some 4, .move (.c (.slice none 0 0)), none⟩,
    ⟨some 5, .move (.c (.int .i64 3)), none⟩])
def A_spec_MultiplyPolynomials.r7 : ACode := (.region none [⟨some 20, .move (.t 7), none⟩,
    ⟨some 4, .move (.t 20), none⟩,
    ⟨some 5, .move (.c (.int .i64 0)), none⟩])
def A_spec_MultiplyPolynomials : AFunc := ⟨[.tmp 4, .tmp 5], (.seq A_spec_MultiplyPolynomials.r0 (.seq (.seq A_spec_MultiplyPolynomials.r1 (.seq A_spec_MultiplyPolynomials.r2 (.cond (.t 12) (.seq A_spec_MultiplyPolynomials.r3 .ret) .skip))) (.seq A_spec_MultiplyPolynomials.r4 (.seq (.seq A_spec_MultiplyPolynomials.r5 (.cond (.t 19) (.seq A_spec_MultiplyPolynomials.r6 .ret) .skip)) (.seq A_spec_MultiplyPolynomials.r7 .ret)))))⟩
/-! impl_IsPolynomial -/
def A_impl_IsPolynomial.r0 : ACode := (.region none [⟨some 2, .move (.c (.bool false)), none⟩])
def A_impl_IsPolynomial.r1 : ACode := (.region none [⟨some 5, .move (.t 0), none⟩,
    ⟨some 6, .len (.t 5), none⟩,
    ⟨some 7, .bin .gtr (.t 6) (.c (.int .i64 17)), none⟩,
    ⟨some 8, .move (.t 7), none⟩,
    ⟨some 9, .move (.t 0), some (8, false)⟩,
    ⟨some 10, .len (.t 9), some (8, false)⟩,
    ⟨some 11, .bin .gtr (.t 10) (.c (.int .i64 0)), some (8, false)⟩,
    ⟨some 12, .move (.t 11), some (8, false)⟩,
    ⟨some 13, .move (.t 0), some (12, true)⟩,
    ⟨some 14, .move (.t 0), some (12, true)⟩,
    ⟨some 15, .len (.t 14), some (12, true)⟩,
    ⟨some 16, .bin .sub (.t 15) (.c (.int .i64 1)), some (12, true)⟩,
    ⟨some 17, .indexAddr none 1 (.t 13) (.t 16), some (12, true)⟩,
    ⟨some 18, .load none (.t 17), some (12, true)⟩,
    ⟨some 19, .bin .eql (.t 18) (.c (.int .i64 0)), some (12, true)⟩,
    ⟨some 20, .pick (.t 12) (.t 19) (.c (.bool false)), some (8, false)⟩,
    ⟨some 21, .pick (.t 8) (.c (.bool true)) (.t 20), none⟩])
def A_impl_IsPolynomial.r2 : ACode := (.region none [⟨some 2, .move (.c (.bool false)), none⟩])
def A_impl_IsPolynomial.r3 : ACode := (.region none [⟨some 22, .move (.t 0), none⟩,
    ⟨some 23, .len (.t 22), none⟩,
    ⟨some 24, .move (.c (.int .i64 0)), none⟩])
def A_impl_IsPolynomial.r4 : ACode := (.region none [⟨some 25, .bin .lss (.t 24) (.t 23), none⟩])
def A_impl_IsPolynomial.r5 : ACode := (.region none [⟨some 26, .indexAddr none 1 (.t 22) (.t 24), none⟩,
    ⟨some 27, .load none (.t 26), none⟩,
    ⟨some 4, .move (.t 27), none⟩])
def A_impl_IsPolynomial.r6 : ACode := (.region none [⟨some 28, .move (.t 4), none⟩,
    ⟨some 29, .call 57 [(.t 28)], none⟩,
    ⟨some 30, .not (.t 29), none⟩])
def A_impl_IsPolynomial.r7 : ACode := (.region none [⟨some 2, .move (.c (.bool false)), none⟩])
def A_impl_IsPolynomial.r8 : ACode := (.region none [⟨some 31, .bin .add (.t 24) (.c (.int .i64 1)), none⟩,
    ⟨some 24, .move (.t 31), none⟩])
def A_impl_IsPolynomial.l0 : ACode := (.seq A_impl_IsPolynomial.r4 (.seq (.cond (.t 25) .skip (.exit 0)) (.seq (.block 1 (.seq A_impl_IsPolynomial.r5 (.seq A_impl_IsPolynomial.r6 (.cond (.t 30) (.seq A_impl_IsPolynomial.r7 .ret) .skip)))) A_impl_IsPolynomial.r8)))
def A_impl_IsPolynomial.r9 : ACode := (.region none [⟨some 2, .move (.c (.bool true)), none⟩])
def A_impl_IsPolynomial : AFunc := ⟨[.tmp 2], (.seq A_impl_IsPolynomial.r0 (.seq (.seq A_impl_IsPolynomial.r1 (.cond (.t 21) (.seq A_impl_IsPolynomial.r2 .ret) .skip)) (.seq (.seq A_impl_IsPolynomial.r3 (.block 0 (.loop A_impl_IsPolynomial.l0))) (.seq A_impl_IsPolynomial.r9 .ret))))⟩
/-! spec_IsPolynomial -/
def A_spec_IsPolynomial.r0 : ACode := (.region none [⟨some 2, .move (.c (.bool false)), none⟩])
def A_spec_IsPolynomial.r1 : ACode := (.region none [⟨some 3, .move (.t 0), none⟩,
    ⟨some 4, .call 56 [(.t 3)], none⟩,
    ⟨some 2, .move (.t 4), none⟩])
def A_spec_IsPolynomial : AFunc := ⟨[.tmp 2], (.seq A_spec_IsPolynomial.r0 (.seq A_spec_IsPolynomial.r1 .ret))⟩
/-! impl_AddPolynomials -/
def A_impl_AddPolynomials.r0 : ACode := (.region none [⟨some 4, .move (.c (.slice none 0 0)), none⟩,
    ⟨some 5, .move (.c (.int .i64 0)), none⟩])
def A_impl_AddPolynomials.r1 : ACode := (.region none [⟨some 6, .move (.t 0), none⟩,
    ⟨some 7, .call 2 [(.t 6)], none⟩,
    ⟨some 8, .not (.t 7), none⟩,
    ⟨some 9, .move (.t 8), none⟩,
    ⟨some 10, .move (.t 1), some (9, false)⟩,
    ⟨some 11, .call 2 [(.t 10)], some (9, false)⟩,
    ⟨some 12, .not (.t 11), some (9, false)⟩,
    ⟨some 13, .pick (.t 9) (.c (.bool true)) (.t 12), none⟩])
def A_impl_AddPolynomials.r2 : ACode := (.region none [⟨some 4, .move (.c (.slice none 0 0)), none⟩,
    ⟨some 5, .move (.c (.int .i64 1)), none⟩])
def A_impl_AddPolynomials.r3 : ACode := (.region none [⟨some 14, .move (.t 0), none⟩,
    ⟨some 15, .move (.t 1), none⟩,
    ⟨some 16, .call 73 [(.t 14), (.t 15)], none⟩,
    ⟨some 4, .move (.t 16), none⟩,
    ⟨some 5, .move (.c (.int .i64 0)), none⟩])
def A_impl_AddPolynomials : AFunc := ⟨[.tmp 4, .tmp 5], (.seq A_impl_AddPolynomials.r0 (.seq (.seq A_impl_AddPolynomials.r1 (.cond (.t 13) (.seq A_impl_AddPolynomials.r2 .ret) .skip)) (.seq A_impl_AddPolynomials.r3 .ret)))⟩
/-! spec_AddPolynomials -/
def A_spec_AddPolynomials.r0 : ACode := (.region none [⟨some 4, .move (.c (.slice none 0 0)), none⟩,
    ⟨some 5, .move (.c (.int .i64 0)), none⟩])
def A_spec_AddPolynomials.r1 : ACode := (.region none [⟨some 7, .move (.t 0), none⟩,
    ⟨some 8, .move (.t 1), none⟩,
    ⟨some 9, .call 71 [(.t 7), (.t 8)], none⟩,
    ⟨some 6, .move (.t 9), none⟩])
def A_spec_AddPolynomials.r2 : ACode := (.region none [⟨some 10, .move (.t 6), none⟩,
    ⟨some 11, .bin .neq (.t 10) (.c (.int .i64 0)), none⟩])
def A_spec_AddPolynomials.r3 : ACode := (.region none [⟨some 12, .move (.t 6), none⟩,
    ⟨some 4, .move (.c (.slice none 0 0)), none⟩,
    ⟨some 5, .move (.t 12), none⟩])
def A_spec_AddPolynomials.r4 : ACode := (.region none [⟨some 13, .move (.t 0), none⟩,
    ⟨some 14, .move (.t 1), none⟩,
    ⟨some 15, .call 72 [(.t 13), (.t 14), (.c (.int .i64 1))], none⟩,
    ⟨some 4, .move (.t 15), none⟩,
    ⟨some 5, .move (.c (.int .i64 0)), none⟩])
def A_spec_AddPolynomials : AFunc := ⟨[.tmp 4, .tmp 5], (.seq A_spec_AddPolynomials.r0 (.seq (.seq A_spec_AddPolynomials.r1 (.seq A_spec_AddPolynomials.r2 (.cond (.t 11) (.seq A_spec_AddPolynomials.r3 .ret) .skip))) (.seq A_spec_AddPolynomials.r4 .ret)))⟩
/-! spec_DrawComposePolynomials -/
def A_spec_DrawComposePolynomials.r0 : ACode := (.region none [⟨some 2, .move (.c (.slice none 0 0)), none⟩,
    ⟨some 3, .move (.c (.slice none 0 0)), none⟩])
def A_spec_DrawComposePolynomials.r1 : ACode := (.region none [⟨some 5, .move (.t 0), none⟩,
    ⟨some 6, .call 97 [(.t 5)], none⟩,
    ⟨some 4, .move (.t 6), none⟩])
def A_spec_DrawComposePolynomials.r2 : ACode := (.region none [⟨some 7, .move (.t 4), none⟩,
    ⟨some 8, .move (.t 4), none⟩,
    ⟨some 9, .buildSlice 1 3 [.int .i64 0] [(0, 1, (.c (.int .i64 2))), (1, 1, (.c (.int .i64 4))), (2, 1, (.c (.int .i64 8)))], none⟩,
    ⟨some 10, .call 98 [(.t 8), (.t 9)], none⟩,
    ⟨some 11, .call 99 [(.t 7), (.t 10)], none⟩,
    ⟨some 12, .move (.t 4), none⟩,
    ⟨some 13, .move (.t 4), none⟩,
    ⟨some 14, .buildSlice 1 2 [.int .i64 0] [(0, 1, (.c (.int .i64 2))), (1, 1, (.c (.int .i64 4)))], none⟩,
    ⟨some 15, .call 98 [(.t 13), (.t 14)], none⟩,
    ⟨some 16, .call 99 [(.t 12), (.t 15)], none⟩,
    ⟨some 2, .move (.t 11), none⟩,
    ⟨some 3, .move (.t 16), none⟩])
def A_spec_DrawComposePolynomials : AFunc := ⟨[.tmp 2, .tmp 3], (.seq A_spec_DrawComposePolynomials.r0 (.seq A_spec_DrawComposePolynomials.r1 (.seq A_spec_DrawComposePolynomials.r2 .ret)))⟩
/-! impl_ComposePolynomials -/
def A_impl_ComposePolynomials.r0 : ACode := (.region none [⟨some 4, .move (.c (.slice none 0 0)), none⟩,
    ⟨some 5, .move (.c (.int .i64 0)), none⟩])
def A_impl_ComposePolynomials.r1 : ACode := (.region none [⟨some 8, .move (.t 0), none⟩,
    ⟨some 9, .call 2 [(.t 8)], none⟩,
    ⟨some 10, .not (.t 9), none⟩,
    ⟨some 11, .move (.t 10), none⟩,
    ⟨some 12, .move (.t 1), some (11, false)⟩,
    ⟨some 13, .call 2 [(.t 12)], some (11, false)⟩,
    ⟨some 14, .not (.t 13), some (11, false)⟩,
    ⟨some 15, .pick (.t 11) (.c (.bool true)) (.t 14), none⟩])
def A_impl_ComposePolynomials.r2 : ACode := (.region none [⟨some 4, .move (.c (.slice none 0 0)), none⟩,
    ⟨some 5, .move (.c (.int .i64 1)), none⟩])
def A_impl_ComposePolynomials.r3 : ACode := (.region none [⟨some 16, .move (.t 0), none⟩,
    ⟨some 17, .len (.t 16), none⟩,
    ⟨some 18, .bin .sub (.t 17) (.c (.int .i64 1)), none⟩,
    ⟨some 19, .move (.t 1), none⟩,
    ⟨some 20, .len (.t 19), none⟩,
    ⟨some 21, .bin .sub (.t 20) (.c (.int .i64 1)), none⟩,
    ⟨some 22, .bin .mul (.t 18) (.t 21), none⟩,
    ⟨some 23, .bin .gtr (.t 22) (.c (.int .i64 16)), none⟩])
def A_impl_ComposePolynomials.r4 : ACode := (.region none [⟨some 4, .move (.c (.slice none 0 0)), none⟩,
    ⟨some 5, .move (.c (.int .i64 3)), none⟩])
def A_impl_ComposePolynomials.r5 : ACode := (.region none [⟨some 24, .buildSlice 1 0 [.int .i64 0] [], none⟩,
    ⟨some 6, .move (.t 24), none⟩])
def A_impl_ComposePolynomials.r6 : ACode := (.region none [⟨some 25, .move (.t 0), none⟩,
    ⟨some 26, .len (.t 25), none⟩,
    ⟨some 27, .bin .sub (.t 26) (.c (.int .i64 1)), none⟩,
    ⟨some 7, .move (.t 27), none⟩])
def A_impl_ComposePolynomials.r7 : ACode := (.region none [⟨some 28, .move (.t 7), none⟩,
    ⟨some 29, .bin .geq (.t 28) (.c (.int .i64 0)), none⟩])
def A_impl_ComposePolynomials.r9 : ACode := (.region (some 10) [⟨some 32, .move (.t 6), none⟩,
    ⟨some 33, .move (.t 1), none⟩,
    ⟨some 34, .call 75 [(.t 32), (.t 33)], none⟩,
    ⟨some 35, .move (.t 0), none⟩,
    ⟨some 36, .move (.t 7), none⟩,
    ⟨some 37, .indexAddr none 1 (.t 35) (.t 36), none⟩,
    ⟨some 38, .load none (.t 37), none⟩,
    ⟨some 39, .buildSlice 1 1 [.int .i64 0] [(0, 1, (.t 38))], none⟩,
    ⟨some 40, .call 73 [(.t 34), (.t 39)], none⟩,
    ⟨some 6, .move (.t 40), none⟩])
def A_impl_ComposePolynomials.r8 : ACode := (.region none [⟨some 30, .move (.t 7), none⟩,
    ⟨some 31, .bin .sub (.t 30) (.c (.int .i64 1)), none⟩,
    ⟨some 7, .move (.t 31), none⟩])
def A_impl_ComposePolynomials.l0 : ACode := (.seq (.seq A_impl_ComposePolynomials.r7 (.cond (.t 29) .skip (.exit 0))) (.seq (.block 1 A_impl_ComposePolynomials.r9) A_impl_ComposePolynomials.r8))
def A_impl_ComposePolynomials.r10 : ACode := (.region none [⟨some 41, .move (.t 6), none⟩,
    ⟨some 4, .move (.t 41), none⟩,
    ⟨some 5, .move (.c (.int .i64 0)), none⟩])
def A_impl_ComposePolynomials : AFunc := ⟨[.tmp 4, .tmp 5], (.seq A_impl_ComposePolynomials.r0 (.seq (.seq A_impl_ComposePolynomials.r1 (.cond (.t 15) (.seq A_impl_ComposePolynomials.r2 .ret) .skip)) (.seq (.seq A_impl_ComposePolynomials.r3 (.cond (.t 23) (.seq A_impl_ComposePolynomials.r4 .ret) .skip)) (.seq A_impl_ComposePolynomials.r5 (.seq (.seq A_impl_ComposePolynomials.r6 (.block 0 (.loop A_impl_ComposePolynomials.l0))) (.seq A_impl_ComposePolynomials.r10 .ret))))))⟩
/-! spec_ComposePolynomials -/
def A_spec_ComposePolynomials.r0 : ACode := (.region none [⟨some 4, .move (.c (.slice none 0 0)), none⟩,
    ⟨some 5, .move (.c (.int .i64 0)), none⟩])
def A_spec_ComposePolynomials.r1 : ACode := (.region none [⟨some 7, .move (.t 0), none⟩,
    ⟨some 8, .call 56 [(.t 7)], none⟩,
    ⟨some 9, .not (.t 8), none⟩,
    ⟨some 10, .move (.t 9), none⟩,
    ⟨some 11, .move (.t 1), some (10, false)⟩,
    ⟨some 12, .call 56 [(.t 11)], some (10, false)⟩,
    ⟨some 13, .not (.t 12), some (10, false)⟩,
    ⟨some 14, .pick (.t 10) (.c (.bool true)) (.t 13), none⟩,
    ⟨some 6, .move (.t 14), none⟩])
def A_spec_ComposePolynomials.r2 : ACode := (.region none [⟨some 4, .move (.c (.slice none 0 0)), none⟩,
    ⟨some 5, .move (.c (.int .i64 1)), none⟩])
def A_spec_ComposePolynomials.r3 : ACode := (.region none [⟨some 16, .move (.t 0), none⟩,
    ⟨some 17, .len (.t 16), none⟩,
    ⟨some 18, .bin .gtr (.t 17) (.c (.int .i64 1)), none⟩,
    ⟨some 19, .move (.t 18), none⟩,
    ⟨some 20, .move (.t 1), some (19, true)⟩,
    ⟨some 21, .len (.t 20), some (19, true)⟩,
    ⟨some 22, .bin .gtr (.t 21) (.c (.int .i64 1)), some (19, true)⟩,
    ⟨some 23, .pick (.t 19) (.t 22) (.c (.bool false)), none⟩,
    ⟨some 24, .move (.t 23), none⟩,
    ⟨some 25, .move (.t 0), some (24, true)⟩,
    ⟨some 26, .len (.t 25), some (24, true)⟩,
    ⟨some 27, .bin .sub (.t 26) (.c (.int .i64 1)), some (24, true)⟩,
    ⟨some 28, .move (.t 1), some (24, true)⟩,
    ⟨some 29, .len (.t 28), some (24, true)⟩,
    ⟨some 30, .bin .sub (.t 29) (.c (.int .i64 1)), some (24, true)⟩,
    ⟨some 31, .bin .mul (.t 27) (.t 30), some (24, true)⟩,
    ⟨some 32, .bin .gtr (.t 31) (.c (.int .i64 16)), some (24, true)⟩,
    ⟨some 33, .pick (.t 24) (.t 32) (.c (.bool false)), none⟩,
    ⟨some 15, .move (.t 33), none⟩])
def A_spec_ComposePolynomials.r4 : ACode := (.region none [⟨some 4, .move (.c (.slice none 0 0)), none⟩,
    ⟨some 5, .move (.c (.int .i64 3)), none⟩])
def A_spec_ComposePolynomials.r5 : ACode := (.region none [⟨some 34, .move (.t 0), none⟩,
    ⟨some 35, .move (.t 1), none⟩,
    ⟨some 36, .call 85 [(.t 34), (.t 35)], none⟩,
    ⟨some 4, .move (.t 36), none⟩,
    ⟨some 5, .move (.c (.int .i64 0)), none⟩])
def A_spec_ComposePolynomials : AFunc := ⟨[.tmp 4, .tmp 5], (.seq A_spec_ComposePolynomials.r0 (.seq (.block 0 (.seq A_spec_ComposePolynomials.r1 (.cond (.t 6) (.seq A_spec_ComposePolynomials.r2 .ret) (.seq A_spec_ComposePolynomials.r3 (.cond (.t 15) (.seq A_spec_ComposePolynomials.r4 .ret) .skip))))) (.seq A_spec_ComposePolynomials.r5 .ret)))⟩
/-! spec_DrawDerivativeOf -/
def A_spec_DrawDerivativeOf.r0 : ACode := (.region none [⟨some 2, .move (.c (.slice none 0 0)), none⟩])
def A_spec_DrawDerivativeOf.r1 : ACode := (.region none [⟨some 3, .move (.t 0), none⟩,
    ⟨some 4, .call 97 [(.t 3)], none⟩,
    ⟨some 5, .call 100 [(.t 4)], none⟩,
    ⟨some 2, .move (.t 5), none⟩])
def A_spec_DrawDerivativeOf : AFunc := ⟨[.tmp 2], (.seq A_spec_DrawDerivativeOf.r0 (.seq A_spec_DrawDerivativeOf.r1 .ret))⟩
/-! impl_DerivativeOf -/
def A_impl_DerivativeOf.r0 : ACode := (.region none [⟨some 2, .move (.c (.slice none 0 0)), none⟩,
    ⟨some 3, .move (.c (.int .i64 0)), none⟩])
def A_impl_DerivativeOf.r1 : ACode := (.region none [⟨some 4, .move (.t 0), none⟩,
    ⟨some 5, .call 2 [(.t 4)], none⟩,
    ⟨some 6, .not (.t 5), none⟩])
def A_impl_DerivativeOf.r2 : ACode := (.region none [⟨some 2, .move (.c (.slice none 0 0)), none⟩,
    ⟨some 3, .move (.c (.int .i64 1)), none⟩])
def A_impl_DerivativeOf.r3 : ACode := (.region none [⟨some 7, .move (.t 0), none⟩,
    ⟨some 8, .call 63 [(.t 7)], none⟩,
    ⟨some 2, .move (.t 8), none⟩,
    ⟨some 3, .move (.c (.int .i64 0)), none⟩])
def A_impl_DerivativeOf : AFunc := ⟨[.tmp 2, .tmp 3], (.seq A_impl_DerivativeOf.r0 (.seq (.seq A_impl_DerivativeOf.r1 (.cond (.t 6) (.seq A_impl_DerivativeOf.r2 .ret) .skip)) (.seq A_impl_DerivativeOf.r3 .ret)))⟩
/-! spec_DerivativeOf -/
def A_spec_DerivativeOf.r0 : ACode := (.region none [⟨some 2, .move (.c (.slice none 0 0)), none⟩,
    ⟨some 3, .move (.c (.int .i64 0)), none⟩])
def A_spec_DerivativeOf.r1 : ACode := (.region none [⟨some 4, .move (.t 0), none⟩,
    ⟨some 5, .call 56 [(.t 4)], none⟩,
    ⟨some 6, .not (.t 5), none⟩])
def A_spec_DerivativeOf.r2 : ACode := (.region none [⟨some 2, .move (.c (.slice none 0 0)), none⟩,
    ⟨some 3, .move (.c (.int .i64 1)), none⟩])
def A_spec_DerivativeOf.r3 : ACode := (.region none [⟨some 7, .move (.t 0), none⟩,
    ⟨some 8, .call 62 [(.t 7)], none⟩,
    ⟨some 2, .move (.t 8), none⟩,
    ⟨some 3, .move (.c (.int .i64 0)), none⟩])
def A_spec_DerivativeOf : AFunc := ⟨[.tmp 2, .tmp 3], (.seq A_spec_DerivativeOf.r0 (.seq (.seq A_spec_DerivativeOf.r1 (.cond (.t 6) (.seq A_spec_DerivativeOf.r2 .ret) .skip)) (.seq A_spec_DerivativeOf.r3 .ret)))⟩
/-! impl_CommonDivisor -/
def A_impl_CommonDivisor.r0 : ACode := (.region none [⟨some 4, .move (.c (.slice none 0 0)), none⟩,
    ⟨some 5, .move (.c (.int .i64 0)), none⟩])
def A_impl_CommonDivisor.r1 : ACode := (.region none [⟨some 7, .move (.t 0), none⟩,
    ⟨some 8, .call 2 [(.t 7)], none⟩,
    ⟨some 9, .not (.t 8), none⟩,
    ⟨some 10, .move (.t 9), none⟩,
    ⟨some 11, .move (.t 1), some (10, false)⟩,
    ⟨some 12, .call 2 [(.t 11)], some (10, false)⟩,
    ⟨some 13, .not (.t 12), some (10, false)⟩,
    ⟨some 14, .pick (.t 10) (.c (.bool true)) (.t 13), none⟩,
    ⟨some 6, .move (.t 14), none⟩])
def A_impl_CommonDivisor.r2 : ACode := (.region none [⟨some 4, .move (.c (.slice none 0 0)), none⟩,
    ⟨some 5, .move (.c (.int .i64 1)), none⟩])
def A_impl_CommonDivisor.r3 : ACode := (.region none [⟨some 16, .move (.t 0), none⟩,
    ⟨some 17, .len (.t 16), none⟩,
    ⟨some 18, .move (.t 1), none⟩,
    ⟨some 19, .len (.t 18), none⟩,
    ⟨some 20, .bin .add (.t 17) (.t 19), none⟩,
    ⟨some 21, .bin .eql (.t 20) (.c (.int .i64 0)), none⟩,
    ⟨some 15, .move (.t 21), none⟩])
def A_impl_CommonDivisor.r4 : ACode := (.region none [⟨some 4, .move (.c (.slice none 0 0)), none⟩,
    ⟨some 5, .move (.c (.int .i64 5)), none⟩])
def A_impl_CommonDivisor.r5 : ACode := (.region none [⟨some 22, .move (.t 0), none⟩,
    ⟨some 23, .move (.t 1), none⟩,
    ⟨some 24, .call 87 [(.t 22), (.t 23)], none⟩,
    ⟨some 4, .move (.t 24), none⟩,
    ⟨some 5, .move (.c (.int .i64 0)), none⟩])
def A_impl_CommonDivisor : AFunc := ⟨[.tmp 4, .tmp 5], (.seq A_impl_CommonDivisor.r0 (.seq (.block 0 (.seq A_impl_CommonDivisor.r1 (.cond (.t 6) (.seq A_impl_CommonDivisor.r2 .ret) (.seq A_impl_CommonDivisor.r3 (.cond (.t 15) (.seq A_impl_CommonDivisor.r4 .ret) .skip))))) (.seq A_impl_CommonDivisor.r5 .ret)))⟩
/-! spec_CommonDivisor -/
def A_spec_CommonDivisor.r0 : ACode := (.region none [⟨some 4, .move (.c (.slice none 0 0)), none⟩,
    ⟨some 5, .move (.c (.int .i64 0)), none⟩])
def A_spec_CommonDivisor.r1 : ACode := (.region none [⟨some 7, .move (.t 0), none⟩,
    ⟨some 8, .move (.t 1), none⟩,
    ⟨some 9, .call 71 [(.t 7), (.t 8)], none⟩,
    ⟨some 6, .move (.t 9), none⟩])
def A_spec_CommonDivisor.r2 : ACode := (.region none [⟨some 10, .move (.t 6), none⟩,
    ⟨some 11, .bin .eql (.t 10) (.c (.int .i64 0)), none⟩,
    ⟨some 12, .move (.t 11), none⟩,
    ⟨some 13, .move (.t 0), some (12, true)⟩,
    ⟨some 14, .len (.t 13), some (12, true)⟩,
    ⟨some 15, .bin .eql (.t 14) (.c (.int .i64 0)), some (12, true)⟩,
    ⟨some 16, .pick (.t 12) (.t 15) (.c (.bool false)), none⟩,
    ⟨some 17, .move (.t 16), none⟩,
    ⟨some 18, .move (.t 1), some (17, true)⟩,
    ⟨some 19, .len (.t 18), some (17, true)⟩,
    ⟨some 20, .bin .eql (.t 19) (.c (.int .i64 0)), some (17, true)⟩,
    ⟨some 21, .pick (.t 17) (.t 20) (.c (.bool false)), none⟩])
def A_spec_CommonDivisor.r3 : ACode := (.region none [⟨some 6, .move (.c (.int .i64 5)), none⟩])
def A_spec_CommonDivisor.r4 : ACode := (.region none [⟨some 22, .move (.t 6), none⟩,
    ⟨some 23, .bin .neq (.t 22) (.c (.int .i64 0)), none⟩])
def A_spec_CommonDivisor.r5 : ACode := (.region none [⟨some 24, .move (.t 6), none⟩,
    ⟨some 4, .move (.c (.slice none 0 0)), none⟩,
    ⟨some 5, .move (.t 24), none⟩])
def A_spec_CommonDivisor.r6 : ACode := (.region none [⟨some 25, .move (.t 0), none⟩,
    ⟨some 26, .move (.t 1), none⟩,
    ⟨some 27, .call 86 [(.t 25), (.t 26)], none⟩,
    ⟨some 4, .move (.t 27), none⟩,
    ⟨some 5, .move (.c (.int .i64 0)), none⟩])
def A_spec_CommonDivisor : AFunc := ⟨[.tmp 4, .tmp 5], (.seq A_spec_CommonDivisor.r0 (.seq A_spec_CommonDivisor.r1 (.seq (.seq A_spec_CommonDivisor.r2 (.cond (.t 21) A_spec_CommonDivisor.r3 .skip)) (.seq (.seq A_spec_CommonDivisor.r4 (.cond (.t 23) (.seq A_spec_CommonDivisor.r5 .ret) .skip)) (.seq A_spec_CommonDivisor.r6 .ret)))))⟩
/-! spec_DrawValueOf -/
def A_spec_DrawValueOf.r0 : ACode := (.region none [⟨some 2, .move (.c (.slice none 0 0)), none⟩,
    ⟨some 3, .move (.c (.int .i64 0)), none⟩])
def A_spec_DrawValueOf.r1 : ACode := (.region none [⟨some 5, .move (.t 0), none⟩,
    ⟨some 6, .call 97 [(.t 5)], none⟩,
    ⟨some 4, .move (.t 6), none⟩])
def A_spec_DrawValueOf.r2 : ACode := (.region none [⟨some 7, .move (.t 4), none⟩,
    ⟨some 8, .call 100 [(.t 7)], none⟩,
    ⟨some 9, .move (.t 4), none⟩,
    ⟨some 10, .call 101 [(.t 9)], none⟩,
    ⟨some 2, .move (.t 8), none⟩,
    ⟨some 3, .move (.t 10), none⟩])
def A_spec_DrawValueOf : AFunc := ⟨[.tmp 2, .tmp 3], (.seq A_spec_DrawValueOf.r0 (.seq A_spec_DrawValueOf.r1 (.seq A_spec_DrawValueOf.r2 .ret)))⟩
/-! impl_ValueOf -/
def A_impl_ValueOf.r0 : ACode := (.region none [⟨some 4, .move (.c (.int .i64 0)), none⟩,
    ⟨some 5, .move (.c (.int .i64 0)), none⟩])
def A_impl_ValueOf.r1 : ACode := (.region none [⟨some 9, .move (.t 0), none⟩,
    ⟨some 10, .call 2 [(.t 9)], none⟩,
    ⟨some 11, .not (.t 10), none⟩,
    ⟨some 8, .move (.t 11), none⟩])
def A_impl_ValueOf.r2 : ACode := (.region none [⟨some 4, .move (.c (.int .i64 0)), none⟩,
    ⟨some 5, .move (.c (.int .i64 1)), none⟩])
def A_impl_ValueOf.r3 : ACode := (.region none [⟨some 13, .move (.t 1), none⟩,
    ⟨some 14, .call 57 [(.t 13)], none⟩,
    ⟨some 15, .not (.t 14), none⟩,
    ⟨some 12, .move (.t 15), none⟩])
def A_impl_ValueOf.r4 : ACode := (.region none [⟨some 4, .move (.c (.int .i64 0)), none⟩,
    ⟨some 5, .move (.c (.int .i64 2)), none⟩])
def A_impl_ValueOf.r5 : ACode := (.region none [⟨some 6, .move (.c (.int .i64 0)), none⟩])
def A_impl_ValueOf.r6 : ACode := (.region none [⟨some 16, .move (.t 0), none⟩,
    ⟨some 17, .len (.t 16), none⟩,
    ⟨some 18, .bin .sub (.t 17) (.c (.int .i64 1)), none⟩,
    ⟨some 7, .move (.t 18), none⟩])
def A_impl_ValueOf.r7 : ACode := (.region none [⟨some 19, .move (.t 7), none⟩,
    ⟨some 20, .bin .geq (.t 19) (.c (.int .i64 0)), none⟩])
def A_impl_ValueOf.r9 : ACode := (.region none [⟨some 23, .move (.t 6), none⟩,
    ⟨some 24, .move (.t 1), none⟩,
    ⟨some 25, .bin .mul (.t 23) (.t 24), none⟩,
    ⟨some 26, .move (.t 0), none⟩,
    ⟨some 27, .move (.t 7), none⟩,
    ⟨some 28, .indexAddr none 1 (.t 26) (.t 27), none⟩,
    ⟨some 29, .load none (.t 28), none⟩,
    ⟨some 30, .bin .add (.t 25) (.t 29), none⟩,
    ⟨some 31, .bin .rem (.t 30) (.c (.int .i64 10007)), none⟩,
    ⟨some 6, .move (.t 31), none⟩])
def A_impl_ValueOf.r8 : ACode := (.region none [⟨some 21, .move (.t 7), none⟩,
    ⟨some 22, .bin .sub (.t 21) (.c (.int .i64 1)), none⟩,
    ⟨some 7, .move (.t 22), none⟩])
def A_impl_ValueOf.l0 : ACode := (.seq (.seq A_impl_ValueOf.r7 (.cond (.t 20) .skip (.exit 1))) (.seq (.block 2 A_impl_ValueOf.r9) A_impl_ValueOf.r8))
def A_impl_ValueOf.r10 : ACode := (.region none [⟨some 32, .move (.t 6), none⟩,
    ⟨some 4, .move (.t 32), none⟩,
    ⟨some 5, .move (.c (.int .i64 0)), none⟩])
def A_impl_ValueOf : AFunc := ⟨[.tmp 4, .tmp 5], (.seq A_impl_ValueOf.r0 (.seq (.block 0 (.seq A_impl_ValueOf.r1 (.cond (.t 8) (.seq A_impl_ValueOf.r2 .ret) (.seq A_impl_ValueOf.r3 (.cond (.t 12) (.seq A_impl_ValueOf.r4 .ret) .skip))))) (.seq A_impl_ValueOf.r5 (.seq (.seq A_impl_ValueOf.r6 (.block 1 (.loop A_impl_ValueOf.l0))) (.seq A_impl_ValueOf.r10 .ret)))))⟩
/-! spec_ValueOf -/
def A_spec_ValueOf.r0 : ACode := (.region none [⟨some 4, .move (.c (.int .i64 0)), none⟩,
    ⟨some 5, .move (.c (.int .i64 0)), none⟩])
def A_spec_ValueOf.r1 : ACode := (.region none [⟨some 7, .move (.t 0), none⟩,
    ⟨some 8, .call 56 [(.t 7)], none⟩,
    ⟨some 9, .not (.t 8), none⟩,
    ⟨some 6, .move (.t 9), none⟩])
def A_spec_ValueOf.r2 : ACode := (.region none [⟨some 4, .move (.c (.int .i64 0)), none⟩,
    ⟨some 5, .move (.c (.int .i64 1)), none⟩])
def A_spec_ValueOf.r3 : ACode := (.region none [⟨some 11, .move (.t 1), none⟩,
    ⟨some 12, .call 58 [(.t 11), (.c (.int .i64 0)), (.c (.int .i64 10006))], none⟩,
    ⟨some 13, .not (.t 12), none⟩,
    ⟨some 10, .move (.t 13), none⟩])
def A_spec_ValueOf.r4 : ACode := (.region none [⟨some 4, .move (.c (.int .i64 0)), none⟩,
    ⟨some 5, .move (.c (.int .i64 2)), none⟩])
def A_spec_ValueOf.r5 : ACode := (.region none [⟨some 14, .move (.t 0), none⟩,
    ⟨some 15, .move (.t 1), none⟩,
    ⟨some 16, .call 61 [(.t 14), (.t 15)], none⟩,
    ⟨some 4, .move (.t 16), none⟩,
    ⟨some 5, .move (.c (.int .i64 0)), none⟩])
def A_spec_ValueOf : AFunc := ⟨[.tmp 4, .tmp 5], (.seq A_spec_ValueOf.r0 (.seq (.block 0 (.seq A_spec_ValueOf.r1 (.cond (.t 6) (.seq A_spec_ValueOf.r2 .ret) (.seq A_spec_ValueOf.r3 (.cond (.t 10) (.seq A_spec_ValueOf.r4 .ret) .skip))))) (.seq A_spec_ValueOf.r5 .ret)))⟩
/-! spec_l01From -/
def A_spec_l01From.r0 : ACode := (.region none [⟨some 2, .move (.c (.pointer none)), none⟩])
def A_spec_l01From.r1 : ACode := (.region none [⟨some 5, .move (.t 0), none⟩,
    ⟨some 6, .move (.t 0), none⟩,
    ⟨some 7, .len (.t 6), none⟩,
    ⟨some 8, .conv .u64 (.t 7), none⟩,
    ⟨some 9, .bin .add (.c (.int .u64 8117)) (.t 8), none⟩,
    ⟨some 10, .build ([.slice none 0 0] ++ [.int .i64 0] ++ [.int .u64 0]) [(0, 1, (.t 5)), (2, 1, (.t 9))], none⟩,
    ⟨some 11, .box (.t 10), none⟩,
    ⟨some 3, .move (.t 11), none⟩])
def A_spec_l01From.r2 : ACode := (.region none [⟨some 4, .move (.c (.int .i64 0)), none⟩])
def A_spec_l01From.r3 : ACode := (.region none [⟨some 12, .move (.t 4), none⟩,
    ⟨some 13, .move (.t 0), none⟩,
    ⟨some 14, .len (.t 13), none⟩,
    ⟨some 15, .bin .lss (.t 12) (.t 14), none⟩,
    ⟨some 16, .move (.t 15), none⟩,
    ⟨some 17, .move (.t 4), some (16, true)⟩,
    ⟨some 18, .bin .lss (.t 17) (.c (.int .i64 4096)), some (16, true)⟩,
    ⟨some 19, .pick (.t 16) (.t 18) (.c (.bool false)), none⟩])
def A_spec_l01From.r5 : ACode := (.region (some 15) [⟨some 22, .move (.t 3), none⟩,
    ⟨some 23, .move (.t 3), none⟩,
    ⟨some 24, .nilCheck (.t 23), none⟩,
    ⟨some 25, .fieldAddr 2 (.t 24), none⟩,
    ⟨some 26, .load none (.t 25), none⟩,
    ⟨some 27, .bin .mul (.t 26) (.c (.int .u64 1099511628211)), none⟩,
    ⟨some 28, .move (.t 0), none⟩,
    ⟨some 29, .move (.t 4), none⟩,
    ⟨some 30, .indexAddr none 1 (.t 28) (.t 29), none⟩,
    ⟨some 31, .load none (.t 30), none⟩,
    ⟨some 32, .conv .u64 (.t 31), none⟩,
    ⟨some 33, .bin .add (.t 27) (.t 32), none⟩,
    ⟨some 34, .bin .add (.t 33) (.c (.int .u64 23)), none⟩,
    ⟨some 35, .nilCheck (.t 22), none⟩,
    ⟨some 36, .fieldAddr 2 (.t 35), none⟩,
    ⟨none, .store 1 (.t 36) (.t 34), none⟩])
def A_spec_l01From.r4 : ACode := (.region none [⟨some 20, .move (.t 4), none⟩,
    ⟨some 21, .bin .add (.t 20) (.c (.int .i64 1)), none⟩,
    ⟨some 4, .move (.t 21), none⟩])
def A_spec_l01From.l0 : ACode := (.seq (.seq A_spec_l01From.r3 (.cond (.t 19) .skip (.exit 0))) (.seq (.block 1 A_spec_l01From.r5) A_spec_l01From.r4))
def A_spec_l01From.r6 : ACode := (.region none [⟨some 37, .move (.t 3), none⟩,
    ⟨some 2, .move (.t 37), none⟩])
def A_spec_l01From : AFunc := ⟨[.tmp 2], (.seq A_spec_l01From.r0 (.seq A_spec_l01From.r1 (.seq (.seq A_spec_l01From.r2 (.block 0 (.loop A_spec_l01From.l0))) (.seq A_spec_l01From.r6 .ret))))⟩
/-! spec_l06Pair -/
def A_spec_l06Pair.r0 : ACode := (.region none [⟨some 2, .move (.c (.slice none 0 0)), none⟩,
    ⟨some 3, .move (.c (.slice none 0 0)), none⟩])
def A_spec_l06Pair.r1 : ACode := (.region none [⟨some 8, .move (.t 0), none⟩,
    ⟨some 9, .call 97 [(.t 8)], none⟩,
    ⟨some 4, .move (.t 9), none⟩])
def A_spec_l06Pair.r2 : ACode := (.region none [⟨some 10, .move (.t 4), none⟩,
    ⟨some 11, .call 99 [(.t 10), (.c (.int .i64 8))], none⟩,
    ⟨some 12, .move (.t 4), none⟩,
    ⟨some 13, .call 99 [(.t 12), (.c (.int .i64 8))], none⟩,
    ⟨some 5, .move (.t 11), none⟩,
    ⟨some 6, .move (.t 13), none⟩])
def A_spec_l06Pair.r3 : ACode := (.region none [⟨some 14, .move (.t 4), none⟩,
    ⟨some 15, .call 102 [(.t 14), (.c (.int .i64 3))], none⟩,
    ⟨some 16, .bin .eql (.t 15) (.c (.int .i64 0)), none⟩,
    ⟨some 17, .move (.t 16), none⟩,
    ⟨some 18, .move (.t 5), some (17, true)⟩,
    ⟨some 19, .call 56 [(.t 18)], some (17, true)⟩,
    ⟨some 20, .pick (.t 17) (.t 19) (.c (.bool false)), none⟩,
    ⟨some 21, .move (.t 20), none⟩,
    ⟨some 22, .move (.t 6), some (21, true)⟩,
    ⟨some 23, .call 56 [(.t 22)], some (21, true)⟩,
    ⟨some 24, .pick (.t 21) (.t 23) (.c (.bool false)), none⟩,
    ⟨some 25, .move (.t 24), none⟩,
    ⟨some 26, .move (.t 5), some (25, true)⟩,
    ⟨some 27, .len (.t 26), some (25, true)⟩,
    ⟨some 28, .bin .gtr (.t 27) (.c (.int .i64 0)), some (25, true)⟩,
    ⟨some 29, .pick (.t 25) (.t 28) (.c (.bool false)), none⟩,
    ⟨some 30, .move (.t 29), none⟩,
    ⟨some 31, .move (.t 6), some (30, true)⟩,
    ⟨some 32, .len (.t 31), some (30, true)⟩,
    ⟨some 33, .bin .gtr (.t 32) (.c (.int .i64 0)), some (30, true)⟩,
    ⟨some 34, .pick (.t 30) (.t 33) (.c (.bool false)), none⟩])
def A_spec_l06Pair.r4 : ACode := (.region none [⟨some 35, .move (.t 4), none⟩,
    ⟨some 36, .call 99 [(.t 35), (.c (.int .i64 3))], none⟩,
    ⟨some 7, .move (.t 36), none⟩])
def A_spec_l06Pair.r5 : ACode := (.region none [⟨some 37, .move (.t 7), none⟩,
    ⟨some 38, .call 56 [(.t 37)], none⟩,
    ⟨some 39, .move (.t 38), none⟩,
    ⟨some 40, .move (.t 7), some (39, true)⟩,
    ⟨some 41, .len (.t 40), some (39, true)⟩,
    ⟨some 42, .bin .gtr (.t 41) (.c (.int .i64 0)), some (39, true)⟩,
    ⟨some 43, .pick (.t 39) (.t 42) (.c (.bool false)), none⟩])
def A_spec_l06Pair.r6 : ACode := (.region none [⟨some 44, .move (.t 5), none⟩,
    ⟨some 45, .move (.t 7), none⟩,
    ⟨some 46, .call 74 [(.t 44), (.t 45)], none⟩,
    ⟨some 47, .move (.t 6), none⟩,
    ⟨some 48, .move (.t 7), none⟩,
    ⟨some 49, .call 74 [(.t 47), (.t 48)], none⟩,
    ⟨some 2, .move (.t 46), none⟩,
    ⟨some 3, .move (.t 49), none⟩])
def A_spec_l06Pair.r7 : ACode := (.region none [⟨some 50, .move (.t 5), none⟩,
    ⟨some 51, .move (.t 6), none⟩,
    ⟨some 2, .move (.t 50), none⟩,
    ⟨some 3, .move (.t 51), none⟩])
def A_spec_l06Pair : AFunc := ⟨[.tmp 2, .tmp 3], (.seq A_spec_l06Pair.r0 (.seq A_spec_l06Pair.r1 (.seq A_spec_l06Pair.r2 (.seq (.seq A_spec_l06Pair.r3 (.cond (.t 34) (.seq A_spec_l06Pair.r4 (.seq A_spec_l06Pair.r5 (.cond (.t 43) (.seq A_spec_l06Pair.r6 .ret) .skip))) .skip)) (.seq A_spec_l06Pair.r7 .ret)))))⟩
/-! impl_times -/
def A_impl_times.r0 : ACode := (.region none [⟨some 4, .move (.c (.slice none 0 0)), none⟩])
def A_impl_times.r1 : ACode := (.region none [⟨some 10, .move (.t 0), none⟩,
    ⟨some 11, .len (.t 10), none⟩,
    ⟨some 12, .bin .eql (.t 11) (.c (.int .i64 0)), none⟩,
    ⟨some 13, .move (.t 12), none⟩,
    ⟨some 14, .move (.t 1), some (13, false)⟩,
    ⟨some 15, .len (.t 14), some (13, false)⟩,
    ⟨some 16, .bin .eql (.t 15) (.c (.int .i64 0)), some (13, false)⟩,
    ⟨some 17, .pick (.t 13) (.c (.bool true)) (.t 16), none⟩])
def A_impl_times.r2 : ACode := (.region none [⟨some 4, .move (.c (.slice none 0 0)), none⟩])
def A_impl_times.r3 : ACode := (.region none [⟨some 18, .move (.t 0), none⟩,
    ⟨some 19, .len (.t 18), none⟩,
    ⟨some 20, .move (.t 1), none⟩,
    ⟨some 21, .len (.t 20), none⟩,
    ⟨some 22, .bin .add (.t 19) (.t 21), none⟩,
    ⟨some 23, .bin .sub (.t 22) (.c (.int .i64 1)), none⟩,
    ⟨some 24, .makeSlice 1 8 [.int .i64 0] (.t 23) (.t 23), none⟩,
    ⟨some 5, .move (.t 24), none⟩])
def A_impl_times.r4 : ACode := (.region none [⟨some 25, .move (.t 0), none⟩,
    ⟨some 26, .len (.t 25), none⟩,
    ⟨some 27, .move (.c (.int .i64 0)), none⟩])
def A_impl_times.r5 : ACode := (.region none [⟨some 28, .bin .lss (.t 27) (.t 26), none⟩])
def A_impl_times.r6 : ACode := (.region none [⟨some 29, .move (.t 27), none⟩,
    ⟨some 30, .indexAddr none 1 (.t 25) (.t 27), none⟩,
    ⟨some 31, .load none (.t 30), none⟩,
    ⟨some 6, .move (.t 29), none⟩,
    ⟨some 7, .move (.t 31), none⟩])
def A_impl_times.r7 : ACode := (.region none [⟨some 32, .move (.t 1), none⟩,
    ⟨some 33, .len (.t 32), none⟩,
    ⟨some 34, .move (.c (.int .i64 0)), none⟩])
def A_impl_times.r8 : ACode := (.region none [⟨some 35, .bin .lss (.t 34) (.t 33), none⟩])
def A_impl_times.r9 : ACode := (.region none [⟨some 36, .move (.t 34), none⟩,
    ⟨some 37, .indexAddr none 1 (.t 32) (.t 34), none⟩,
    ⟨some 38, .load none (.t 37), none⟩,
    ⟨some 8, .move (.t 36), none⟩,
    ⟨some 9, .move (.t 38), none⟩])
def A_impl_times.r10 : ACode := (.region none [⟨some 39, .move (.t 5), none⟩,
    ⟨some 40, .move (.t 6), none⟩,
    ⟨some 41, .move (.t 8), none⟩,
    ⟨some 42, .bin .add (.t 40) (.t 41), none⟩,
    ⟨some 43, .move (.t 5), none⟩,
    ⟨some 44, .move (.t 6), none⟩,
    ⟨some 45, .move (.t 8), none⟩,
    ⟨some 46, .bin .add (.t 44) (.t 45), none⟩,
    ⟨some 47, .indexAddr none 1 (.t 43) (.t 46), none⟩,
    ⟨some 48, .load none (.t 47), none⟩,
    ⟨some 49, .move (.t 7), none⟩,
    ⟨some 50, .move (.t 9), none⟩,
    ⟨some 51, .bin .mul (.t 49) (.t 50), none⟩,
    ⟨some 52, .bin .add (.t 48) (.t 51), none⟩,
    ⟨some 53, .bin .rem (.t 52) (.c (.int .i64 10007)), none⟩,
    ⟨some 54, .indexAddr none 1 (.t 39) (.t 42), none⟩,
    ⟨none, .store 1 (.t 54) (.t 53), none⟩])
def A_impl_times.r11 : ACode := (.region none [⟨some 55, .bin .add (.t 34) (.c (.int .i64 1)), none⟩,
    ⟨some 34, .move (.t 55), none⟩])
def A_impl_times.l0 : ACode := (.seq A_impl_times.r8 (.seq (.cond (.t 35) .skip (.exit 2)) (.seq (.block 3 (.seq A_impl_times.r9 A_impl_times.r10)) A_impl_times.r11)))
def A_impl_times.r12 : ACode := (.region none [⟨some 56, .bin .add (.t 27) (.c (.int .i64 1)), none⟩,
    ⟨some 27, .move (.t 56), none⟩])
def A_impl_times.l1 : ACode := (.seq A_impl_times.r5 (.seq (.cond (.t 28) .skip (.exit 0)) (.seq (.block 1 (.seq A_impl_times.r6 (.seq A_impl_times.r7 (.block 2 (.loop A_impl_times.l0))))) A_impl_times.r12)))
def A_impl_times.r13 : ACode := (.region none [⟨some 57, .move (.t 5), none⟩,
    ⟨some 58, .call 105 [(.t 57)], none⟩,
    ⟨some 4, .move (.t 58), none⟩])
def A_impl_times : AFunc := ⟨[.tmp 4], (.seq A_impl_times.r0 (.seq (.seq A_impl_times.r1 (.cond (.t 17) (.seq A_impl_times.r2 .ret) .skip)) (.seq A_impl_times.r3 (.seq (.seq A_impl_times.r4 (.block 0 (.loop A_impl_times.l1))) (.seq A_impl_times.r13 .ret)))))⟩
/-! spec_l06Both -/
def A_spec_l06Both.r0 : ACode := (.region none [⟨some 4, .move (.c (.int .i64 0)), none⟩])
def A_spec_l06Both.r1 : ACode := (.region none [⟨some 5, .move (.t 0), none⟩,
    ⟨some 6, .call 56 [(.t 5)], none⟩,
    ⟨some 7, .not (.t 6), none⟩,
    ⟨some 8, .move (.t 7), none⟩,
    ⟨some 9, .move (.t 1), some (8, false)⟩,
    ⟨some 10, .call 56 [(.t 9)], some (8, false)⟩,
    ⟨some 11, .not (.t 10), some (8, false)⟩,
    ⟨some 12, .pick (.t 8) (.c (.bool true)) (.t 11), none⟩])
def A_spec_l06Both.r2 : ACode := (.region none [⟨some 4, .move (.c (.int .i64 1)), none⟩])
def A_spec_l06Both.r3 : ACode := (.region none [⟨some 4, .move (.c (.int .i64 0)), none⟩])
def A_spec_l06Both : AFunc := ⟨[.tmp 4], (.seq A_spec_l06Both.r0 (.seq (.seq A_spec_l06Both.r1 (.cond (.t 12) (.seq A_spec_l06Both.r2 .ret) .skip)) (.seq A_spec_l06Both.r3 .ret)))⟩
/-! spec_l06Times -/
def A_spec_l06Times.r0 : ACode := (.region none [⟨some 4, .move (.c (.slice none 0 0)), none⟩])
def A_spec_l06Times.r1 : ACode := (.region none [⟨some 8, .move (.t 0), none⟩,
    ⟨some 9, .len (.t 8), none⟩,
    ⟨some 10, .bin .eql (.t 9) (.c (.int .i64 0)), none⟩,
    ⟨some 11, .move (.t 10), none⟩,
    ⟨some 12, .move (.t 1), some (11, false)⟩,
    ⟨some 13, .len (.t 12), some (11, false)⟩,
    ⟨some 14, .bin .eql (.t 13) (.c (.int .i64 0)), some (11, false)⟩,
    ⟨some 15, .pick (.t 11) (.c (.bool true)) (.t 14), none⟩])
def A_spec_l06Times.r2 : ACode := (.region none [⟨some 16, .buildSlice 1 0 [.int .i64 0] [], none⟩,
    ⟨some 4, .move (.t 16), none⟩])
def A_spec_l06Times.r3 : ACode := (.region none [⟨some 17, .move (.t 0), none⟩,
    ⟨some 18, .len (.t 17), none⟩,
    ⟨some 19, .move (.t 1), none⟩,
    ⟨some 20, .len (.t 19), none⟩,
    ⟨some 21, .bin .add (.t 18) (.t 20), none⟩,
    ⟨some 22, .bin .sub (.t 21) (.c (.int .i64 1)), none⟩,
    ⟨some 23, .makeSlice 1 8 [.int .i64 0] (.t 22) (.t 22), none⟩,
    ⟨some 5, .move (.t 23), none⟩])
def A_spec_l06Times.r4 : ACode := (.region none [⟨some 6, .move (.c (.int .i64 0)), none⟩])
def A_spec_l06Times.r5 : ACode := (.region none [⟨some 24, .move (.t 6), none⟩,
    ⟨some 25, .move (.t 0), none⟩,
    ⟨some 26, .len (.t 25), none⟩,
    ⟨some 27, .bin .lss (.t 24) (.t 26), none⟩])
def A_spec_l06Times.r7 : ACode := (.region none [⟨some 7, .move (.c (.int .i64 0)), none⟩])
def A_spec_l06Times.r8 : ACode := (.region none [⟨some 30, .move (.t 7), none⟩,
    ⟨some 31, .move (.t 1), none⟩,
    ⟨some 32, .len (.t 31), none⟩,
    ⟨some 33, .bin .lss (.t 30) (.t 32), none⟩])
def A_spec_l06Times.r10 : ACode := (.region (some 22) [⟨some 36, .move (.t 5), none⟩,
    ⟨some 37, .move (.t 6), none⟩,
    ⟨some 38, .move (.t 7), none⟩,
    ⟨some 39, .bin .add (.t 37) (.t 38), none⟩,
    ⟨some 40, .move (.t 5), none⟩,
    ⟨some 41, .move (.t 6), none⟩,
    ⟨some 42, .move (.t 7), none⟩,
    ⟨some 43, .bin .add (.t 41) (.t 42), none⟩,
    ⟨some 44, .indexAddr none 1 (.t 40) (.t 43), none⟩,
    ⟨some 45, .load none (.t 44), none⟩,
    ⟨some 46, .move (.t 0), none⟩,
    ⟨some 47, .move (.t 6), none⟩,
    ⟨some 48, .indexAddr none 1 (.t 46) (.t 47), none⟩,
    ⟨some 49, .load none (.t 48), none⟩,
    ⟨some 50, .move (.t 1), none⟩,
    ⟨some 51, .move (.t 7), none⟩,
    ⟨some 52, .indexAddr none 1 (.t 50) (.t 51), none⟩,
    ⟨some 53, .load none (.t 52), none⟩,
    ⟨some 54, .bin .mul (.t 49) (.t 53), none⟩,
    ⟨some 55, .bin .add (.t 45) (.t 54), none⟩,
    ⟨some 56, .call 103 [(.t 55)], none⟩,
    ⟨some 57, .indexAddr none 1 (.t 36) (.t 39), none⟩,
    ⟨none, .store 1 (.t 57) (.t 56), none⟩])
def A_spec_l06Times.r9 : ACode := (.region none [⟨some 34, .move (.t 7), none⟩,
    ⟨some 35, .bin .add (.t 34) (.c (.int .i64 1)), none⟩,
    ⟨some 7, .move (.t 35), none⟩])
def A_spec_l06Times.l0 : ACode := (.seq (.seq A_spec_l06Times.r8 (.cond (.t 33) .skip (.exit 2))) (.seq (.block 3 A_spec_l06Times.r10) A_spec_l06Times.r9))
def A_spec_l06Times.r6 : ACode := (.region none [⟨some 28, .move (.t 6), none⟩,
    ⟨some 29, .bin .add (.t 28) (.c (.int .i64 1)), none⟩,
    ⟨some 6, .move (.t 29), none⟩])
def A_spec_l06Times.l1 : ACode := (.seq (.seq A_spec_l06Times.r5 (.cond (.t 27) .skip (.exit 0))) (.seq (.block 1 (.seq A_spec_l06Times.r7 (.block 2 (.loop A_spec_l06Times.l0)))) A_spec_l06Times.r6))
def A_spec_l06Times.r11 : ACode := (.region none [⟨some 58, .move (.t 5), none⟩,
    ⟨some 59, .call 104 [(.t 58)], none⟩,
    ⟨some 4, .move (.t 59), none⟩])
def A_spec_l06Times : AFunc := ⟨[.tmp 4], (.seq A_spec_l06Times.r0 (.seq (.seq A_spec_l06Times.r1 (.cond (.t 15) (.seq A_spec_l06Times.r2 .ret) .skip)) (.seq A_spec_l06Times.r3 (.seq (.seq A_spec_l06Times.r4 (.block 0 (.loop A_spec_l06Times.l1))) (.seq A_spec_l06Times.r11 .ret)))))⟩
/-! impl_isNumber -/
def A_impl_isNumber.r0 : ACode := (.region none [⟨some 2, .move (.c (.bool false)), none⟩])
def A_impl_isNumber.r1 : ACode := (.region none [⟨some 3, .move (.t 0), none⟩,
    ⟨some 4, .bin .geq (.t 3) (.c (.int .i64 0)), none⟩,
    ⟨some 5, .move (.t 4), none⟩,
    ⟨some 6, .move (.t 0), some (5, true)⟩,
    ⟨some 7, .bin .lss (.t 6) (.c (.int .i64 10007)), some (5, true)⟩,
    ⟨some 8, .pick (.t 5) (.t 7) (.c (.bool false)), none⟩,
    ⟨some 2, .move (.t 8), none⟩])
def A_impl_isNumber : AFunc := ⟨[.tmp 2], (.seq A_impl_isNumber.r0 (.seq A_impl_isNumber.r1 .ret))⟩
/-! spec_l06Is -/
def A_spec_l06Is.r0 : ACode := (.region none [⟨some 2, .move (.c (.bool false)), none⟩])
def A_spec_l06Is.r1 : ACode := (.region none [⟨some 3, .move (.c (.int .i64 0)), none⟩])
def A_spec_l06Is.r2 : ACode := (.region none [⟨some 4, .move (.t 3), none⟩,
    ⟨some 5, .move (.t 0), none⟩,
    ⟨some 6, .len (.t 5), none⟩,
    ⟨some 7, .bin .lss (.t 4) (.t 6), none⟩])
def A_spec_l06Is.r4 : ACode := (.region none [⟨some 10, .move (.t 0), none⟩,
    ⟨some 11, .move (.t 3), none⟩,
    ⟨some 12, .indexAddr none 1 (.t 10) (.t 11), none⟩,
    ⟨some 13, .load none (.t 12), none⟩,
    ⟨some 14, .call 58 [(.t 13), (.c (.int .i64 0)), (.c (.int .i64 10006))], none⟩,
    ⟨some 15, .not (.t 14), none⟩])
def A_spec_l06Is.r5 : ACode := (.region none [⟨some 2, .move (.c (.bool false)), none⟩])
def A_spec_l06Is.r3 : ACode := (.region none [⟨some 8, .move (.t 3), none⟩,
    ⟨some 9, .bin .add (.t 8) (.c (.int .i64 1)), none⟩,
    ⟨some 3, .move (.t 9), none⟩])
def A_spec_l06Is.l0 : ACode := (.seq (.seq A_spec_l06Is.r2 (.cond (.t 7) .skip (.exit 0))) (.seq (.block 1 (.seq A_spec_l06Is.r4 (.cond (.t 15) (.seq A_spec_l06Is.r5 .ret) .skip))) A_spec_l06Is.r3))
def A_spec_l06Is.r6 : ACode := (.region none [⟨some 16, .move (.t 0), none⟩,
    ⟨some 17, .len (.t 16), none⟩,
    ⟨some 18, .bin .leq (.t 17) (.c (.int .i64 17)), none⟩,
    ⟨some 19, .move (.t 18), none⟩,
    ⟨some 20, .move (.t 0), some (19, true)⟩,
    ⟨some 21, .len (.t 20), some (19, true)⟩,
    ⟨some 22, .bin .eql (.t 21) (.c (.int .i64 0)), some (19, true)⟩,
    ⟨some 23, .move (.t 22), some (19, true)⟩,
    ⟨some 24, .move (.t 0), some (23, false)⟩,
    ⟨some 25, .move (.t 0), some (23, false)⟩,
    ⟨some 26, .len (.t 25), some (23, false)⟩,
    ⟨some 27, .bin .sub (.t 26) (.c (.int .i64 1)), some (23, false)⟩,
    ⟨some 28, .indexAddr none 1 (.t 24) (.t 27), some (23, false)⟩,
    ⟨some 29, .load none (.t 28), some (23, false)⟩,
    ⟨some 30, .bin .neq (.t 29) (.c (.int .i64 0)), some (23, false)⟩,
    ⟨some 31, .pick (.t 23) (.c (.bool true)) (.t 30), some (19, true)⟩,
    ⟨some 32, .pick (.t 19) (.t 31) (.c (.bool false)), none⟩,
    ⟨some 2, .move (.t 32), none⟩])
def A_spec_l06Is : AFunc := ⟨[.tmp 2], (.seq A_spec_l06Is.r0 (.seq (.seq A_spec_l06Is.r1 (.block 0 (.loop A_spec_l06Is.l0))) (.seq A_spec_l06Is.r6 .ret)))⟩
/-! impl_addAll -/
def A_impl_addAll.r0 : ACode := (.region none [⟨some 4, .move (.c (.slice none 0 0)), none⟩])
def A_impl_addAll.r1 : ACode := (.region none [⟨some 7, .move (.t 0), none⟩,
    ⟨some 8, .len (.t 7), none⟩,
    ⟨some 9, .move (.t 1), none⟩,
    ⟨some 10, .len (.t 9), none⟩,
    ⟨some 11, .max [(.t 8), (.t 10)], none⟩,
    ⟨some 12, .makeSlice 1 8 [.int .i64 0] (.t 11) (.t 11), none⟩,
    ⟨some 5, .move (.t 12), none⟩])
def A_impl_addAll.r2 : ACode := (.region none [⟨some 13, .move (.t 5), none⟩,
    ⟨some 14, .len (.t 13), none⟩,
    ⟨some 15, .move (.c (.int .i64 0)), none⟩])
def A_impl_addAll.r3 : ACode := (.region none [⟨some 16, .bin .lss (.t 15) (.t 14), none⟩])
def A_impl_addAll.r4 : ACode := (.region none [⟨some 17, .move (.t 15), none⟩,
    ⟨some 6, .move (.t 17), none⟩])
def A_impl_addAll.r5 : ACode := (.region none [⟨some 18, .move (.t 6), none⟩,
    ⟨some 19, .move (.t 0), none⟩,
    ⟨some 20, .len (.t 19), none⟩,
    ⟨some 21, .bin .lss (.t 18) (.t 20), none⟩])
def A_impl_addAll.r6 : ACode := (.region (some 10) [⟨some 22, .move (.t 5), none⟩,
    ⟨some 23, .move (.t 6), none⟩,
    ⟨some 24, .indexAddr none 1 (.t 22) (.t 23), none⟩,
    ⟨some 25, .load none (.t 24), none⟩,
    ⟨some 26, .move (.t 0), none⟩,
    ⟨some 27, .move (.t 6), none⟩,
    ⟨some 28, .indexAddr none 1 (.t 26) (.t 27), none⟩,
    ⟨some 29, .load none (.t 28), none⟩,
    ⟨some 30, .bin .add (.t 25) (.t 29), none⟩,
    ⟨some 31, .indexAddr none 1 (.t 22) (.t 23), none⟩,
    ⟨none, .store 1 (.t 31) (.t 30), none⟩])
def A_impl_addAll.r7 : ACode := (.region none [⟨some 32, .move (.t 6), none⟩,
    ⟨some 33, .move (.t 1), none⟩,
    ⟨some 34, .len (.t 33), none⟩,
    ⟨some 35, .bin .lss (.t 32) (.t 34), none⟩])
def A_impl_addAll.r8 : ACode := (.region (some 10) [⟨some 36, .move (.t 5), none⟩,
    ⟨some 37, .move (.t 6), none⟩,
    ⟨some 38, .indexAddr none 1 (.t 36) (.t 37), none⟩,
    ⟨some 39, .load none (.t 38), none⟩,
    ⟨some 40, .move (.t 1), none⟩,
    ⟨some 41, .move (.t 6), none⟩,
    ⟨some 42, .indexAddr none 1 (.t 40) (.t 41), none⟩,
    ⟨some 43, .load none (.t 42), none⟩,
    ⟨some 44, .bin .add (.t 39) (.t 43), none⟩,
    ⟨some 45, .indexAddr none 1 (.t 36) (.t 37), none⟩,
    ⟨none, .store 1 (.t 45) (.t 44), none⟩])
def A_impl_addAll.r9 : ACode := (.region none [⟨some 46, .move (.t 5), none⟩,
    ⟨some 47, .move (.t 6), none⟩,
    ⟨some 48, .indexAddr none 1 (.t 46) (.t 47), none⟩,
    ⟨some 49, .load none (.t 48), none⟩,
    ⟨some 50, .bin .rem (.t 49) (.c (.int .i64 10007)), none⟩,
    ⟨some 51, .indexAddr none 1 (.t 46) (.t 47), none⟩,
    ⟨none, .store 1 (.t 51) (.t 50), none⟩])
def A_impl_addAll.r10 : ACode := (.region none [⟨some 52, .bin .add (.t 15) (.c (.int .i64 1)), none⟩,
    ⟨some 15, .move (.t 52), none⟩])
def A_impl_addAll.l0 : ACode := (.seq A_impl_addAll.r3 (.seq (.cond (.t 16) .skip (.exit 0)) (.seq (.block 1 (.seq A_impl_addAll.r4 (.seq (.seq A_impl_addAll.r5 (.cond (.t 21) A_impl_addAll.r6 .skip)) (.seq (.seq A_impl_addAll.r7 (.cond (.t 35) A_impl_addAll.r8 .skip)) A_impl_addAll.r9)))) A_impl_addAll.r10)))
def A_impl_addAll.r11 : ACode := (.region none [⟨some 53, .move (.t 5), none⟩,
    ⟨some 54, .call 105 [(.t 53)], none⟩,
    ⟨some 4, .move (.t 54), none⟩])
def A_impl_addAll : AFunc := ⟨[.tmp 4], (.seq A_impl_addAll.r0 (.seq A_impl_addAll.r1 (.seq (.seq A_impl_addAll.r2 (.block 0 (.loop A_impl_addAll.l0))) (.seq A_impl_addAll.r11 .ret))))⟩
/-! spec_l06Add -/
def A_spec_l06Add.r0 : ACode := (.region none [⟨some 6, .move (.c (.slice none 0 0)), none⟩])
def A_spec_l06Add.r1 : ACode := (.region none [⟨some 10, .buildSlice 1 0 [.int .i64 0] [], none⟩,
    ⟨some 7, .move (.t 10), none⟩])
def A_spec_l06Add.r2 : ACode := (.region none [⟨some 8, .move (.c (.int .i64 0)), none⟩])
def A_spec_l06Add.r3 : ACode := (.region none [⟨some 11, .move (.t 8), none⟩,
    ⟨some 12, .move (.t 0), none⟩,
    ⟨some 13, .len (.t 12), none⟩,
    ⟨some 14, .bin .lss (.t 11) (.t 13), none⟩,
    ⟨some 15, .move (.t 14), none⟩,
    ⟨some 16, .move (.t 8), some (15, false)⟩,
    ⟨some 17, .move (.t 1), some (15, false)⟩,
    ⟨some 18, .len (.t 17), some (15, false)⟩,
    ⟨some 19, .bin .lss (.t 16) (.t 18), some (15, false)⟩,
    ⟨some 20, .pick (.t 15) (.c (.bool true)) (.t 19), none⟩])
def A_spec_l06Add.r5 : ACode := (.region none [⟨some 9, .move (.c (.int .i64 0)), none⟩])
def A_spec_l06Add.r6 : ACode := (.region none [⟨some 23, .move (.t 8), none⟩,
    ⟨some 24, .move (.t 0), none⟩,
    ⟨some 25, .len (.t 24), none⟩,
    ⟨some 26, .bin .lss (.t 23) (.t 25), none⟩])
def A_spec_l06Add.r7 : ACode := (.region none [⟨some 27, .move (.t 0), none⟩,
    ⟨some 28, .move (.t 8), none⟩,
    ⟨some 29, .indexAddr none 1 (.t 27) (.t 28), none⟩,
    ⟨some 30, .load none (.t 29), none⟩,
    ⟨some 9, .move (.t 30), none⟩])
def A_spec_l06Add.r8 : ACode := (.region none [⟨some 31, .move (.t 8), none⟩,
    ⟨some 32, .move (.t 1), none⟩,
    ⟨some 33, .len (.t 32), none⟩,
    ⟨some 34, .bin .lss (.t 31) (.t 33), none⟩])
def A_spec_l06Add.r9 : ACode := (.region none [⟨some 35, .move (.t 9), none⟩,
    ⟨some 36, .move (.t 2), none⟩,
    ⟨some 37, .move (.t 1), none⟩,
    ⟨some 38, .move (.t 8), none⟩,
    ⟨some 39, .indexAddr none 1 (.t 37) (.t 38), none⟩,
    ⟨some 40, .load none (.t 39), none⟩,
    ⟨some 41, .bin .mul (.t 36) (.t 40), none⟩,
    ⟨some 42, .bin .add (.t 35) (.t 41), none⟩,
    ⟨some 9, .move (.t 42), none⟩])
def A_spec_l06Add.r10 : ACode := (.region none [⟨some 43, .move (.t 7), none⟩,
    ⟨some 44, .move (.t 9), none⟩,
    ⟨some 45, .call 103 [(.t 44)], none⟩,
    ⟨some 46, .buildSlice 1 1 [.int .i64 0] [(0, 1, (.t 45))], none⟩,
    ⟨some 47, .append 1 8 (.t 43) (.t 46), none⟩,
    ⟨some 7, .move (.t 47), none⟩])
def A_spec_l06Add.r4 : ACode := (.region none [⟨some 21, .move (.t 8), none⟩,
    ⟨some 22, .bin .add (.t 21) (.c (.int .i64 1)), none⟩,
    ⟨some 8, .move (.t 22), none⟩])
def A_spec_l06Add.l0 : ACode := (.seq (.seq A_spec_l06Add.r3 (.cond (.t 20) .skip (.exit 0))) (.seq (.block 1 (.seq A_spec_l06Add.r5 (.seq (.seq A_spec_l06Add.r6 (.cond (.t 26) A_spec_l06Add.r7 .skip)) (.seq (.seq A_spec_l06Add.r8 (.cond (.t 34) A_spec_l06Add.r9 .skip)) A_spec_l06Add.r10)))) A_spec_l06Add.r4))
def A_spec_l06Add.r11 : ACode := (.region none [⟨some 48, .move (.t 7), none⟩,
    ⟨some 49, .call 104 [(.t 48)], none⟩,
    ⟨some 6, .move (.t 49), none⟩])
def A_spec_l06Add : AFunc := ⟨[.tmp 6], (.seq A_spec_l06Add.r0 (.seq A_spec_l06Add.r1 (.seq (.seq A_spec_l06Add.r2 (.block 0 (.loop A_spec_l06Add.l0))) (.seq A_spec_l06Add.r11 .ret))))⟩
/-! spec_l06Draw -/
def A_spec_l06Draw.r0 : ACode := (.region none [⟨some 4, .move (.c (.slice none 0 0)), none⟩])
def A_spec_l06Draw.r1 : ACode := (.region none [⟨some 7, .buildSlice 1 0 [.int .i64 0] [], none⟩,
    ⟨some 5, .move (.t 7), none⟩])
def A_spec_l06Draw.r2 : ACode := (.region none [⟨some 8, .move (.t 0), none⟩,
    ⟨some 9, .move (.t 1), none⟩,
    ⟨some 10, .bin .add (.t 9) (.c (.int .i64 2)), none⟩,
    ⟨some 11, .call 102 [(.t 8), (.t 10)], none⟩,
    ⟨some 6, .move (.t 11), none⟩])
def A_spec_l06Draw.r3 : ACode := (.region none [⟨some 12, .move (.t 6), none⟩,
    ⟨some 13, .bin .gtr (.t 12) (.c (.int .i64 0)), none⟩])
def A_spec_l06Draw.r5 : ACode := (.region none [⟨some 16, .move (.t 5), none⟩,
    ⟨some 17, .move (.t 0), none⟩,
    ⟨some 18, .move (.t 0), none⟩,
    ⟨some 19, .call 102 [(.t 18), (.c (.int .i64 10))], none⟩,
    ⟨some 20, .move (.t 0), none⟩,
    ⟨some 21, .call 102 [(.t 20), (.c (.int .i64 10007))], none⟩,
    ⟨some 22, .buildSlice 1 5 [.int .i64 0] [(0, 1, (.c (.int .i64 0))), (1, 1, (.c (.int .i64 0))), (2, 1, (.c (.int .i64 1))), (3, 1, (.t 19)), (4, 1, (.t 21))], none⟩,
    ⟨some 23, .call 98 [(.t 17), (.t 22)], none⟩,
    ⟨some 24, .buildSlice 1 1 [.int .i64 0] [(0, 1, (.t 23))], none⟩,
    ⟨some 25, .append 1 8 (.t 16) (.t 24), none⟩,
    ⟨some 5, .move (.t 25), none⟩])
def A_spec_l06Draw.r4 : ACode := (.region none [⟨some 14, .move (.t 6), none⟩,
    ⟨some 15, .bin .sub (.t 14) (.c (.int .i64 1)), none⟩,
    ⟨some 6, .move (.t 15), none⟩])
def A_spec_l06Draw.l0 : ACode := (.seq (.seq A_spec_l06Draw.r3 (.cond (.t 13) .skip (.exit 0))) (.seq (.block 1 A_spec_l06Draw.r5) A_spec_l06Draw.r4))
def A_spec_l06Draw.r6 : ACode := (.region none [⟨some 26, .move (.t 5), none⟩,
    ⟨some 27, .call 104 [(.t 26)], none⟩,
    ⟨some 5, .move (.t 27), none⟩])
def A_spec_l06Draw.r7 : ACode := (.region none [⟨some 28, .move (.t 0), none⟩,
    ⟨some 29, .call 102 [(.t 28), (.c (.int .i64 40))], none⟩])
def A_spec_l06Draw.r8 : ACode := (.region none [⟨some 31, .bin .eql (.t 29) (.c (.int .i64 0)), none⟩,
    ⟨some 30, .move (.t 31), none⟩])
def A_spec_l06Draw.r9 : ACode := (.region none [⟨some 32, .move (.t 5), none⟩,
    ⟨some 33, .buildSlice 1 1 [.int .i64 0] [(0, 1, (.c (.int .i64 0)))], none⟩,
    ⟨some 34, .append 1 8 (.t 32) (.t 33), none⟩,
    ⟨some 5, .move (.t 34), none⟩])
def A_spec_l06Draw.r10 : ACode := (.region none [⟨some 36, .bin .eql (.t 29) (.c (.int .i64 1)), none⟩,
    ⟨some 35, .move (.t 36), none⟩])
def A_spec_l06Draw.r11 : ACode := (.region none [⟨some 37, .move (.t 5), none⟩,
    ⟨some 38, .move (.t 0), none⟩,
    ⟨some 39, .buildSlice 1 2 [.int .i64 0] [(0, 1, (.c (.int .i64 10007))), (1, 1, (.c (.int .i64 (-1))))], none⟩,
    ⟨some 40, .call 98 [(.t 38), (.t 39)], none⟩,
    ⟨some 41, .buildSlice 1 1 [.int .i64 0] [(0, 1, (.t 40))], none⟩,
    ⟨some 42, .append 1 8 (.t 37) (.t 41), none⟩,
    ⟨some 5, .move (.t 42), none⟩])
def A_spec_l06Draw.r12 : ACode := (.region none [⟨some 43, .move (.t 5), none⟩,
    ⟨some 4, .move (.t 43), none⟩])
def A_spec_l06Draw : AFunc := ⟨[.tmp 4], (.seq A_spec_l06Draw.r0 (.seq A_spec_l06Draw.r1 (.seq (.seq A_spec_l06Draw.r2 (.block 0 (.loop A_spec_l06Draw.l0))) (.seq A_spec_l06Draw.r6 (.seq (.seq A_spec_l06Draw.r7 (.block 2 (.seq A_spec_l06Draw.r8 (.cond (.t 30) A_spec_l06Draw.r9 (.seq A_spec_l06Draw.r10 (.cond (.t 35) A_spec_l06Draw.r11 .skip)))))) (.seq A_spec_l06Draw.r12 .ret))))))⟩
/-! spec_l01Pick -/
def A_spec_l01Pick.r0 : ACode := (.region none [⟨some 4, .move (.c (.int .i64 0)), none⟩])
def A_spec_l01Pick.r1 : ACode := (.region none [⟨some 5, .move (.t 1), none⟩,
    ⟨some 6, .move (.t 0), none⟩,
    ⟨some 7, .move (.t 1), none⟩,
    ⟨some 8, .len (.t 7), none⟩,
    ⟨some 9, .call 102 [(.t 6), (.t 8)], none⟩,
    ⟨some 10, .indexAddr none 1 (.t 5) (.t 9), none⟩,
    ⟨some 11, .load none (.t 10), none⟩,
    ⟨some 4, .move (.t 11), none⟩])
def A_spec_l01Pick : AFunc := ⟨[.tmp 4], (.seq A_spec_l01Pick.r0 (.seq A_spec_l01Pick.r1 .ret))⟩
/-! spec_l06Compose -/
def A_spec_l06Compose.r0 : ACode := (.region none [⟨some 4, .move (.c (.slice none 0 0)), none⟩])
def A_spec_l06Compose.r1 : ACode := (.region none [⟨some 7, .buildSlice 1 0 [.int .i64 0] [], none⟩,
    ⟨some 5, .move (.t 7), none⟩])
def A_spec_l06Compose.r2 : ACode := (.region none [⟨some 8, .move (.t 0), none⟩,
    ⟨some 9, .len (.t 8), none⟩,
    ⟨some 10, .bin .sub (.t 9) (.c (.int .i64 1)), none⟩,
    ⟨some 6, .move (.t 10), none⟩])
def A_spec_l06Compose.r3 : ACode := (.region none [⟨some 11, .move (.t 6), none⟩,
    ⟨some 12, .bin .geq (.t 11) (.c (.int .i64 0)), none⟩])
def A_spec_l06Compose.r5 : ACode := (.region (some 11) [⟨some 15, .move (.t 5), none⟩,
    ⟨some 16, .move (.t 1), none⟩,
    ⟨some 17, .call 74 [(.t 15), (.t 16)], none⟩,
    ⟨some 18, .move (.t 0), none⟩,
    ⟨some 19, .move (.t 6), none⟩,
    ⟨some 20, .indexAddr none 1 (.t 18) (.t 19), none⟩,
    ⟨some 21, .load none (.t 20), none⟩,
    ⟨some 22, .buildSlice 1 1 [.int .i64 0] [(0, 1, (.t 21))], none⟩,
    ⟨some 23, .call 104 [(.t 22)], none⟩,
    ⟨some 24, .call 72 [(.t 17), (.t 23), (.c (.int .i64 1))], none⟩,
    ⟨some 5, .move (.t 24), none⟩])
def A_spec_l06Compose.r4 : ACode := (.region none [⟨some 13, .move (.t 6), none⟩,
    ⟨some 14, .bin .sub (.t 13) (.c (.int .i64 1)), none⟩,
    ⟨some 6, .move (.t 14), none⟩])
def A_spec_l06Compose.l0 : ACode := (.seq (.seq A_spec_l06Compose.r3 (.cond (.t 12) .skip (.exit 0))) (.seq (.block 1 A_spec_l06Compose.r5) A_spec_l06Compose.r4))
def A_spec_l06Compose.r6 : ACode := (.region none [⟨some 25, .move (.t 5), none⟩,
    ⟨some 4, .move (.t 25), none⟩])
def A_spec_l06Compose : AFunc := ⟨[.tmp 4], (.seq A_spec_l06Compose.r0 (.seq A_spec_l06Compose.r1 (.seq (.seq A_spec_l06Compose.r2 (.block 0 (.loop A_spec_l06Compose.l0))) (.seq A_spec_l06Compose.r6 .ret))))⟩
/-! spec_l06Some -/
def A_spec_l06Some.r0 : ACode := (.region none [⟨some 2, .move (.c (.slice none 0 0)), none⟩])
def A_spec_l06Some.r1 : ACode := (.region none [⟨some 6, .move (.t 0), none⟩,
    ⟨some 7, .call 102 [(.t 6), (.c (.int .i64 6))], none⟩])
def A_spec_l06Some.r2 : ACode := (.region none [⟨some 9, .bin .eql (.t 7) (.c (.int .i64 0)), none⟩,
    ⟨some 8, .move (.t 9), none⟩])
def A_spec_l06Some.r3 : ACode := (.region none [⟨some 10, .move (.t 0), none⟩,
    ⟨some 11, .call 102 [(.t 10), (.c (.int .i64 6))], none⟩,
    ⟨some 12, .bin .add (.c (.int .i64 1)) (.t 11), none⟩,
    ⟨some 13, .move (.t 0), none⟩,
    ⟨some 14, .call 102 [(.t 13), (.c (.int .i64 9))], none⟩,
    ⟨some 15, .bin .add (.c (.int .i64 1)) (.t 14), none⟩,
    ⟨some 16, .call 59 [(.t 12), (.t 15)], none⟩,
    ⟨some 2, .move (.t 16), none⟩])
def A_spec_l06Some.r4 : ACode := (.region none [⟨some 18, .bin .eql (.t 7) (.c (.int .i64 1)), none⟩,
    ⟨some 17, .move (.t 18), none⟩])
def A_spec_l06Some.r5 : ACode := (.region none [⟨some 19, .move (.t 0), none⟩,
    ⟨some 20, .call 102 [(.t 19), (.c (.int .i64 9))], none⟩,
    ⟨some 21, .bin .add (.c (.int .i64 1)) (.t 20), none⟩,
    ⟨some 22, .call 76 [(.t 21)], none⟩,
    ⟨some 2, .move (.t 22), none⟩])
def A_spec_l06Some.r6 : ACode := (.region none [⟨some 24, .bin .eql (.t 7) (.c (.int .i64 2)), none⟩,
    ⟨some 23, .move (.t 24), none⟩])
def A_spec_l06Some.r7 : ACode := (.region none [⟨some 25, .move (.t 0), none⟩,
    ⟨some 26, .call 102 [(.t 25), (.c (.int .i64 5))], none⟩,
    ⟨some 27, .bin .add (.c (.int .i64 1)) (.t 26), none⟩,
    ⟨some 28, .move (.t 0), none⟩,
    ⟨some 29, .call 102 [(.t 28), (.c (.int .i64 5))], none⟩,
    ⟨some 30, .bin .add (.c (.int .i64 1)) (.t 29), none⟩,
    ⟨some 31, .call 82 [(.t 27), (.t 30)], none⟩,
    ⟨some 2, .move (.t 31), none⟩])
def A_spec_l06Some.r8 : ACode := (.region none [⟨some 33, .bin .eql (.t 7) (.c (.int .i64 3)), none⟩,
    ⟨some 32, .move (.t 33), none⟩])
def A_spec_l06Some.r9 : ACode := (.region none [⟨some 34, .move (.t 0), none⟩,
    ⟨some 35, .call 102 [(.t 34), (.c (.int .i64 2))], none⟩,
    ⟨some 36, .bin .add (.c (.int .i64 1)) (.t 35), none⟩,
    ⟨some 37, .move (.t 0), none⟩,
    ⟨some 38, .call 102 [(.t 37), (.c (.int .i64 2))], none⟩,
    ⟨some 39, .bin .add (.c (.int .i64 1)) (.t 38), none⟩,
    ⟨some 40, .call 82 [(.t 36), (.t 39)], none⟩,
    ⟨some 41, .move (.t 0), none⟩,
    ⟨some 42, .call 102 [(.t 41), (.c (.int .i64 2))], none⟩,
    ⟨some 43, .bin .add (.c (.int .i64 1)) (.t 42), none⟩,
    ⟨some 44, .move (.t 0), none⟩,
    ⟨some 45, .call 102 [(.t 44), (.c (.int .i64 2))], none⟩,
    ⟨some 46, .bin .add (.c (.int .i64 1)) (.t 45), none⟩,
    ⟨some 47, .call 82 [(.t 43), (.t 46)], none⟩,
    ⟨some 48, .call 85 [(.t 40), (.t 47)], none⟩,
    ⟨some 2, .move (.t 48), none⟩])
def A_spec_l06Some.r10 : ACode := (.region none [⟨some 50, .bin .eql (.t 7) (.c (.int .i64 4)), none⟩,
    ⟨some 49, .move (.t 50), none⟩])
def A_spec_l06Some.r11 : ACode := (.region none [⟨some 51, .move (.t 0), none⟩,
    ⟨some 52, .call 99 [(.t 51), (.c (.int .i64 3))], none⟩,
    ⟨some 53, .buildSlice 1 1 [.int .i64 0] [(0, 1, (.c (.int .i64 1)))], none⟩,
    ⟨some 3, .move (.t 52), none⟩,
    ⟨some 4, .move (.t 53), none⟩])
def A_spec_l06Some.r12 : ACode := (.region none [⟨some 54, .move (.t 3), none⟩,
    ⟨some 55, .call 56 [(.t 54)], none⟩,
    ⟨some 56, .not (.t 55), none⟩])
def A_spec_l06Some.r13 : ACode := (.region none [⟨some 57, .move (.t 3), none⟩,
    ⟨some 2, .move (.t 57), none⟩])
def A_spec_l06Some.r14 : ACode := (.region none [⟨some 58, .move (.t 0), none⟩,
    ⟨some 59, .call 102 [(.t 58), (.c (.int .i64 3))], none⟩,
    ⟨some 60, .bin .add (.c (.int .i64 1)) (.t 59), none⟩,
    ⟨some 5, .move (.t 60), none⟩])
def A_spec_l06Some.r15 : ACode := (.region none [⟨some 61, .move (.t 5), none⟩,
    ⟨some 62, .bin .gtr (.t 61) (.c (.int .i64 0)), none⟩])
def A_spec_l06Some.r17 : ACode := (.region none [⟨some 65, .move (.t 4), none⟩,
    ⟨some 66, .move (.t 3), none⟩,
    ⟨some 67, .call 74 [(.t 65), (.t 66)], none⟩,
    ⟨some 4, .move (.t 67), none⟩])
def A_spec_l06Some.r16 : ACode := (.region none [⟨some 63, .move (.t 5), none⟩,
    ⟨some 64, .bin .sub (.t 63) (.c (.int .i64 1)), none⟩,
    ⟨some 5, .move (.t 64), none⟩])
def A_spec_l06Some.l0 : ACode := (.seq (.seq A_spec_l06Some.r15 (.cond (.t 62) .skip (.exit 1))) (.seq (.block 2 A_spec_l06Some.r17) A_spec_l06Some.r16))
def A_spec_l06Some.r18 : ACode := (.region none [⟨some 68, .move (.t 4), none⟩,
    ⟨some 2, .move (.t 68), none⟩])
def A_spec_l06Some.r19 : ACode := (.region none [⟨some 69, .move (.t 0), none⟩,
    ⟨some 70, .call 99 [(.t 69), (.c (.int .i64 8))], none⟩,
    ⟨some 2, .move (.t 70), none⟩])
def A_spec_l06Some : AFunc := ⟨[.tmp 2], (.seq A_spec_l06Some.r0 (.seq (.seq A_spec_l06Some.r1 (.block 0 (.seq A_spec_l06Some.r2 (.cond (.t 8) (.seq A_spec_l06Some.r3 .ret) (.seq A_spec_l06Some.r4 (.cond (.t 17) (.seq A_spec_l06Some.r5 .ret) (.seq A_spec_l06Some.r6 (.cond (.t 23) (.seq A_spec_l06Some.r7 .ret) (.seq A_spec_l06Some.r8 (.cond (.t 32) (.seq A_spec_l06Some.r9 .ret) (.seq A_spec_l06Some.r10 (.cond (.t 49) (.seq A_spec_l06Some.r11 (.seq (.seq A_spec_l06Some.r12 (.cond (.t 56) (.seq A_spec_l06Some.r13 .ret) .skip)) (.seq (.seq A_spec_l06Some.r14 (.block 1 (.loop A_spec_l06Some.l0))) (.seq A_spec_l06Some.r18 .ret)))) .skip)))))))))))) (.seq A_spec_l06Some.r19 .ret)))⟩
/-! impl_derivative -/
def A_impl_derivative.r0 : ACode := (.region none [⟨some 2, .move (.c (.slice none 0 0)), none⟩])
def A_impl_derivative.r1 : ACode := (.region none [⟨some 5, .buildSlice 1 0 [.int .i64 0] [], none⟩,
    ⟨some 3, .move (.t 5), none⟩])
def A_impl_derivative.r2 : ACode := (.region none [⟨some 4, .move (.c (.int .i64 1)), none⟩])
def A_impl_derivative.r3 : ACode := (.region none [⟨some 6, .move (.t 4), none⟩,
    ⟨some 7, .move (.t 0), none⟩,
    ⟨some 8, .len (.t 7), none⟩,
    ⟨some 9, .bin .lss (.t 6) (.t 8), none⟩])
def A_impl_derivative.r5 : ACode := (.region none [⟨some 12, .move (.t 3), none⟩,
    ⟨some 13, .move (.t 0), none⟩,
    ⟨some 14, .move (.t 4), none⟩,
    ⟨some 15, .indexAddr none 1 (.t 13) (.t 14), none⟩,
    ⟨some 16, .load none (.t 15), none⟩,
    ⟨some 17, .move (.t 4), none⟩,
    ⟨some 18, .bin .mul (.t 16) (.t 17), none⟩,
    ⟨some 19, .bin .rem (.t 18) (.c (.int .i64 10007)), none⟩,
    ⟨some 20, .buildSlice 1 1 [.int .i64 0] [(0, 1, (.t 19))], none⟩,
    ⟨some 21, .append 1 8 (.t 12) (.t 20), none⟩,
    ⟨some 3, .move (.t 21), none⟩])
def A_impl_derivative.r4 : ACode := (.region none [⟨some 10, .move (.t 4), none⟩,
    ⟨some 11, .bin .add (.t 10) (.c (.int .i64 1)), none⟩,
    ⟨some 4, .move (.t 11), none⟩])
def A_impl_derivative.l0 : ACode := (.seq (.seq A_impl_derivative.r3 (.cond (.t 9) .skip (.exit 0))) (.seq (.block 1 A_impl_derivative.r5) A_impl_derivative.r4))
def A_impl_derivative.r6 : ACode := (.region none [⟨some 22, .move (.t 3), none⟩,
    ⟨some 23, .call 105 [(.t 22)], none⟩,
    ⟨some 2, .move (.t 23), none⟩])
def A_impl_derivative : AFunc := ⟨[.tmp 2], (.seq A_impl_derivative.r0 (.seq A_impl_derivative.r1 (.seq (.seq A_impl_derivative.r2 (.block 0 (.loop A_impl_derivative.l0))) (.seq A_impl_derivative.r6 .ret))))⟩
/-! spec_l06Slope -/
def A_spec_l06Slope.r0 : ACode := (.region none [⟨some 2, .move (.c (.slice none 0 0)), none⟩])
def A_spec_l06Slope.r1 : ACode := (.region none [⟨some 5, .buildSlice 1 0 [.int .i64 0] [], none⟩,
    ⟨some 3, .move (.t 5), none⟩])
def A_spec_l06Slope.r2 : ACode := (.region none [⟨some 4, .move (.c (.int .i64 1)), none⟩])
def A_spec_l06Slope.r3 : ACode := (.region none [⟨some 6, .move (.t 4), none⟩,
    ⟨some 7, .move (.t 0), none⟩,
    ⟨some 8, .len (.t 7), none⟩,
    ⟨some 9, .bin .lss (.t 6) (.t 8), none⟩])
def A_spec_l06Slope.r5 : ACode := (.region none [⟨some 12, .move (.t 3), none⟩,
    ⟨some 13, .move (.t 0), none⟩,
    ⟨some 14, .move (.t 4), none⟩,
    ⟨some 15, .indexAddr none 1 (.t 13) (.t 14), none⟩,
    ⟨some 16, .load none (.t 15), none⟩,
    ⟨some 17, .move (.t 4), none⟩,
    ⟨some 18, .bin .mul (.t 16) (.t 17), none⟩,
    ⟨some 19, .call 103 [(.t 18)], none⟩,
    ⟨some 20, .buildSlice 1 1 [.int .i64 0] [(0, 1, (.t 19))], none⟩,
    ⟨some 21, .append 1 8 (.t 12) (.t 20), none⟩,
    ⟨some 3, .move (.t 21), none⟩])
def A_spec_l06Slope.r4 : ACode := (.region none [⟨some 10, .move (.t 4), none⟩,
    ⟨some 11, .bin .add (.t 10) (.c (.int .i64 1)), none⟩,
    ⟨some 4, .move (.t 11), none⟩])
def A_spec_l06Slope.l0 : ACode := (.seq (.seq A_spec_l06Slope.r3 (.cond (.t 9) .skip (.exit 0))) (.seq (.block 1 A_spec_l06Slope.r5) A_spec_l06Slope.r4))
def A_spec_l06Slope.r6 : ACode := (.region none [⟨some 22, .move (.t 3), none⟩,
    ⟨some 23, .call 104 [(.t 22)], none⟩,
    ⟨some 2, .move (.t 23), none⟩])
def A_spec_l06Slope : AFunc := ⟨[.tmp 2], (.seq A_spec_l06Slope.r0 (.seq A_spec_l06Slope.r1 (.seq (.seq A_spec_l06Slope.r2 (.block 0 (.loop A_spec_l06Slope.l0))) (.seq A_spec_l06Slope.r6 .ret))))⟩
/-! impl_common -/
def A_impl_common.r0 : ACode := (.region none [⟨some 4, .move (.c (.slice none 0 0)), none⟩])
def A_impl_common.r1 : ACode := (.region none [⟨some 7, .move (.t 1), none⟩,
    ⟨some 8, .len (.t 7), none⟩,
    ⟨some 9, .bin .gtr (.t 8) (.c (.int .i64 0)), none⟩])
def A_impl_common.r2 : ACode := (.region none [⟨some 11, .move (.t 0), none⟩,
    ⟨some 12, .move (.t 1), none⟩,
    ⟨some 13, .call 110 [(.t 11), (.t 12)], none⟩,
    ⟨some 10, .move (.t 13), none⟩,
    ⟨some 14, .extract (.t 10) 0, none⟩,
    ⟨some 15, .extract (.t 10) 1, none⟩,
    ⟨some 5, .move (.t 14), none⟩,
    ⟨some 6, .move (.t 15), none⟩])
def A_impl_common.r3 : ACode := (.region none [⟨some 16, .move (.t 1), none⟩,
    ⟨some 17, .move (.t 6), none⟩,
    ⟨some 0, .move (.t 16), none⟩,
    ⟨some 1, .move (.t 17), none⟩])
def A_impl_common.l0 : ACode := (.seq (.seq A_impl_common.r1 (.cond (.t 9) .skip (.exit 0))) (.block 1 (.seq A_impl_common.r2 A_impl_common.r3)))
def A_impl_common.r4 : ACode := (.region none [⟨some 18, .move (.t 0), none⟩,
    ⟨some 19, .move (.t 0), none⟩,
    ⟨some 20, .move (.t 0), none⟩,
    ⟨some 21, .len (.t 20), none⟩,
    ⟨some 22, .bin .sub (.t 21) (.c (.int .i64 1)), none⟩,
    ⟨some 23, .indexAddr none 1 (.t 19) (.t 22), none⟩,
    ⟨some 24, .load none (.t 23), none⟩,
    ⟨some 25, .call 84 [(.t 24)], none⟩,
    ⟨some 26, .buildSlice 1 1 [.int .i64 0] [(0, 1, (.t 25))], none⟩,
    ⟨some 27, .call 75 [(.t 18), (.t 26)], none⟩,
    ⟨some 4, .move (.t 27), none⟩])
def A_impl_common : AFunc := ⟨[.tmp 4], (.seq A_impl_common.r0 (.seq (.block 0 (.loop A_impl_common.l0)) (.seq A_impl_common.r4 .ret)))⟩
/-! spec_l06Common -/
def A_spec_l06Common.r0 : ACode := (.region none [⟨some 4, .move (.c (.slice none 0 0)), none⟩])
def A_spec_l06Common.r1 : ACode := (.region none [⟨some 7, .move (.t 1), none⟩,
    ⟨some 8, .len (.t 7), none⟩,
    ⟨some 9, .bin .gtr (.t 8) (.c (.int .i64 0)), none⟩])
def A_spec_l06Common.r2 : ACode := (.region none [⟨some 11, .move (.t 0), none⟩,
    ⟨some 12, .move (.t 1), none⟩,
    ⟨some 13, .call 108 [(.t 11), (.t 12)], none⟩,
    ⟨some 10, .move (.t 13), none⟩,
    ⟨some 14, .extract (.t 10) 0, none⟩,
    ⟨some 15, .extract (.t 10) 1, none⟩,
    ⟨some 5, .move (.t 14), none⟩,
    ⟨some 6, .move (.t 15), none⟩])
def A_spec_l06Common.r3 : ACode := (.region none [⟨some 16, .move (.t 1), none⟩,
    ⟨some 0, .move (.t 16), none⟩])
def A_spec_l06Common.r4 : ACode := (.region none [⟨some 17, .move (.t 6), none⟩,
    ⟨some 1, .move (.t 17), none⟩])
def A_spec_l06Common.l0 : ACode := (.seq (.seq A_spec_l06Common.r1 (.cond (.t 9) .skip (.exit 0))) (.block 1 (.seq A_spec_l06Common.r2 (.seq A_spec_l06Common.r3 A_spec_l06Common.r4))))
def A_spec_l06Common.r5 : ACode := (.region none [⟨some 18, .move (.t 0), none⟩,
    ⟨some 19, .call 109 [(.t 18)], none⟩,
    ⟨some 4, .move (.t 19), none⟩])
def A_spec_l06Common : AFunc := ⟨[.tmp 4], (.seq A_spec_l06Common.r0 (.seq (.block 0 (.loop A_spec_l06Common.l0)) (.seq A_spec_l06Common.r5 .ret)))⟩
/-! spec_l06DrawValue -/
def A_spec_l06DrawValue.r0 : ACode := (.region none [⟨some 2, .move (.c (.int .i64 0)), none⟩])
def A_spec_l06DrawValue.r1 : ACode := (.region none [⟨some 3, .move (.t 0), none⟩,
    ⟨some 4, .move (.t 0), none⟩,
    ⟨some 5, .call 102 [(.t 4), (.c (.int .i64 10007))], none⟩,
    ⟨some 6, .move (.t 0), none⟩,
    ⟨some 7, .call 102 [(.t 6), (.c (.int .i64 10008))], none⟩,
    ⟨some 8, .buildSlice 1 7 [.int .i64 0] [(0, 1, (.c (.int .i64 0))), (1, 1, (.c (.int .i64 0))), (2, 1, (.c (.int .i64 1))), (3, 1, (.c (.int .i64 1))), (4, 1, (.c (.int .i64 10006))), (5, 1, (.t 5)), (6, 1, (.t 7))], none⟩,
    ⟨some 9, .call 98 [(.t 3), (.t 8)], none⟩,
    ⟨some 2, .move (.t 9), none⟩])
def A_spec_l06DrawValue : AFunc := ⟨[.tmp 2], (.seq A_spec_l06DrawValue.r0 (.seq A_spec_l06DrawValue.r1 .ret))⟩
/-! spec_l01In -/
def A_spec_l01In.r0 : ACode := (.region none [⟨some 6, .move (.c (.bool false)), none⟩])
def A_spec_l01In.r1 : ACode := (.region none [⟨some 7, .move (.t 0), none⟩,
    ⟨some 8, .move (.t 1), none⟩,
    ⟨some 9, .bin .geq (.t 7) (.t 8), none⟩,
    ⟨some 10, .move (.t 9), none⟩,
    ⟨some 11, .move (.t 0), some (10, true)⟩,
    ⟨some 12, .move (.t 2), some (10, true)⟩,
    ⟨some 13, .bin .leq (.t 11) (.t 12), some (10, true)⟩,
    ⟨some 14, .pick (.t 10) (.t 13) (.c (.bool false)), none⟩,
    ⟨some 6, .move (.t 14), none⟩])
def A_spec_l01In : AFunc := ⟨[.tmp 6], (.seq A_spec_l01In.r0 (.seq A_spec_l01In.r1 .ret))⟩
/-! spec_l06Value -/
def A_spec_l06Value.r0 : ACode := (.region none [⟨some 4, .move (.c (.int .i64 0)), none⟩])
def A_spec_l06Value.r1 : ACode := (.region none [⟨some 5, .move (.c (.int .i64 0)), none⟩])
def A_spec_l06Value.r2 : ACode := (.region none [⟨some 7, .move (.t 0), none⟩,
    ⟨some 8, .len (.t 7), none⟩,
    ⟨some 9, .bin .sub (.t 8) (.c (.int .i64 1)), none⟩,
    ⟨some 6, .move (.t 9), none⟩])
def A_spec_l06Value.r3 : ACode := (.region none [⟨some 10, .move (.t 6), none⟩,
    ⟨some 11, .bin .geq (.t 10) (.c (.int .i64 0)), none⟩])
def A_spec_l06Value.r5 : ACode := (.region none [⟨some 14, .move (.t 5), none⟩,
    ⟨some 15, .move (.t 1), none⟩,
    ⟨some 16, .bin .mul (.t 14) (.t 15), none⟩,
    ⟨some 17, .move (.t 0), none⟩,
    ⟨some 18, .move (.t 6), none⟩,
    ⟨some 19, .indexAddr none 1 (.t 17) (.t 18), none⟩,
    ⟨some 20, .load none (.t 19), none⟩,
    ⟨some 21, .bin .add (.t 16) (.t 20), none⟩,
    ⟨some 22, .call 103 [(.t 21)], none⟩,
    ⟨some 5, .move (.t 22), none⟩])
def A_spec_l06Value.r4 : ACode := (.region none [⟨some 12, .move (.t 6), none⟩,
    ⟨some 13, .bin .sub (.t 12) (.c (.int .i64 1)), none⟩,
    ⟨some 6, .move (.t 13), none⟩])
def A_spec_l06Value.l0 : ACode := (.seq (.seq A_spec_l06Value.r3 (.cond (.t 11) .skip (.exit 0))) (.seq (.block 1 A_spec_l06Value.r5) A_spec_l06Value.r4))
def A_spec_l06Value.r6 : ACode := (.region none [⟨some 23, .move (.t 5), none⟩,
    ⟨some 4, .move (.t 23), none⟩])
def A_spec_l06Value : AFunc := ⟨[.tmp 4], (.seq A_spec_l06Value.r0 (.seq A_spec_l06Value.r1 (.seq (.seq A_spec_l06Value.r2 (.block 0 (.loop A_spec_l06Value.l0))) (.seq A_spec_l06Value.r6 .ret))))⟩
/-! spec_l01Next -/
def A_spec_l01Next.r0 : ACode := (.region none [⟨some 4, .move (.c (.int .i64 0)), none⟩])
def A_spec_l01Next.r1 : ACode := (.region none [⟨some 6, .move (.t 1), none⟩,
    ⟨some 7, .bin .lss (.t 6) (.c (.int .i64 1)), none⟩])
def A_spec_l01Next.r2 : ACode := (.region none [⟨some 4, .move (.c (.int .i64 0)), none⟩])
def A_spec_l01Next.r3 : ACode := (.region none [⟨some 8, .move (.t 0), none⟩,
    ⟨some 9, .move (.t 0), none⟩,
    ⟨some 10, .nilCheck (.t 9), none⟩,
    ⟨some 11, .fieldAddr 2 (.t 10), none⟩,
    ⟨some 12, .load none (.t 11), none⟩,
    ⟨some 13, .bin .mul (.t 12) (.c (.int .u64 6364136223846793005)), none⟩,
    ⟨some 14, .bin .add (.t 13) (.c (.int .u64 1442695040888963407)), none⟩,
    ⟨some 15, .nilCheck (.t 8), none⟩,
    ⟨some 16, .fieldAddr 2 (.t 15), none⟩,
    ⟨none, .store 1 (.t 16) (.t 14), none⟩])
def A_spec_l01Next.r4 : ACode := (.region none [⟨some 17, .move (.t 0), none⟩,
    ⟨some 18, .nilCheck (.t 17), none⟩,
    ⟨some 19, .fieldAddr 2 (.t 18), none⟩,
    ⟨some 20, .load none (.t 19), none⟩,
    ⟨some 21, .bin .shr (.t 20) (.c (.int .u64 33)), none⟩,
    ⟨some 22, .bin .and (.t 21) (.c (.int .u64 16777215)), none⟩,
    ⟨some 23, .conv .i64 (.t 22), none⟩,
    ⟨some 5, .move (.t 23), none⟩])
def A_spec_l01Next.r5 : ACode := (.region (some 10) [⟨some 24, .move (.t 0), none⟩,
    ⟨some 25, .nilCheck (.t 24), none⟩,
    ⟨some 26, .fieldAddr 1 (.t 25), none⟩,
    ⟨some 27, .load none (.t 26), none⟩,
    ⟨some 28, .move (.t 0), none⟩,
    ⟨some 29, .nilCheck (.t 28), none⟩,
    ⟨some 30, .fieldAddr 0 (.t 29), none⟩,
    ⟨some 31, .load none (.t 30), none⟩,
    ⟨some 32, .len (.t 31), none⟩,
    ⟨some 33, .bin .lss (.t 27) (.t 32), none⟩])
def A_spec_l01Next.r6 : ACode := (.region (some 14) [⟨some 34, .move (.t 5), none⟩,
    ⟨some 35, .move (.t 0), none⟩,
    ⟨some 36, .nilCheck (.t 35), none⟩,
    ⟨some 37, .fieldAddr 0 (.t 36), none⟩,
    ⟨some 38, .load none (.t 37), none⟩,
    ⟨some 39, .move (.t 0), none⟩,
    ⟨some 40, .nilCheck (.t 39), none⟩,
    ⟨some 41, .fieldAddr 1 (.t 40), none⟩,
    ⟨some 42, .load none (.t 41), none⟩,
    ⟨some 43, .indexAddr none 1 (.t 38) (.t 42), none⟩,
    ⟨some 44, .load none (.t 43), none⟩,
    ⟨some 45, .conv .i64 (.t 44), none⟩,
    ⟨some 46, .bin .add (.t 34) (.t 45), none⟩,
    ⟨some 5, .move (.t 46), none⟩])
def A_spec_l01Next.r7 : ACode := (.region none [⟨some 47, .move (.t 0), none⟩,
    ⟨some 48, .move (.t 0), none⟩,
    ⟨some 49, .nilCheck (.t 48), none⟩,
    ⟨some 50, .fieldAddr 1 (.t 49), none⟩,
    ⟨some 51, .load none (.t 50), none⟩,
    ⟨some 52, .bin .add (.t 51) (.c (.int .i64 1)), none⟩,
    ⟨some 53, .nilCheck (.t 47), none⟩,
    ⟨some 54, .fieldAddr 1 (.t 53), none⟩,
    ⟨none, .store 1 (.t 54) (.t 52), none⟩])
def A_spec_l01Next.r8 : ACode := (.region none [⟨some 55, .move (.t 5), none⟩,
    ⟨some 56, .move (.t 1), none⟩,
    ⟨some 57, .bin .rem (.t 55) (.t 56), none⟩,
    ⟨some 4, .move (.t 57), none⟩])
def A_spec_l01Next : AFunc := ⟨[.tmp 4], (.seq A_spec_l01Next.r0 (.seq (.seq A_spec_l01Next.r1 (.cond (.t 7) (.seq A_spec_l01Next.r2 .ret) .skip)) (.seq A_spec_l01Next.r3 (.seq A_spec_l01Next.r4 (.seq (.seq A_spec_l01Next.r5 (.cond (.t 33) (.seq A_spec_l01Next.r6 A_spec_l01Next.r7) .skip)) (.seq A_spec_l01Next.r8 .ret))))))⟩
/-! spec_l06Monomial -/
def A_spec_l06Monomial.r0 : ACode := (.region none [⟨some 4, .move (.c (.slice none 0 0)), none⟩])
def A_spec_l06Monomial.r1 : ACode := (.region none [⟨some 5, .move (.t 1), none⟩,
    ⟨some 6, .makeSlice 1 8 [.int .i64 0] (.t 5) (.t 5), none⟩,
    ⟨some 7, .move (.t 0), none⟩,
    ⟨some 8, .buildSlice 1 1 [.int .i64 0] [(0, 1, (.t 7))], none⟩,
    ⟨some 9, .append 1 8 (.t 6) (.t 8), none⟩,
    ⟨some 4, .move (.t 9), none⟩])
def A_spec_l06Monomial : AFunc := ⟨[.tmp 4], (.seq A_spec_l06Monomial.r0 (.seq A_spec_l06Monomial.r1 .ret))⟩
/-! spec_l06Chain -/
def A_spec_l06Chain.r0 : ACode := (.region none [⟨some 2, .move (.c (.slice none 0 0)), none⟩])
def A_spec_l06Chain.r1 : ACode := (.region none [⟨some 7, .buildSlice 1 1 [.int .i64 0] [(0, 1, (.c (.int .i64 1)))], none⟩,
    ⟨some 8, .buildSlice 1 2 [.int .i64 0] [(0, 1, (.c (.int .i64 0))), (1, 1, (.c (.int .i64 1)))], none⟩,
    ⟨some 3, .move (.t 7), none⟩,
    ⟨some 4, .move (.t 8), none⟩])
def A_spec_l06Chain.r2 : ACode := (.region none [⟨some 5, .move (.c (.int .i64 1)), none⟩])
def A_spec_l06Chain.r3 : ACode := (.region none [⟨some 9, .move (.t 5), none⟩,
    ⟨some 10, .move (.t 0), none⟩,
    ⟨some 11, .bin .lss (.t 9) (.t 10), none⟩])
def A_spec_l06Chain.r5 : ACode := (.region none [⟨some 14, .buildSlice 1 2 [.int .i64 0] [(0, 1, (.c (.int .i64 0))), (1, 1, (.c (.int .i64 2)))], none⟩,
    ⟨some 15, .move (.t 4), none⟩,
    ⟨some 16, .call 74 [(.t 14), (.t 15)], none⟩,
    ⟨some 17, .move (.t 3), none⟩,
    ⟨some 18, .call 72 [(.t 16), (.t 17), (.c (.int .i64 (-1)))], none⟩,
    ⟨some 6, .move (.t 18), none⟩])
def A_spec_l06Chain.r6 : ACode := (.region none [⟨some 19, .move (.t 4), none⟩,
    ⟨some 3, .move (.t 19), none⟩])
def A_spec_l06Chain.r7 : ACode := (.region none [⟨some 20, .move (.t 6), none⟩,
    ⟨some 4, .move (.t 20), none⟩])
def A_spec_l06Chain.r4 : ACode := (.region none [⟨some 12, .move (.t 5), none⟩,
    ⟨some 13, .bin .add (.t 12) (.c (.int .i64 1)), none⟩,
    ⟨some 5, .move (.t 13), none⟩])
def A_spec_l06Chain.l0 : ACode := (.seq (.seq A_spec_l06Chain.r3 (.cond (.t 11) .skip (.exit 0))) (.seq (.block 1 (.seq A_spec_l06Chain.r5 (.seq A_spec_l06Chain.r6 A_spec_l06Chain.r7))) A_spec_l06Chain.r4))
def A_spec_l06Chain.r8 : ACode := (.region none [⟨some 21, .move (.t 4), none⟩,
    ⟨some 2, .move (.t 21), none⟩])
def A_spec_l06Chain : AFunc := ⟨[.tmp 2], (.seq A_spec_l06Chain.r0 (.seq A_spec_l06Chain.r1 (.seq (.seq A_spec_l06Chain.r2 (.block 0 (.loop A_spec_l06Chain.l0))) (.seq A_spec_l06Chain.r8 .ret))))⟩
/-! impl_inverse -/
def A_impl_inverse.r0 : ACode := (.region none [⟨some 2, .move (.c (.int .i64 0)), none⟩])
def A_impl_inverse.r1 : ACode := (.region none [⟨some 6, .move (.t 0), none⟩,
    ⟨some 3, .move (.c (.int .i64 1)), none⟩,
    ⟨some 4, .move (.t 6), none⟩])
def A_impl_inverse.r2 : ACode := (.region none [⟨some 5, .move (.c (.int .i64 10005)), none⟩])
def A_impl_inverse.r3 : ACode := (.region none [⟨some 7, .move (.t 5), none⟩,
    ⟨some 8, .bin .gtr (.t 7) (.c (.int .i64 0)), none⟩])
def A_impl_inverse.r5 : ACode := (.region none [⟨some 11, .move (.t 5), none⟩,
    ⟨some 12, .bin .rem (.t 11) (.c (.int .i64 2)), none⟩,
    ⟨some 13, .bin .eql (.t 12) (.c (.int .i64 1)), none⟩])
def A_impl_inverse.r6 : ACode := (.region none [⟨some 14, .move (.t 3), none⟩,
    ⟨some 15, .move (.t 4), none⟩,
    ⟨some 16, .bin .mul (.t 14) (.t 15), none⟩,
    ⟨some 17, .bin .rem (.t 16) (.c (.int .i64 10007)), none⟩,
    ⟨some 3, .move (.t 17), none⟩])
def A_impl_inverse.r7 : ACode := (.region none [⟨some 18, .move (.t 4), none⟩,
    ⟨some 19, .move (.t 4), none⟩,
    ⟨some 20, .bin .mul (.t 18) (.t 19), none⟩,
    ⟨some 21, .bin .rem (.t 20) (.c (.int .i64 10007)), none⟩,
    ⟨some 4, .move (.t 21), none⟩])
def A_impl_inverse.r4 : ACode := (.region none [⟨some 9, .move (.t 5), none⟩,
    ⟨some 10, .bin .quo (.t 9) (.c (.int .i64 2)), none⟩,
    ⟨some 5, .move (.t 10), none⟩])
def A_impl_inverse.l0 : ACode := (.seq (.seq A_impl_inverse.r3 (.cond (.t 8) .skip (.exit 0))) (.seq (.block 1 (.seq (.seq A_impl_inverse.r5 (.cond (.t 13) A_impl_inverse.r6 .skip)) A_impl_inverse.r7)) A_impl_inverse.r4))
def A_impl_inverse.r8 : ACode := (.region none [⟨some 22, .move (.t 3), none⟩,
    ⟨some 2, .move (.t 22), none⟩])
def A_impl_inverse : AFunc := ⟨[.tmp 2], (.seq A_impl_inverse.r0 (.seq A_impl_inverse.r1 (.seq (.seq A_impl_inverse.r2 (.block 0 (.loop A_impl_inverse.l0))) (.seq A_impl_inverse.r8 .ret))))⟩
/-! spec_l06Fork -/
def A_spec_l06Fork.r0 : ACode := (.region none [⟨some 4, .move (.c (.slice none 0 0)), none⟩])
def A_spec_l06Fork.r1 : ACode := (.region none [⟨some 8, .move (.t 0), none⟩,
    ⟨some 9, .call 59 [(.c (.int .i64 1)), (.t 8)], none⟩,
    ⟨some 5, .move (.t 9), none⟩])
def A_spec_l06Fork.r2 : ACode := (.region none [⟨some 6, .move (.c (.int .i64 0)), none⟩])
def A_spec_l06Fork.r3 : ACode := (.region none [⟨some 10, .move (.t 6), none⟩,
    ⟨some 11, .move (.t 1), none⟩,
    ⟨some 12, .bin .lss (.t 10) (.t 11), none⟩])
def A_spec_l06Fork.r5 : ACode := (.region none [⟨some 15, .move (.t 5), none⟩,
    ⟨some 16, .buildSlice 1 2 [.int .i64 0] [(0, 1, (.c (.int .i64 1))), (1, 1, (.c (.int .i64 10006)))], none⟩,
    ⟨some 17, .call 74 [(.t 15), (.t 16)], none⟩,
    ⟨some 5, .move (.t 17), none⟩])
def A_spec_l06Fork.r4 : ACode := (.region none [⟨some 13, .move (.t 6), none⟩,
    ⟨some 14, .bin .add (.t 13) (.c (.int .i64 1)), none⟩,
    ⟨some 6, .move (.t 14), none⟩])
def A_spec_l06Fork.l0 : ACode := (.seq (.seq A_spec_l06Fork.r3 (.cond (.t 12) .skip (.exit 0))) (.seq (.block 1 A_spec_l06Fork.r5) A_spec_l06Fork.r4))
def A_spec_l06Fork.r6 : ACode := (.region none [⟨some 18, .move (.t 0), none⟩,
    ⟨some 19, .move (.t 0), none⟩,
    ⟨some 20, .move (.t 1), none⟩,
    ⟨some 21, .bin .add (.t 19) (.t 20), none⟩,
    ⟨some 22, .call 107 [(.t 21)], none⟩,
    ⟨some 23, .bin .mul (.t 18) (.t 22), none⟩,
    ⟨some 24, .call 103 [(.t 23)], none⟩,
    ⟨some 7, .move (.t 24), none⟩])
def A_spec_l06Fork.r7 : ACode := (.region none [⟨some 25, .move (.t 5), none⟩,
    ⟨some 26, .move (.t 5), none⟩,
    ⟨some 27, .move (.t 7), none⟩,
    ⟨some 28, .call 61 [(.t 26), (.t 27)], none⟩,
    ⟨some 29, .call 107 [(.t 28)], none⟩,
    ⟨some 30, .call 72 [(.c (.slice none 0 0)), (.t 25), (.t 29)], none⟩,
    ⟨some 4, .move (.t 30), none⟩])
def A_spec_l06Fork : AFunc := ⟨[.tmp 4], (.seq A_spec_l06Fork.r0 (.seq A_spec_l06Fork.r1 (.seq (.seq A_spec_l06Fork.r2 (.block 0 (.loop A_spec_l06Fork.l0))) (.seq A_spec_l06Fork.r6 (.seq A_spec_l06Fork.r7 .ret)))))⟩
/-! impl_cut -/
def A_impl_cut.r0 : ACode := (.region none [⟨some 2, .move (.c (.slice none 0 0)), none⟩])
def A_impl_cut.r1 : ACode := (.region none [⟨some 3, .move (.t 0), none⟩,
    ⟨some 4, .len (.t 3), none⟩,
    ⟨some 5, .bin .gtr (.t 4) (.c (.int .i64 0)), none⟩,
    ⟨some 6, .move (.t 5), none⟩,
    ⟨some 7, .move (.t 0), some (6, true)⟩,
    ⟨some 8, .move (.t 0), some (6, true)⟩,
    ⟨some 9, .len (.t 8), some (6, true)⟩,
    ⟨some 10, .bin .sub (.t 9) (.c (.int .i64 1)), some (6, true)⟩,
    ⟨some 11, .indexAddr none 1 (.t 7) (.t 10), some (6, true)⟩,
    ⟨some 12, .load none (.t 11), some (6, true)⟩,
    ⟨some 13, .bin .eql (.t 12) (.c (.int .i64 0)), some (6, true)⟩,
    ⟨some 14, .pick (.t 6) (.t 13) (.c (.bool false)), none⟩])
def A_impl_cut.r2 : ACode := (.region none [⟨some 15, .move (.t 0), none⟩,
    ⟨some 16, .move (.t 0), none⟩,
    ⟨some 17, .len (.t 16), none⟩,
    ⟨some 18, .bin .sub (.t 17) (.c (.int .i64 1)), none⟩,
    ⟨some 19, .slice 1 (.t 15) none (some (.t 18)), none⟩,
    ⟨some 0, .move (.t 19), none⟩])
def A_impl_cut.l0 : ACode := (.seq (.seq A_impl_cut.r1 (.cond (.t 14) .skip (.exit 0))) (.block 1 A_impl_cut.r2))
def A_impl_cut.r3 : ACode := (.region none [⟨some 20, .move (.t 0), none⟩,
    ⟨some 2, .move (.t 20), none⟩])
def A_impl_cut : AFunc := ⟨[.tmp 2], (.seq A_impl_cut.r0 (.seq (.block 0 (.loop A_impl_cut.l0)) (.seq A_impl_cut.r3 .ret)))⟩
/-! spec_l06Mod -/
def A_spec_l06Mod.r0 : ACode := (.region none [⟨some 2, .move (.c (.int .i64 0)), none⟩])
def A_spec_l06Mod.r1 : ACode := (.region none [⟨some 3, .move (.t 0), none⟩,
    ⟨some 4, .bin .rem (.t 3) (.c (.int .i64 10007)), none⟩,
    ⟨some 5, .bin .add (.t 4) (.c (.int .i64 10007)), none⟩,
    ⟨some 6, .bin .rem (.t 5) (.c (.int .i64 10007)), none⟩,
    ⟨some 2, .move (.t 6), none⟩])
def A_spec_l06Mod : AFunc := ⟨[.tmp 2], (.seq A_spec_l06Mod.r0 (.seq A_spec_l06Mod.r1 .ret))⟩
/-! spec_l06Trim -/
def A_spec_l06Trim.r0 : ACode := (.region none [⟨some 2, .move (.c (.slice none 0 0)), none⟩])
def A_spec_l06Trim.r1 : ACode := (.region none [⟨some 4, .move (.t 0), none⟩,
    ⟨some 5, .len (.t 4), none⟩,
    ⟨some 3, .move (.t 5), none⟩])
def A_spec_l06Trim.r2 : ACode := (.region none [⟨some 6, .move (.t 3), none⟩,
    ⟨some 7, .bin .gtr (.t 6) (.c (.int .i64 0)), none⟩,
    ⟨some 8, .move (.t 7), none⟩,
    ⟨some 9, .move (.t 0), some (8, true)⟩,
    ⟨some 10, .move (.t 3), some (8, true)⟩,
    ⟨some 11, .bin .sub (.t 10) (.c (.int .i64 1)), some (8, true)⟩,
    ⟨some 12, .indexAddr none 1 (.t 9) (.t 11), some (8, true)⟩,
    ⟨some 13, .load none (.t 12), some (8, true)⟩,
    ⟨some 14, .bin .eql (.t 13) (.c (.int .i64 0)), some (8, true)⟩,
    ⟨some 15, .pick (.t 8) (.t 14) (.c (.bool false)), none⟩])
def A_spec_l06Trim.r3 : ACode := (.region none [⟨some 16, .move (.t 3), none⟩,
    ⟨some 17, .bin .sub (.t 16) (.c (.int .i64 1)), none⟩,
    ⟨some 3, .move (.t 17), none⟩])
def A_spec_l06Trim.l0 : ACode := (.seq (.seq A_spec_l06Trim.r2 (.cond (.t 15) .skip (.exit 0))) (.block 1 A_spec_l06Trim.r3))
def A_spec_l06Trim.r4 : ACode := (.region none [⟨some 18, .move (.t 0), none⟩,
    ⟨some 19, .move (.t 3), none⟩,
    ⟨some 20, .slice 1 (.t 18) none (some (.t 19)), none⟩,
    ⟨some 21, .call 111 [(.t 20)], none⟩,
    ⟨some 2, .move (.t 21), none⟩])
def A_spec_l06Trim : AFunc := ⟨[.tmp 2], (.seq A_spec_l06Trim.r0 (.seq A_spec_l06Trim.r1 (.seq (.block 0 (.loop A_spec_l06Trim.l0)) (.seq A_spec_l06Trim.r4 .ret))))⟩
/-! impl_divide -/
def A_impl_divide.r0 : ACode := (.region none [⟨some 4, .move (.c (.slice none 0 0)), none⟩,
    ⟨some 5, .move (.c (.slice none 0 0)), none⟩])
def A_impl_divide.r1 : ACode := (.region none [⟨some 13, .move (.t 0), none⟩,
    ⟨some 14, .call 112 [(.t 13)], none⟩,
    ⟨some 6, .move (.t 14), none⟩])
def A_impl_divide.r2 : ACode := (.region none [⟨some 15, .move (.t 0), none⟩,
    ⟨some 16, .len (.t 15), none⟩,
    ⟨some 17, .move (.t 1), none⟩,
    ⟨some 18, .len (.t 17), none⟩,
    ⟨some 19, .bin .sub (.t 16) (.t 18), none⟩,
    ⟨some 20, .bin .add (.t 19) (.c (.int .i64 1)), none⟩,
    ⟨some 21, .max [(.t 20), (.c (.int .i64 0))], none⟩,
    ⟨some 22, .makeSlice 1 8 [.int .i64 0] (.t 21) (.t 21), none⟩,
    ⟨some 7, .move (.t 22), none⟩])
def A_impl_divide.r3 : ACode := (.region none [⟨some 23, .move (.t 1), none⟩,
    ⟨some 24, .move (.t 1), none⟩,
    ⟨some 25, .len (.t 24), none⟩,
    ⟨some 26, .bin .sub (.t 25) (.c (.int .i64 1)), none⟩,
    ⟨some 27, .indexAddr none 1 (.t 23) (.t 26), none⟩,
    ⟨some 28, .load none (.t 27), none⟩,
    ⟨some 29, .call 84 [(.t 28)], none⟩,
    ⟨some 8, .move (.t 29), none⟩])
def A_impl_divide.r4 : ACode := (.region none [⟨some 30, .move (.t 6), none⟩,
    ⟨some 31, .len (.t 30), none⟩,
    ⟨some 32, .move (.t 1), none⟩,
    ⟨some 33, .len (.t 32), none⟩,
    ⟨some 34, .bin .geq (.t 31) (.t 33), none⟩])
def A_impl_divide.r5 : ACode := (.region none [⟨some 35, .move (.t 6), none⟩,
    ⟨some 36, .len (.t 35), none⟩,
    ⟨some 37, .move (.t 1), none⟩,
    ⟨some 38, .len (.t 37), none⟩,
    ⟨some 39, .bin .sub (.t 36) (.t 38), none⟩,
    ⟨some 9, .move (.t 39), none⟩])
def A_impl_divide.r6 : ACode := (.region none [⟨some 40, .move (.t 6), none⟩,
    ⟨some 41, .move (.t 6), none⟩,
    ⟨some 42, .len (.t 41), none⟩,
    ⟨some 43, .bin .sub (.t 42) (.c (.int .i64 1)), none⟩,
    ⟨some 44, .indexAddr none 1 (.t 40) (.t 43), none⟩,
    ⟨some 45, .load none (.t 44), none⟩,
    ⟨some 46, .move (.t 8), none⟩,
    ⟨some 47, .bin .mul (.t 45) (.t 46), none⟩,
    ⟨some 48, .bin .rem (.t 47) (.c (.int .i64 10007)), none⟩,
    ⟨some 10, .move (.t 48), none⟩])
def A_impl_divide.r7 : ACode := (.region none [⟨some 49, .move (.t 7), none⟩,
    ⟨some 50, .move (.t 9), none⟩,
    ⟨some 51, .move (.t 10), none⟩,
    ⟨some 52, .indexAddr none 1 (.t 49) (.t 50), none⟩,
    ⟨none, .store 1 (.t 52) (.t 51), none⟩])
def A_impl_divide.r8 : ACode := (.region none [⟨some 53, .move (.t 1), none⟩,
    ⟨some 54, .len (.t 53), none⟩,
    ⟨some 55, .move (.c (.int .i64 0)), none⟩])
def A_impl_divide.r9 : ACode := (.region none [⟨some 56, .bin .lss (.t 55) (.t 54), none⟩])
def A_impl_divide.r10 : ACode := (.region none [⟨some 57, .move (.t 55), none⟩,
    ⟨some 58, .indexAddr none 1 (.t 53) (.t 55), none⟩,
    ⟨some 59, .load none (.t 58), none⟩,
    ⟨some 11, .move (.t 57), none⟩,
    ⟨some 12, .move (.t 59), none⟩])
def A_impl_divide.r11 : ACode := (.region none [⟨some 60, .move (.t 6), none⟩,
    ⟨some 61, .move (.t 9), none⟩,
    ⟨some 62, .move (.t 11), none⟩,
    ⟨some 63, .bin .add (.t 61) (.t 62), none⟩,
    ⟨some 64, .move (.t 6), none⟩,
    ⟨some 65, .move (.t 9), none⟩,
    ⟨some 66, .move (.t 11), none⟩,
    ⟨some 67, .bin .add (.t 65) (.t 66), none⟩,
    ⟨some 68, .indexAddr none 1 (.t 64) (.t 67), none⟩,
    ⟨some 69, .load none (.t 68), none⟩,
    ⟨some 70, .move (.t 12), none⟩,
    ⟨some 71, .bin .sub (.c (.int .i64 10007)) (.t 70), none⟩,
    ⟨some 72, .move (.t 10), none⟩,
    ⟨some 73, .bin .mul (.t 71) (.t 72), none⟩,
    ⟨some 74, .bin .add (.t 69) (.t 73), none⟩,
    ⟨some 75, .bin .rem (.t 74) (.c (.int .i64 10007)), none⟩,
    ⟨some 76, .indexAddr none 1 (.t 60) (.t 63), none⟩,
    ⟨none, .store 1 (.t 76) (.t 75), none⟩])
def A_impl_divide.r12 : ACode := (.region none [⟨some 77, .bin .add (.t 55) (.c (.int .i64 1)), none⟩,
    ⟨some 55, .move (.t 77), none⟩])
def A_impl_divide.l0 : ACode := (.seq A_impl_divide.r9 (.seq (.cond (.t 56) .skip (.exit 2)) (.seq (.block 3 (.seq A_impl_divide.r10 A_impl_divide.r11)) A_impl_divide.r12)))
def A_impl_divide.r13 : ACode := (.region none [⟨some 78, .move (.t 6), none⟩,
    ⟨some 79, .call 105 [(.t 78)], none⟩,
    ⟨some 6, .move (.t 79), none⟩])
def A_impl_divide.l1 : ACode := (.seq (.seq A_impl_divide.r4 (.cond (.t 34) .skip (.exit 0))) (.block 1 (.seq A_impl_divide.r5 (.seq A_impl_divide.r6 (.seq A_impl_divide.r7 (.seq (.seq A_impl_divide.r8 (.block 2 (.loop A_impl_divide.l0))) A_impl_divide.r13))))))
def A_impl_divide.r14 : ACode := (.region none [⟨some 80, .move (.t 7), none⟩,
    ⟨some 81, .call 105 [(.t 80)], none⟩,
    ⟨some 82, .move (.t 6), none⟩,
    ⟨some 4, .move (.t 81), none⟩,
    ⟨some 5, .move (.t 82), none⟩])
def A_impl_divide : AFunc := ⟨[.tmp 4, .tmp 5], (.seq A_impl_divide.r0 (.seq A_impl_divide.r1 (.seq A_impl_divide.r2 (.seq A_impl_divide.r3 (.seq (.block 0 (.loop A_impl_divide.l1)) (.seq A_impl_divide.r14 .ret))))))⟩
/-! spec_l06Divide -/
def A_spec_l06Divide.r0 : ACode := (.region none [⟨some 4, .move (.c (.slice none 0 0)), none⟩,
    ⟨some 5, .move (.c (.slice none 0 0)), none⟩])
def A_spec_l06Divide.r1 : ACode := (.region (some 13) [⟨some 11, .move (.t 0), none⟩,
    ⟨some 12, .call 111 [(.t 11)], none⟩,
    ⟨some 13, .move (.t 1), none⟩,
    ⟨some 14, .move (.t 1), none⟩,
    ⟨some 15, .len (.t 14), none⟩,
    ⟨some 16, .bin .sub (.t 15) (.c (.int .i64 1)), none⟩,
    ⟨some 17, .indexAddr none 1 (.t 13) (.t 16), none⟩,
    ⟨some 18, .load none (.t 17), none⟩,
    ⟨some 19, .call 107 [(.t 18)], none⟩,
    ⟨some 20, .buildSlice 1 0 [.int .i64 0] [], none⟩,
    ⟨some 6, .move (.t 12), none⟩,
    ⟨some 7, .move (.t 19), none⟩,
    ⟨some 8, .move (.t 20), none⟩])
def A_spec_l06Divide.r2 : ACode := (.region none [⟨some 21, .move (.t 0), none⟩,
    ⟨some 22, .len (.t 21), none⟩,
    ⟨some 23, .move (.t 1), none⟩,
    ⟨some 24, .len (.t 23), none⟩,
    ⟨some 25, .bin .geq (.t 22) (.t 24), none⟩])
def A_spec_l06Divide.r3 : ACode := (.region none [⟨some 26, .move (.t 0), none⟩,
    ⟨some 27, .len (.t 26), none⟩,
    ⟨some 28, .move (.t 1), none⟩,
    ⟨some 29, .len (.t 28), none⟩,
    ⟨some 30, .bin .sub (.t 27) (.t 29), none⟩,
    ⟨some 31, .bin .add (.t 30) (.c (.int .i64 1)), none⟩,
    ⟨some 32, .makeSlice 1 8 [.int .i64 0] (.t 31) (.t 31), none⟩,
    ⟨some 8, .move (.t 32), none⟩])
def A_spec_l06Divide.r4 : ACode := (.region none [⟨some 33, .move (.t 6), none⟩,
    ⟨some 34, .len (.t 33), none⟩,
    ⟨some 35, .move (.t 1), none⟩,
    ⟨some 36, .len (.t 35), none⟩,
    ⟨some 37, .bin .geq (.t 34) (.t 36), none⟩])
def A_spec_l06Divide.r5 : ACode := (.region none [⟨some 38, .move (.t 6), none⟩,
    ⟨some 39, .len (.t 38), none⟩,
    ⟨some 40, .move (.t 1), none⟩,
    ⟨some 41, .len (.t 40), none⟩,
    ⟨some 42, .bin .sub (.t 39) (.t 41), none⟩,
    ⟨some 43, .move (.t 6), none⟩,
    ⟨some 44, .move (.t 6), none⟩,
    ⟨some 45, .len (.t 44), none⟩,
    ⟨some 46, .bin .sub (.t 45) (.c (.int .i64 1)), none⟩,
    ⟨some 47, .indexAddr none 1 (.t 43) (.t 46), none⟩,
    ⟨some 48, .load none (.t 47), none⟩,
    ⟨some 49, .move (.t 7), none⟩,
    ⟨some 50, .bin .mul (.t 48) (.t 49), none⟩,
    ⟨some 51, .call 103 [(.t 50)], none⟩,
    ⟨some 9, .move (.t 42), none⟩,
    ⟨some 10, .move (.t 51), none⟩])
def A_spec_l06Divide.r6 : ACode := (.region none [⟨some 52, .move (.t 8), none⟩,
    ⟨some 53, .move (.t 9), none⟩,
    ⟨some 54, .move (.t 10), none⟩,
    ⟨some 55, .indexAddr none 1 (.t 52) (.t 53), none⟩,
    ⟨none, .store 1 (.t 55) (.t 54), none⟩])
def A_spec_l06Divide.r7 : ACode := (.region none [⟨some 56, .move (.t 6), none⟩,
    ⟨some 57, .move (.t 9), none⟩,
    ⟨some 58, .makeSlice 1 8 [.int .i64 0] (.t 57) (.t 57), none⟩,
    ⟨some 59, .move (.t 1), none⟩,
    ⟨some 60, .append 1 8 (.t 58) (.t 59), none⟩,
    ⟨some 61, .move (.t 10), none⟩,
    ⟨some 62, .neg (.t 61), none⟩,
    ⟨some 63, .call 72 [(.t 56), (.t 60), (.t 62)], none⟩,
    ⟨some 6, .move (.t 63), none⟩])
def A_spec_l06Divide.l0 : ACode := (.seq (.seq A_spec_l06Divide.r4 (.cond (.t 37) .skip (.exit 0))) (.block 1 (.seq A_spec_l06Divide.r5 (.seq A_spec_l06Divide.r6 A_spec_l06Divide.r7))))
def A_spec_l06Divide.r8 : ACode := (.region none [⟨some 64, .move (.t 8), none⟩,
    ⟨some 65, .move (.t 6), none⟩,
    ⟨some 4, .move (.t 64), none⟩,
    ⟨some 5, .move (.t 65), none⟩])
def A_spec_l06Divide : AFunc := ⟨[.tmp 4, .tmp 5], (.seq A_spec_l06Divide.r0 (.seq A_spec_l06Divide.r1 (.seq (.seq A_spec_l06Divide.r2 (.cond (.t 25) A_spec_l06Divide.r3 .skip)) (.seq (.block 0 (.loop A_spec_l06Divide.l0)) (.seq A_spec_l06Divide.r8 .ret)))))⟩
/-! spec_l06Monic -/
def A_spec_l06Monic.r0 : ACode := (.region none [⟨some 2, .move (.c (.slice none 0 0)), none⟩])
def A_spec_l06Monic.r1 : ACode := (.region none [⟨some 3, .move (.t 0), none⟩,
    ⟨some 4, .move (.t 0), none⟩,
    ⟨some 5, .move (.t 0), none⟩,
    ⟨some 6, .len (.t 5), none⟩,
    ⟨some 7, .bin .sub (.t 6) (.c (.int .i64 1)), none⟩,
    ⟨some 8, .indexAddr none 1 (.t 4) (.t 7), none⟩,
    ⟨some 9, .load none (.t 8), none⟩,
    ⟨some 10, .call 107 [(.t 9)], none⟩,
    ⟨some 11, .call 72 [(.c (.slice none 0 0)), (.t 3), (.t 10)], none⟩,
    ⟨some 2, .move (.t 11), none⟩])
def A_spec_l06Monic : AFunc := ⟨[.tmp 2], (.seq A_spec_l06Monic.r0 (.seq A_spec_l06Monic.r1 .ret))⟩
/-! spec_l06Inverse -/
def A_spec_l06Inverse.r0 : ACode := (.region none [⟨some 2, .move (.c (.int .i64 0)), none⟩])
def A_spec_l06Inverse.r1 : ACode := (.region none [⟨some 6, .move (.t 0), none⟩,
    ⟨some 3, .move (.c (.int .i64 1)), none⟩,
    ⟨some 4, .move (.t 6), none⟩])
def A_spec_l06Inverse.r2 : ACode := (.region none [⟨some 5, .move (.c (.int .i64 10005)), none⟩])
def A_spec_l06Inverse.r3 : ACode := (.region none [⟨some 7, .move (.t 5), none⟩,
    ⟨some 8, .bin .gtr (.t 7) (.c (.int .i64 0)), none⟩])
def A_spec_l06Inverse.r5 : ACode := (.region none [⟨some 11, .move (.t 5), none⟩,
    ⟨some 12, .bin .rem (.t 11) (.c (.int .i64 2)), none⟩,
    ⟨some 13, .bin .eql (.t 12) (.c (.int .i64 1)), none⟩])
def A_spec_l06Inverse.r6 : ACode := (.region none [⟨some 14, .move (.t 3), none⟩,
    ⟨some 15, .move (.t 4), none⟩,
    ⟨some 16, .bin .mul (.t 14) (.t 15), none⟩,
    ⟨some 17, .call 103 [(.t 16)], none⟩,
    ⟨some 3, .move (.t 17), none⟩])
def A_spec_l06Inverse.r7 : ACode := (.region none [⟨some 18, .move (.t 4), none⟩,
    ⟨some 19, .move (.t 4), none⟩,
    ⟨some 20, .bin .mul (.t 18) (.t 19), none⟩,
    ⟨some 21, .call 103 [(.t 20)], none⟩,
    ⟨some 4, .move (.t 21), none⟩])
def A_spec_l06Inverse.r4 : ACode := (.region none [⟨some 9, .move (.t 5), none⟩,
    ⟨some 10, .bin .quo (.t 9) (.c (.int .i64 2)), none⟩,
    ⟨some 5, .move (.t 10), none⟩])
def A_spec_l06Inverse.l0 : ACode := (.seq (.seq A_spec_l06Inverse.r3 (.cond (.t 8) .skip (.exit 0))) (.seq (.block 1 (.seq (.seq A_spec_l06Inverse.r5 (.cond (.t 13) A_spec_l06Inverse.r6 .skip)) A_spec_l06Inverse.r7)) A_spec_l06Inverse.r4))
def A_spec_l06Inverse.r8 : ACode := (.region none [⟨some 22, .move (.t 3), none⟩,
    ⟨some 2, .move (.t 22), none⟩])
def A_spec_l06Inverse : AFunc := ⟨[.tmp 2], (.seq A_spec_l06Inverse.r0 (.seq A_spec_l06Inverse.r1 (.seq (.seq A_spec_l06Inverse.r2 (.block 0 (.loop A_spec_l06Inverse.l0))) (.seq A_spec_l06Inverse.r8 .ret))))⟩
/-! spec_l01Own -/
def A_spec_l01Own.r0 : ACode := (.region none [⟨some 2, .move (.c (.slice none 0 0)), none⟩])
def A_spec_l01Own.r1 : ACode := (.region none [⟨some 3, .buildSlice 1 0 [.int .i64 0] [], none⟩,
    ⟨some 4, .move (.t 0), none⟩,
    ⟨some 5, .append 1 8 (.t 3) (.t 4), none⟩,
    ⟨some 2, .move (.t 5), none⟩])
def A_spec_l01Own : AFunc := ⟨[.tmp 2], (.seq A_spec_l01Own.r0 (.seq A_spec_l01Own.r1 .ret))⟩
/-! slices_Clone_int64_int64 -/
def A_slices_Clone_int64_int64.r0 : ACode := (.region none [⟨some 2, .move (.c (.slice none 0 0)), none⟩])
def A_slices_Clone_int64_int64.r1 : ACode := (.region none [⟨some 3, .move (.t 0), none⟩,
    ⟨some 4, .eqn false (.t 3), none⟩])
def A_slices_Clone_int64_int64.r2 : ACode := (.region none [⟨some 2, .move (.c (.slice none 0 0)), none⟩])
def A_slices_Clone_int64_int64.r3 : ACode := (.region none [⟨some 5, .buildSlice 1 0 [.int .i64 0] [], none⟩,
    ⟨some 6, .move (.t 0), none⟩,
    ⟨some 7, .append 1 8 (.t 5) (.t 6), none⟩,
    ⟨some 2, .move (.t 7), none⟩])
def A_slices_Clone_int64_int64 : AFunc := ⟨[.tmp 2], (.seq A_slices_Clone_int64_int64.r0 (.seq (.seq A_slices_Clone_int64_int64.r1 (.cond (.t 4) (.seq A_slices_Clone_int64_int64.r2 .ret) .skip)) (.seq A_slices_Clone_int64_int64.r3 .ret)))⟩
end Go.Am
