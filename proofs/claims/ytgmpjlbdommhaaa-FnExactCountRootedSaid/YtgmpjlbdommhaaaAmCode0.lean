/- The code of the functions that the claim reaches, in the small machine's form: written by a program of mine, off the loaded program; the checks compare the two. -/
import Derived.Test.YtgmpjlbdommhaaaAmCore
set_option linter.unusedVariables false
set_option maxRecDepth 100000
namespace Go.Am
open Go
/-! laws_FnExactIsPolynomial -/
def A_laws_FnExactIsPolynomial.r0 : ACode := (.region none [⟨some 2, .move (.c (.bool false)), none⟩])
def A_laws_FnExactIsPolynomial.r1 : ACode := (.region none [⟨some 6, .move (.t 0), none⟩,
    ⟨some 7, .len (.t 6), none⟩,
    ⟨some 8, .bin .gtr (.t 7) (.c (.int .i64 1048576)), none⟩])
def A_laws_FnExactIsPolynomial.r2 : ACode := (.region none [⟨some 2, .move (.c (.bool true)), none⟩])
def A_laws_FnExactIsPolynomial.r3 : ACode := (.region none [⟨some 9, .move (.t 0), none⟩,
    ⟨some 10, .call 0 [(.t 9)], none⟩,
    ⟨some 11, .call 1 [(.t 10)], none⟩,
    ⟨some 3, .move (.t 11), none⟩])
def A_laws_FnExactIsPolynomial.r4 : ACode := (.region none [⟨some 12, .move (.t 0), none⟩,
    ⟨some 13, .call 0 [(.t 12)], none⟩,
    ⟨some 4, .move (.t 13), none⟩])
def A_laws_FnExactIsPolynomial.r5 : ACode := (.region none [⟨some 14, .move (.t 4), none⟩,
    ⟨some 15, .call 2 [(.t 14)], none⟩,
    ⟨some 5, .move (.t 15), none⟩])
def A_laws_FnExactIsPolynomial.r6 : ACode := (.region none [⟨some 16, .move (.t 5), none⟩,
    ⟨some 17, .move (.t 3), none⟩,
    ⟨some 18, .eqb true (.t 16) (.t 17), none⟩])
def A_laws_FnExactIsPolynomial.r7 : ACode := (.region none [⟨some 2, .move (.c (.bool false)), none⟩])
def A_laws_FnExactIsPolynomial.r8 : ACode := (.region none [⟨some 19, .move (.t 4), none⟩,
    ⟨some 20, .move (.t 0), none⟩,
    ⟨some 21, .call 0 [(.t 20)], none⟩,
    ⟨some 22, .call 3 [(.t 19), (.t 21)], none⟩,
    ⟨some 23, .not (.t 22), none⟩])
def A_laws_FnExactIsPolynomial.r9 : ACode := (.region none [⟨some 2, .move (.c (.bool false)), none⟩])
def A_laws_FnExactIsPolynomial.r10 : ACode := (.region none [⟨some 2, .move (.c (.bool true)), none⟩])
def A_laws_FnExactIsPolynomial : AFunc := ⟨[.tmp 2], (.seq A_laws_FnExactIsPolynomial.r0 (.seq (.seq A_laws_FnExactIsPolynomial.r1 (.cond (.t 8) (.seq A_laws_FnExactIsPolynomial.r2 .ret) .skip)) (.seq A_laws_FnExactIsPolynomial.r3 (.seq A_laws_FnExactIsPolynomial.r4 (.seq A_laws_FnExactIsPolynomial.r5 (.seq (.seq A_laws_FnExactIsPolynomial.r6 (.cond (.t 18) (.seq A_laws_FnExactIsPolynomial.r7 .ret) .skip)) (.seq (.seq A_laws_FnExactIsPolynomial.r8 (.cond (.t 23) (.seq A_laws_FnExactIsPolynomial.r9 .ret) .skip)) (.seq A_laws_FnExactIsPolynomial.r10 .ret))))))))⟩
/-! laws_FnExactStarPolynomial -/
def A_laws_FnExactStarPolynomial.r0 : ACode := (.region none [⟨some 2, .move (.c (.bool false)), none⟩])
def A_laws_FnExactStarPolynomial.r1 : ACode := (.region none [⟨some 12, .move (.t 0), none⟩,
    ⟨some 13, .call 4 [(.t 12)], none⟩,
    ⟨some 11, .move (.t 13), none⟩,
    ⟨some 14, .extract (.t 11) 0, none⟩,
    ⟨some 15, .extract (.t 11) 1, none⟩,
    ⟨some 3, .move (.t 14), none⟩,
    ⟨some 4, .move (.t 15), none⟩])
def A_laws_FnExactStarPolynomial.r2 : ACode := (.region none [⟨some 17, .move (.t 0), none⟩,
    ⟨some 18, .call 5 [(.t 17)], none⟩,
    ⟨some 16, .move (.t 18), none⟩,
    ⟨some 19, .extract (.t 16) 0, none⟩,
    ⟨some 20, .extract (.t 16) 1, none⟩,
    ⟨some 5, .move (.t 19), none⟩,
    ⟨some 6, .move (.t 20), none⟩])
def A_laws_FnExactStarPolynomial.r3 : ACode := (.region none [⟨some 21, .move (.t 5), none⟩,
    ⟨some 22, .move (.t 3), none⟩,
    ⟨some 23, .call 3 [(.t 21), (.t 22)], none⟩,
    ⟨some 24, .not (.t 23), none⟩,
    ⟨some 25, .move (.t 24), none⟩,
    ⟨some 26, .move (.t 6), some (25, false)⟩,
    ⟨some 27, .move (.t 4), some (25, false)⟩,
    ⟨some 28, .bin .neq (.t 26) (.t 27), some (25, false)⟩,
    ⟨some 29, .pick (.t 25) (.c (.bool true)) (.t 28), none⟩])
def A_laws_FnExactStarPolynomial.r4 : ACode := (.region none [⟨some 2, .move (.c (.bool false)), none⟩])
def A_laws_FnExactStarPolynomial.r5 : ACode := (.region none [⟨some 7, .move (.c (.int .i64 1)), none⟩])
def A_laws_FnExactStarPolynomial.r6 : ACode := (.region none [⟨some 30, .move (.t 5), none⟩,
    ⟨some 31, .move (.t 7), none⟩,
    ⟨some 32, .call 6 [(.t 30), (.t 31)], none⟩,
    ⟨some 7, .move (.t 32), none⟩])
def A_laws_FnExactStarPolynomial.r7 : ACode := (.region none [⟨some 8, .move (.c (.int .i64 1)), none⟩])
def A_laws_FnExactStarPolynomial.r8 : ACode := (.region none [⟨some 33, .move (.t 5), none⟩,
    ⟨some 34, .move (.t 8), none⟩,
    ⟨some 35, .call 7 [(.t 33), (.t 34)], none⟩,
    ⟨some 8, .move (.t 35), none⟩])
def A_laws_FnExactStarPolynomial.r9 : ACode := (.region none [⟨some 36, .move (.t 8), none⟩,
    ⟨some 37, .bin .lss (.t 36) (.c (.int .i64 0)), none⟩])
def A_laws_FnExactStarPolynomial.r10 : ACode := (.region none [⟨some 2, .move (.c (.bool false)), none⟩])
def A_laws_FnExactStarPolynomial.r11 : ACode := (.region none [⟨some 38, .move (.t 8), none⟩,
    ⟨some 39, .move (.t 7), none⟩,
    ⟨some 40, .bin .neq (.t 38) (.t 39), none⟩])
def A_laws_FnExactStarPolynomial.r12 : ACode := (.region none [⟨some 2, .move (.c (.bool false)), none⟩])
def A_laws_FnExactStarPolynomial.r13 : ACode := (.region none [⟨some 42, .move (.t 0), none⟩,
    ⟨some 43, .call 5 [(.t 42)], none⟩,
    ⟨some 41, .move (.t 43), none⟩,
    ⟨some 44, .extract (.t 41) 0, none⟩,
    ⟨some 45, .extract (.t 41) 1, none⟩,
    ⟨some 9, .move (.t 44), none⟩,
    ⟨some 10, .move (.t 45), none⟩])
def A_laws_FnExactStarPolynomial.r14 : ACode := (.region none [⟨some 46, .move (.t 9), none⟩,
    ⟨some 47, .move (.t 3), none⟩,
    ⟨some 48, .call 3 [(.t 46), (.t 47)], none⟩,
    ⟨some 49, .not (.t 48), none⟩,
    ⟨some 50, .move (.t 49), none⟩,
    ⟨some 51, .move (.t 10), some (50, false)⟩,
    ⟨some 52, .move (.t 4), some (50, false)⟩,
    ⟨some 53, .bin .neq (.t 51) (.t 52), some (50, false)⟩,
    ⟨some 54, .pick (.t 50) (.c (.bool true)) (.t 53), none⟩])
def A_laws_FnExactStarPolynomial.r15 : ACode := (.region none [⟨some 2, .move (.c (.bool false)), none⟩])
def A_laws_FnExactStarPolynomial.r16 : ACode := (.region none [⟨some 8, .move (.c (.int .i64 1)), none⟩])
def A_laws_FnExactStarPolynomial.r17 : ACode := (.region none [⟨some 55, .move (.t 5), none⟩,
    ⟨some 56, .move (.t 8), none⟩,
    ⟨some 57, .call 7 [(.t 55), (.t 56)], none⟩,
    ⟨some 8, .move (.t 57), none⟩])
def A_laws_FnExactStarPolynomial.r18 : ACode := (.region none [⟨some 58, .move (.t 8), none⟩,
    ⟨some 59, .bin .lss (.t 58) (.c (.int .i64 0)), none⟩])
def A_laws_FnExactStarPolynomial.r19 : ACode := (.region none [⟨some 2, .move (.c (.bool false)), none⟩])
def A_laws_FnExactStarPolynomial.r20 : ACode := (.region none [⟨some 60, .move (.t 8), none⟩,
    ⟨some 61, .move (.t 7), none⟩,
    ⟨some 62, .bin .neq (.t 60) (.t 61), none⟩])
def A_laws_FnExactStarPolynomial.r21 : ACode := (.region none [⟨some 2, .move (.c (.bool false)), none⟩])
def A_laws_FnExactStarPolynomial.r22 : ACode := (.region none [⟨some 2, .move (.c (.bool true)), none⟩])
def A_laws_FnExactStarPolynomial : AFunc := ⟨[.tmp 2], (.seq A_laws_FnExactStarPolynomial.r0 (.seq A_laws_FnExactStarPolynomial.r1 (.seq A_laws_FnExactStarPolynomial.r2 (.seq (.seq A_laws_FnExactStarPolynomial.r3 (.cond (.t 29) (.seq A_laws_FnExactStarPolynomial.r4 .ret) .skip)) (.seq A_laws_FnExactStarPolynomial.r5 (.seq A_laws_FnExactStarPolynomial.r6 (.seq A_laws_FnExactStarPolynomial.r7 (.seq A_laws_FnExactStarPolynomial.r8 (.seq (.seq A_laws_FnExactStarPolynomial.r9 (.cond (.t 37) (.seq A_laws_FnExactStarPolynomial.r10 .ret) .skip)) (.seq (.seq A_laws_FnExactStarPolynomial.r11 (.cond (.t 40) (.seq A_laws_FnExactStarPolynomial.r12 .ret) .skip)) (.seq A_laws_FnExactStarPolynomial.r13 (.seq (.seq A_laws_FnExactStarPolynomial.r14 (.cond (.t 54) (.seq A_laws_FnExactStarPolynomial.r15 .ret) .skip)) (.seq A_laws_FnExactStarPolynomial.r16 (.seq A_laws_FnExactStarPolynomial.r17 (.seq (.seq A_laws_FnExactStarPolynomial.r18 (.cond (.t 59) (.seq A_laws_FnExactStarPolynomial.r19 .ret) .skip)) (.seq (.seq A_laws_FnExactStarPolynomial.r20 (.cond (.t 62) (.seq A_laws_FnExactStarPolynomial.r21 .ret) .skip)) (.seq A_laws_FnExactStarPolynomial.r22 .ret)))))))))))))))))⟩
/-! laws_FnExactValueOf -/
def A_laws_FnExactValueOf.r0 : ACode := (.region none [⟨some 4, .move (.c (.bool false)), none⟩])
def A_laws_FnExactValueOf.r1 : ACode := (.region none [⟨some 10, .move (.t 0), none⟩,
    ⟨some 11, .len (.t 10), none⟩,
    ⟨some 12, .bin .gtr (.t 11) (.c (.int .i64 1048576)), none⟩])
def A_laws_FnExactValueOf.r2 : ACode := (.region none [⟨some 4, .move (.c (.bool true)), none⟩])
def A_laws_FnExactValueOf.r3 : ACode := (.region none [⟨some 14, .move (.t 0), none⟩,
    ⟨some 15, .call 0 [(.t 14)], none⟩,
    ⟨some 16, .move (.t 1), none⟩,
    ⟨some 17, .call 8 [(.t 15), (.t 16)], none⟩,
    ⟨some 13, .move (.t 17), none⟩,
    ⟨some 18, .extract (.t 13) 0, none⟩,
    ⟨some 19, .extract (.t 13) 1, none⟩,
    ⟨some 5, .move (.t 18), none⟩,
    ⟨some 6, .move (.t 19), none⟩])
def A_laws_FnExactValueOf.r4 : ACode := (.region none [⟨some 20, .move (.t 0), none⟩,
    ⟨some 21, .call 0 [(.t 20)], none⟩,
    ⟨some 7, .move (.t 21), none⟩])
def A_laws_FnExactValueOf.r5 : ACode := (.region none [⟨some 23, .move (.t 7), none⟩,
    ⟨some 24, .move (.t 1), none⟩,
    ⟨some 25, .call 9 [(.t 23), (.t 24)], none⟩,
    ⟨some 22, .move (.t 25), none⟩,
    ⟨some 26, .extract (.t 22) 0, none⟩,
    ⟨some 27, .extract (.t 22) 1, none⟩,
    ⟨some 8, .move (.t 26), none⟩,
    ⟨some 9, .move (.t 27), none⟩])
def A_laws_FnExactValueOf.r6 : ACode := (.region none [⟨some 28, .move (.t 8), none⟩,
    ⟨some 29, .move (.t 5), none⟩,
    ⟨some 30, .bin .neq (.t 28) (.t 29), none⟩,
    ⟨some 31, .move (.t 30), none⟩,
    ⟨some 32, .move (.t 9), some (31, false)⟩,
    ⟨some 33, .move (.t 6), some (31, false)⟩,
    ⟨some 34, .bin .neq (.t 32) (.t 33), some (31, false)⟩,
    ⟨some 35, .pick (.t 31) (.c (.bool true)) (.t 34), none⟩])
def A_laws_FnExactValueOf.r7 : ACode := (.region none [⟨some 4, .move (.c (.bool false)), none⟩])
def A_laws_FnExactValueOf.r8 : ACode := (.region none [⟨some 36, .move (.t 7), none⟩,
    ⟨some 37, .move (.t 0), none⟩,
    ⟨some 38, .call 0 [(.t 37)], none⟩,
    ⟨some 39, .call 3 [(.t 36), (.t 38)], none⟩,
    ⟨some 40, .not (.t 39), none⟩])
def A_laws_FnExactValueOf.r9 : ACode := (.region none [⟨some 4, .move (.c (.bool false)), none⟩])
def A_laws_FnExactValueOf.r10 : ACode := (.region none [⟨some 4, .move (.c (.bool true)), none⟩])
def A_laws_FnExactValueOf : AFunc := ⟨[.tmp 4], (.seq A_laws_FnExactValueOf.r0 (.seq (.seq A_laws_FnExactValueOf.r1 (.cond (.t 12) (.seq A_laws_FnExactValueOf.r2 .ret) .skip)) (.seq A_laws_FnExactValueOf.r3 (.seq A_laws_FnExactValueOf.r4 (.seq A_laws_FnExactValueOf.r5 (.seq (.seq A_laws_FnExactValueOf.r6 (.cond (.t 35) (.seq A_laws_FnExactValueOf.r7 .ret) .skip)) (.seq (.seq A_laws_FnExactValueOf.r8 (.cond (.t 40) (.seq A_laws_FnExactValueOf.r9 .ret) .skip)) (.seq A_laws_FnExactValueOf.r10 .ret))))))))⟩
/-! laws_FnExactDerivativeOf -/
def A_laws_FnExactDerivativeOf.r0 : ACode := (.region none [⟨some 2, .move (.c (.bool false)), none⟩])
def A_laws_FnExactDerivativeOf.r1 : ACode := (.region none [⟨some 13, .move (.t 0), none⟩,
    ⟨some 14, .len (.t 13), none⟩,
    ⟨some 15, .bin .gtr (.t 14) (.c (.int .i64 1048576)), none⟩])
def A_laws_FnExactDerivativeOf.r2 : ACode := (.region none [⟨some 2, .move (.c (.bool true)), none⟩])
def A_laws_FnExactDerivativeOf.r3 : ACode := (.region none [⟨some 17, .move (.t 0), none⟩,
    ⟨some 18, .call 0 [(.t 17)], none⟩,
    ⟨some 19, .call 10 [(.t 18)], none⟩,
    ⟨some 16, .move (.t 19), none⟩,
    ⟨some 20, .extract (.t 16) 0, none⟩,
    ⟨some 21, .extract (.t 16) 1, none⟩,
    ⟨some 3, .move (.t 20), none⟩,
    ⟨some 4, .move (.t 21), none⟩])
def A_laws_FnExactDerivativeOf.r4 : ACode := (.region none [⟨some 22, .move (.t 0), none⟩,
    ⟨some 23, .call 0 [(.t 22)], none⟩,
    ⟨some 5, .move (.t 23), none⟩])
def A_laws_FnExactDerivativeOf.r5 : ACode := (.region none [⟨some 25, .move (.t 5), none⟩,
    ⟨some 26, .call 11 [(.t 25)], none⟩,
    ⟨some 24, .move (.t 26), none⟩,
    ⟨some 27, .extract (.t 24) 0, none⟩,
    ⟨some 28, .extract (.t 24) 1, none⟩,
    ⟨some 6, .move (.t 27), none⟩,
    ⟨some 7, .move (.t 28), none⟩])
def A_laws_FnExactDerivativeOf.r6 : ACode := (.region none [⟨some 29, .move (.t 6), none⟩,
    ⟨some 30, .move (.t 3), none⟩,
    ⟨some 31, .call 3 [(.t 29), (.t 30)], none⟩,
    ⟨some 32, .not (.t 31), none⟩,
    ⟨some 33, .move (.t 32), none⟩,
    ⟨some 34, .move (.t 7), some (33, false)⟩,
    ⟨some 35, .move (.t 4), some (33, false)⟩,
    ⟨some 36, .bin .neq (.t 34) (.t 35), some (33, false)⟩,
    ⟨some 37, .pick (.t 33) (.c (.bool true)) (.t 36), none⟩])
def A_laws_FnExactDerivativeOf.r7 : ACode := (.region none [⟨some 2, .move (.c (.bool false)), none⟩])
def A_laws_FnExactDerivativeOf.r8 : ACode := (.region none [⟨some 38, .move (.t 5), none⟩,
    ⟨some 39, .move (.t 0), none⟩,
    ⟨some 40, .call 0 [(.t 39)], none⟩,
    ⟨some 41, .call 3 [(.t 38), (.t 40)], none⟩,
    ⟨some 42, .not (.t 41), none⟩])
def A_laws_FnExactDerivativeOf.r9 : ACode := (.region none [⟨some 2, .move (.c (.bool false)), none⟩])
def A_laws_FnExactDerivativeOf.r10 : ACode := (.region none [⟨some 8, .move (.c (.int .i64 1)), none⟩])
def A_laws_FnExactDerivativeOf.r11 : ACode := (.region none [⟨some 43, .move (.t 5), none⟩,
    ⟨some 44, .move (.t 8), none⟩,
    ⟨some 45, .call 6 [(.t 43), (.t 44)], none⟩,
    ⟨some 8, .move (.t 45), none⟩])
def A_laws_FnExactDerivativeOf.r12 : ACode := (.region none [⟨some 46, .move (.t 8), none⟩,
    ⟨some 47, .bin .lss (.t 46) (.c (.int .i64 0)), none⟩,
    ⟨some 48, .move (.t 47), none⟩,
    ⟨some 49, .move (.t 6), some (48, false)⟩,
    ⟨some 50, .move (.t 3), some (48, false)⟩,
    ⟨some 51, .call 3 [(.t 49), (.t 50)], some (48, false)⟩,
    ⟨some 52, .not (.t 51), some (48, false)⟩,
    ⟨some 53, .pick (.t 48) (.c (.bool true)) (.t 52), none⟩,
    ⟨some 54, .move (.t 53), none⟩,
    ⟨some 55, .move (.t 7), some (54, false)⟩,
    ⟨some 56, .move (.t 4), some (54, false)⟩,
    ⟨some 57, .bin .neq (.t 55) (.t 56), some (54, false)⟩,
    ⟨some 58, .pick (.t 54) (.c (.bool true)) (.t 57), none⟩])
def A_laws_FnExactDerivativeOf.r13 : ACode := (.region none [⟨some 2, .move (.c (.bool false)), none⟩])
def A_laws_FnExactDerivativeOf.r14 : ACode := (.region none [⟨some 9, .move (.c (.int .i64 1)), none⟩])
def A_laws_FnExactDerivativeOf.r15 : ACode := (.region none [⟨some 59, .move (.t 6), none⟩,
    ⟨some 60, .move (.t 9), none⟩,
    ⟨some 61, .call 6 [(.t 59), (.t 60)], none⟩,
    ⟨some 9, .move (.t 61), none⟩])
def A_laws_FnExactDerivativeOf.r16 : ACode := (.region none [⟨some 10, .move (.c (.int .i64 1)), none⟩])
def A_laws_FnExactDerivativeOf.r17 : ACode := (.region none [⟨some 62, .move (.t 6), none⟩,
    ⟨some 63, .move (.t 10), none⟩,
    ⟨some 64, .call 7 [(.t 62), (.t 63)], none⟩,
    ⟨some 10, .move (.t 64), none⟩])
def A_laws_FnExactDerivativeOf.r18 : ACode := (.region none [⟨some 65, .move (.t 10), none⟩,
    ⟨some 66, .bin .lss (.t 65) (.c (.int .i64 0)), none⟩])
def A_laws_FnExactDerivativeOf.r19 : ACode := (.region none [⟨some 2, .move (.c (.bool false)), none⟩])
def A_laws_FnExactDerivativeOf.r20 : ACode := (.region none [⟨some 67, .move (.t 10), none⟩,
    ⟨some 68, .move (.t 9), none⟩,
    ⟨some 69, .bin .neq (.t 67) (.t 68), none⟩])
def A_laws_FnExactDerivativeOf.r21 : ACode := (.region none [⟨some 2, .move (.c (.bool false)), none⟩])
def A_laws_FnExactDerivativeOf.r22 : ACode := (.region none [⟨some 71, .move (.t 0), none⟩,
    ⟨some 72, .call 0 [(.t 71)], none⟩,
    ⟨some 73, .call 11 [(.t 72)], none⟩,
    ⟨some 70, .move (.t 73), none⟩,
    ⟨some 74, .extract (.t 70) 0, none⟩,
    ⟨some 75, .extract (.t 70) 1, none⟩,
    ⟨some 11, .move (.t 74), none⟩,
    ⟨some 12, .move (.t 75), none⟩])
def A_laws_FnExactDerivativeOf.r23 : ACode := (.region none [⟨some 76, .move (.t 11), none⟩,
    ⟨some 77, .move (.t 3), none⟩,
    ⟨some 78, .call 3 [(.t 76), (.t 77)], none⟩,
    ⟨some 79, .not (.t 78), none⟩,
    ⟨some 80, .move (.t 79), none⟩,
    ⟨some 81, .move (.t 12), some (80, false)⟩,
    ⟨some 82, .move (.t 4), some (80, false)⟩,
    ⟨some 83, .bin .neq (.t 81) (.t 82), some (80, false)⟩,
    ⟨some 84, .pick (.t 80) (.c (.bool true)) (.t 83), none⟩])
def A_laws_FnExactDerivativeOf.r24 : ACode := (.region none [⟨some 2, .move (.c (.bool false)), none⟩])
def A_laws_FnExactDerivativeOf.r25 : ACode := (.region none [⟨some 10, .move (.c (.int .i64 1)), none⟩])
def A_laws_FnExactDerivativeOf.r26 : ACode := (.region none [⟨some 85, .move (.t 6), none⟩,
    ⟨some 86, .move (.t 10), none⟩,
    ⟨some 87, .call 7 [(.t 85), (.t 86)], none⟩,
    ⟨some 10, .move (.t 87), none⟩])
def A_laws_FnExactDerivativeOf.r27 : ACode := (.region none [⟨some 88, .move (.t 10), none⟩,
    ⟨some 89, .bin .lss (.t 88) (.c (.int .i64 0)), none⟩])
def A_laws_FnExactDerivativeOf.r28 : ACode := (.region none [⟨some 2, .move (.c (.bool false)), none⟩])
def A_laws_FnExactDerivativeOf.r29 : ACode := (.region none [⟨some 90, .move (.t 10), none⟩,
    ⟨some 91, .move (.t 9), none⟩,
    ⟨some 92, .bin .neq (.t 90) (.t 91), none⟩])
def A_laws_FnExactDerivativeOf.r30 : ACode := (.region none [⟨some 2, .move (.c (.bool false)), none⟩])
def A_laws_FnExactDerivativeOf.r31 : ACode := (.region none [⟨some 2, .move (.c (.bool true)), none⟩])
def A_laws_FnExactDerivativeOf : AFunc := ⟨[.tmp 2], (.seq A_laws_FnExactDerivativeOf.r0 (.seq (.seq A_laws_FnExactDerivativeOf.r1 (.cond (.t 15) (.seq A_laws_FnExactDerivativeOf.r2 .ret) .skip)) (.seq A_laws_FnExactDerivativeOf.r3 (.seq A_laws_FnExactDerivativeOf.r4 (.seq A_laws_FnExactDerivativeOf.r5 (.seq (.seq A_laws_FnExactDerivativeOf.r6 (.cond (.t 37) (.seq A_laws_FnExactDerivativeOf.r7 .ret) .skip)) (.seq (.seq A_laws_FnExactDerivativeOf.r8 (.cond (.t 42) (.seq A_laws_FnExactDerivativeOf.r9 .ret) .skip)) (.seq A_laws_FnExactDerivativeOf.r10 (.seq A_laws_FnExactDerivativeOf.r11 (.seq (.seq A_laws_FnExactDerivativeOf.r12 (.cond (.t 58) (.seq A_laws_FnExactDerivativeOf.r13 .ret) .skip)) (.seq A_laws_FnExactDerivativeOf.r14 (.seq A_laws_FnExactDerivativeOf.r15 (.seq A_laws_FnExactDerivativeOf.r16 (.seq A_laws_FnExactDerivativeOf.r17 (.seq (.seq A_laws_FnExactDerivativeOf.r18 (.cond (.t 66) (.seq A_laws_FnExactDerivativeOf.r19 .ret) .skip)) (.seq (.seq A_laws_FnExactDerivativeOf.r20 (.cond (.t 69) (.seq A_laws_FnExactDerivativeOf.r21 .ret) .skip)) (.seq A_laws_FnExactDerivativeOf.r22 (.seq (.seq A_laws_FnExactDerivativeOf.r23 (.cond (.t 84) (.seq A_laws_FnExactDerivativeOf.r24 .ret) .skip)) (.seq A_laws_FnExactDerivativeOf.r25 (.seq A_laws_FnExactDerivativeOf.r26 (.seq (.seq A_laws_FnExactDerivativeOf.r27 (.cond (.t 89) (.seq A_laws_FnExactDerivativeOf.r28 .ret) .skip)) (.seq (.seq A_laws_FnExactDerivativeOf.r29 (.cond (.t 92) (.seq A_laws_FnExactDerivativeOf.r30 .ret) .skip)) (.seq A_laws_FnExactDerivativeOf.r31 .ret)))))))))))))))))))))))⟩
/-! laws_FnExactCountRooted -/
def A_laws_FnExactCountRooted.r0 : ACode := (.region none [⟨some 4, .move (.c (.bool false)), none⟩])
def A_laws_FnExactCountRooted.r1 : ACode := (.region none [⟨some 11, .move (.t 0), none⟩,
    ⟨some 12, .len (.t 11), none⟩,
    ⟨some 13, .bin .gtr (.t 12) (.c (.int .i64 1048576)), none⟩])
def A_laws_FnExactCountRooted.r2 : ACode := (.region none [⟨some 4, .move (.c (.bool true)), none⟩])
def A_laws_FnExactCountRooted.r3 : ACode := (.region none [⟨some 14, .move (.t 1), none⟩,
    ⟨some 15, .len (.t 14), none⟩,
    ⟨some 16, .bin .gtr (.t 15) (.c (.int .i64 1048576)), none⟩])
def A_laws_FnExactCountRooted.r4 : ACode := (.region none [⟨some 4, .move (.c (.bool true)), none⟩])
def A_laws_FnExactCountRooted.r5 : ACode := (.region none [⟨some 18, .move (.t 0), none⟩,
    ⟨some 19, .call 0 [(.t 18)], none⟩,
    ⟨some 20, .move (.t 1), none⟩,
    ⟨some 21, .call 0 [(.t 20)], none⟩,
    ⟨some 22, .call 12 [(.t 19), (.t 21)], none⟩,
    ⟨some 17, .move (.t 22), none⟩,
    ⟨some 23, .extract (.t 17) 0, none⟩,
    ⟨some 24, .extract (.t 17) 1, none⟩,
    ⟨some 5, .move (.t 23), none⟩,
    ⟨some 6, .move (.t 24), none⟩])
def A_laws_FnExactCountRooted.r6 : ACode := (.region none [⟨some 25, .move (.t 0), none⟩,
    ⟨some 26, .call 0 [(.t 25)], none⟩,
    ⟨some 7, .move (.t 26), none⟩])
def A_laws_FnExactCountRooted.r7 : ACode := (.region none [⟨some 27, .move (.t 1), none⟩,
    ⟨some 28, .call 0 [(.t 27)], none⟩,
    ⟨some 8, .move (.t 28), none⟩])
def A_laws_FnExactCountRooted.r8 : ACode := (.region none [⟨some 30, .move (.t 7), none⟩,
    ⟨some 31, .move (.t 8), none⟩,
    ⟨some 32, .call 13 [(.t 30), (.t 31)], none⟩,
    ⟨some 29, .move (.t 32), none⟩,
    ⟨some 33, .extract (.t 29) 0, none⟩,
    ⟨some 34, .extract (.t 29) 1, none⟩,
    ⟨some 9, .move (.t 33), none⟩,
    ⟨some 10, .move (.t 34), none⟩])
def A_laws_FnExactCountRooted.r9 : ACode := (.region none [⟨some 35, .move (.t 9), none⟩,
    ⟨some 36, .move (.t 5), none⟩,
    ⟨some 37, .bin .neq (.t 35) (.t 36), none⟩,
    ⟨some 38, .move (.t 37), none⟩,
    ⟨some 39, .move (.t 10), some (38, false)⟩,
    ⟨some 40, .move (.t 6), some (38, false)⟩,
    ⟨some 41, .bin .neq (.t 39) (.t 40), some (38, false)⟩,
    ⟨some 42, .pick (.t 38) (.c (.bool true)) (.t 41), none⟩])
def A_laws_FnExactCountRooted.r10 : ACode := (.region none [⟨some 4, .move (.c (.bool false)), none⟩])
def A_laws_FnExactCountRooted.r11 : ACode := (.region none [⟨some 43, .move (.t 7), none⟩,
    ⟨some 44, .move (.t 0), none⟩,
    ⟨some 45, .call 0 [(.t 44)], none⟩,
    ⟨some 46, .call 3 [(.t 43), (.t 45)], none⟩,
    ⟨some 47, .not (.t 46), none⟩])
def A_laws_FnExactCountRooted.r12 : ACode := (.region none [⟨some 4, .move (.c (.bool false)), none⟩])
def A_laws_FnExactCountRooted.r13 : ACode := (.region none [⟨some 48, .move (.t 8), none⟩,
    ⟨some 49, .move (.t 1), none⟩,
    ⟨some 50, .call 0 [(.t 49)], none⟩,
    ⟨some 51, .call 3 [(.t 48), (.t 50)], none⟩,
    ⟨some 52, .not (.t 51), none⟩])
def A_laws_FnExactCountRooted.r14 : ACode := (.region none [⟨some 4, .move (.c (.bool false)), none⟩])
def A_laws_FnExactCountRooted.r15 : ACode := (.region none [⟨some 4, .move (.c (.bool true)), none⟩])
def A_laws_FnExactCountRooted : AFunc := ⟨[.tmp 4], (.seq A_laws_FnExactCountRooted.r0 (.seq (.seq A_laws_FnExactCountRooted.r1 (.cond (.t 13) (.seq A_laws_FnExactCountRooted.r2 .ret) .skip)) (.seq (.seq A_laws_FnExactCountRooted.r3 (.cond (.t 16) (.seq A_laws_FnExactCountRooted.r4 .ret) .skip)) (.seq A_laws_FnExactCountRooted.r5 (.seq A_laws_FnExactCountRooted.r6 (.seq A_laws_FnExactCountRooted.r7 (.seq A_laws_FnExactCountRooted.r8 (.seq (.seq A_laws_FnExactCountRooted.r9 (.cond (.t 42) (.seq A_laws_FnExactCountRooted.r10 .ret) .skip)) (.seq (.seq A_laws_FnExactCountRooted.r11 (.cond (.t 47) (.seq A_laws_FnExactCountRooted.r12 .ret) .skip)) (.seq (.seq A_laws_FnExactCountRooted.r13 (.cond (.t 52) (.seq A_laws_FnExactCountRooted.r14 .ret) .skip)) (.seq A_laws_FnExactCountRooted.r15 .ret)))))))))))⟩
/-! laws_FnExactAddPolynomials -/
def A_laws_FnExactAddPolynomials.r0 : ACode := (.region none [⟨some 4, .move (.c (.bool false)), none⟩])
def A_laws_FnExactAddPolynomials.r1 : ACode := (.region none [⟨some 16, .move (.t 0), none⟩,
    ⟨some 17, .len (.t 16), none⟩,
    ⟨some 18, .bin .gtr (.t 17) (.c (.int .i64 1048576)), none⟩])
def A_laws_FnExactAddPolynomials.r2 : ACode := (.region none [⟨some 4, .move (.c (.bool true)), none⟩])
def A_laws_FnExactAddPolynomials.r3 : ACode := (.region none [⟨some 19, .move (.t 1), none⟩,
    ⟨some 20, .len (.t 19), none⟩,
    ⟨some 21, .bin .gtr (.t 20) (.c (.int .i64 1048576)), none⟩])
def A_laws_FnExactAddPolynomials.r4 : ACode := (.region none [⟨some 4, .move (.c (.bool true)), none⟩])
def A_laws_FnExactAddPolynomials.r5 : ACode := (.region none [⟨some 23, .move (.t 0), none⟩,
    ⟨some 24, .call 0 [(.t 23)], none⟩,
    ⟨some 25, .move (.t 1), none⟩,
    ⟨some 26, .call 0 [(.t 25)], none⟩,
    ⟨some 27, .call 14 [(.t 24), (.t 26)], none⟩,
    ⟨some 22, .move (.t 27), none⟩,
    ⟨some 28, .extract (.t 22) 0, none⟩,
    ⟨some 29, .extract (.t 22) 1, none⟩,
    ⟨some 5, .move (.t 28), none⟩,
    ⟨some 6, .move (.t 29), none⟩])
def A_laws_FnExactAddPolynomials.r6 : ACode := (.region none [⟨some 30, .move (.t 0), none⟩,
    ⟨some 31, .call 0 [(.t 30)], none⟩,
    ⟨some 7, .move (.t 31), none⟩])
def A_laws_FnExactAddPolynomials.r7 : ACode := (.region none [⟨some 32, .move (.t 1), none⟩,
    ⟨some 33, .call 0 [(.t 32)], none⟩,
    ⟨some 8, .move (.t 33), none⟩])
def A_laws_FnExactAddPolynomials.r8 : ACode := (.region none [⟨some 35, .move (.t 7), none⟩,
    ⟨some 36, .move (.t 8), none⟩,
    ⟨some 37, .call 15 [(.t 35), (.t 36)], none⟩,
    ⟨some 34, .move (.t 37), none⟩,
    ⟨some 38, .extract (.t 34) 0, none⟩,
    ⟨some 39, .extract (.t 34) 1, none⟩,
    ⟨some 9, .move (.t 38), none⟩,
    ⟨some 10, .move (.t 39), none⟩])
def A_laws_FnExactAddPolynomials.r9 : ACode := (.region none [⟨some 40, .move (.t 9), none⟩,
    ⟨some 41, .move (.t 5), none⟩,
    ⟨some 42, .call 3 [(.t 40), (.t 41)], none⟩,
    ⟨some 43, .not (.t 42), none⟩,
    ⟨some 44, .move (.t 43), none⟩,
    ⟨some 45, .move (.t 10), some (44, false)⟩,
    ⟨some 46, .move (.t 6), some (44, false)⟩,
    ⟨some 47, .bin .neq (.t 45) (.t 46), some (44, false)⟩,
    ⟨some 48, .pick (.t 44) (.c (.bool true)) (.t 47), none⟩])
def A_laws_FnExactAddPolynomials.r10 : ACode := (.region none [⟨some 4, .move (.c (.bool false)), none⟩])
def A_laws_FnExactAddPolynomials.r11 : ACode := (.region none [⟨some 49, .move (.t 7), none⟩,
    ⟨some 50, .move (.t 0), none⟩,
    ⟨some 51, .call 0 [(.t 50)], none⟩,
    ⟨some 52, .call 3 [(.t 49), (.t 51)], none⟩,
    ⟨some 53, .not (.t 52), none⟩])
def A_laws_FnExactAddPolynomials.r12 : ACode := (.region none [⟨some 4, .move (.c (.bool false)), none⟩])
def A_laws_FnExactAddPolynomials.r13 : ACode := (.region none [⟨some 54, .move (.t 8), none⟩,
    ⟨some 55, .move (.t 1), none⟩,
    ⟨some 56, .call 0 [(.t 55)], none⟩,
    ⟨some 57, .call 3 [(.t 54), (.t 56)], none⟩,
    ⟨some 58, .not (.t 57), none⟩])
def A_laws_FnExactAddPolynomials.r14 : ACode := (.region none [⟨some 4, .move (.c (.bool false)), none⟩])
def A_laws_FnExactAddPolynomials.r15 : ACode := (.region none [⟨some 11, .move (.c (.int .i64 1)), none⟩])
def A_laws_FnExactAddPolynomials.r16 : ACode := (.region none [⟨some 59, .move (.t 7), none⟩,
    ⟨some 60, .move (.t 11), none⟩,
    ⟨some 61, .call 6 [(.t 59), (.t 60)], none⟩,
    ⟨some 11, .move (.t 61), none⟩])
def A_laws_FnExactAddPolynomials.r17 : ACode := (.region none [⟨some 62, .move (.t 8), none⟩,
    ⟨some 63, .move (.t 11), none⟩,
    ⟨some 64, .call 6 [(.t 62), (.t 63)], none⟩,
    ⟨some 11, .move (.t 64), none⟩])
def A_laws_FnExactAddPolynomials.r18 : ACode := (.region none [⟨some 65, .move (.t 11), none⟩,
    ⟨some 66, .bin .lss (.t 65) (.c (.int .i64 0)), none⟩,
    ⟨some 67, .move (.t 66), none⟩,
    ⟨some 68, .move (.t 9), some (67, false)⟩,
    ⟨some 69, .move (.t 5), some (67, false)⟩,
    ⟨some 70, .call 3 [(.t 68), (.t 69)], some (67, false)⟩,
    ⟨some 71, .not (.t 70), some (67, false)⟩,
    ⟨some 72, .pick (.t 67) (.c (.bool true)) (.t 71), none⟩,
    ⟨some 73, .move (.t 72), none⟩,
    ⟨some 74, .move (.t 10), some (73, false)⟩,
    ⟨some 75, .move (.t 6), some (73, false)⟩,
    ⟨some 76, .bin .neq (.t 74) (.t 75), some (73, false)⟩,
    ⟨some 77, .pick (.t 73) (.c (.bool true)) (.t 76), none⟩])
def A_laws_FnExactAddPolynomials.r19 : ACode := (.region none [⟨some 4, .move (.c (.bool false)), none⟩])
def A_laws_FnExactAddPolynomials.r20 : ACode := (.region none [⟨some 12, .move (.c (.int .i64 1)), none⟩])
def A_laws_FnExactAddPolynomials.r21 : ACode := (.region none [⟨some 78, .move (.t 9), none⟩,
    ⟨some 79, .move (.t 12), none⟩,
    ⟨some 80, .call 6 [(.t 78), (.t 79)], none⟩,
    ⟨some 12, .move (.t 80), none⟩])
def A_laws_FnExactAddPolynomials.r22 : ACode := (.region none [⟨some 13, .move (.c (.int .i64 1)), none⟩])
def A_laws_FnExactAddPolynomials.r23 : ACode := (.region none [⟨some 81, .move (.t 9), none⟩,
    ⟨some 82, .move (.t 13), none⟩,
    ⟨some 83, .call 7 [(.t 81), (.t 82)], none⟩,
    ⟨some 13, .move (.t 83), none⟩])
def A_laws_FnExactAddPolynomials.r24 : ACode := (.region none [⟨some 84, .move (.t 13), none⟩,
    ⟨some 85, .bin .lss (.t 84) (.c (.int .i64 0)), none⟩])
def A_laws_FnExactAddPolynomials.r25 : ACode := (.region none [⟨some 4, .move (.c (.bool false)), none⟩])
def A_laws_FnExactAddPolynomials.r26 : ACode := (.region none [⟨some 86, .move (.t 13), none⟩,
    ⟨some 87, .move (.t 12), none⟩,
    ⟨some 88, .bin .neq (.t 86) (.t 87), none⟩])
def A_laws_FnExactAddPolynomials.r27 : ACode := (.region none [⟨some 4, .move (.c (.bool false)), none⟩])
def A_laws_FnExactAddPolynomials.r28 : ACode := (.region none [⟨some 90, .move (.t 0), none⟩,
    ⟨some 91, .call 0 [(.t 90)], none⟩,
    ⟨some 92, .move (.t 1), none⟩,
    ⟨some 93, .call 0 [(.t 92)], none⟩,
    ⟨some 94, .call 15 [(.t 91), (.t 93)], none⟩,
    ⟨some 89, .move (.t 94), none⟩,
    ⟨some 95, .extract (.t 89) 0, none⟩,
    ⟨some 96, .extract (.t 89) 1, none⟩,
    ⟨some 14, .move (.t 95), none⟩,
    ⟨some 15, .move (.t 96), none⟩])
def A_laws_FnExactAddPolynomials.r29 : ACode := (.region none [⟨some 97, .move (.t 14), none⟩,
    ⟨some 98, .move (.t 5), none⟩,
    ⟨some 99, .call 3 [(.t 97), (.t 98)], none⟩,
    ⟨some 100, .not (.t 99), none⟩,
    ⟨some 101, .move (.t 100), none⟩,
    ⟨some 102, .move (.t 15), some (101, false)⟩,
    ⟨some 103, .move (.t 6), some (101, false)⟩,
    ⟨some 104, .bin .neq (.t 102) (.t 103), some (101, false)⟩,
    ⟨some 105, .pick (.t 101) (.c (.bool true)) (.t 104), none⟩])
def A_laws_FnExactAddPolynomials.r30 : ACode := (.region none [⟨some 4, .move (.c (.bool false)), none⟩])
def A_laws_FnExactAddPolynomials.r31 : ACode := (.region none [⟨some 13, .move (.c (.int .i64 1)), none⟩])
def A_laws_FnExactAddPolynomials.r32 : ACode := (.region none [⟨some 106, .move (.t 9), none⟩,
    ⟨some 107, .move (.t 13), none⟩,
    ⟨some 108, .call 7 [(.t 106), (.t 107)], none⟩,
    ⟨some 13, .move (.t 108), none⟩])
def A_laws_FnExactAddPolynomials.r33 : ACode := (.region none [⟨some 109, .move (.t 13), none⟩,
    ⟨some 110, .bin .lss (.t 109) (.c (.int .i64 0)), none⟩])
def A_laws_FnExactAddPolynomials.r34 : ACode := (.region none [⟨some 4, .move (.c (.bool false)), none⟩])
def A_laws_FnExactAddPolynomials.r35 : ACode := (.region none [⟨some 111, .move (.t 13), none⟩,
    ⟨some 112, .move (.t 12), none⟩,
    ⟨some 113, .bin .neq (.t 111) (.t 112), none⟩])
def A_laws_FnExactAddPolynomials.r36 : ACode := (.region none [⟨some 4, .move (.c (.bool false)), none⟩])
def A_laws_FnExactAddPolynomials.r37 : ACode := (.region none [⟨some 4, .move (.c (.bool true)), none⟩])
def A_laws_FnExactAddPolynomials : AFunc := ⟨[.tmp 4], (.seq A_laws_FnExactAddPolynomials.r0 (.seq (.seq A_laws_FnExactAddPolynomials.r1 (.cond (.t 18) (.seq A_laws_FnExactAddPolynomials.r2 .ret) .skip)) (.seq (.seq A_laws_FnExactAddPolynomials.r3 (.cond (.t 21) (.seq A_laws_FnExactAddPolynomials.r4 .ret) .skip)) (.seq A_laws_FnExactAddPolynomials.r5 (.seq A_laws_FnExactAddPolynomials.r6 (.seq A_laws_FnExactAddPolynomials.r7 (.seq A_laws_FnExactAddPolynomials.r8 (.seq (.seq A_laws_FnExactAddPolynomials.r9 (.cond (.t 48) (.seq A_laws_FnExactAddPolynomials.r10 .ret) .skip)) (.seq (.seq A_laws_FnExactAddPolynomials.r11 (.cond (.t 53) (.seq A_laws_FnExactAddPolynomials.r12 .ret) .skip)) (.seq (.seq A_laws_FnExactAddPolynomials.r13 (.cond (.t 58) (.seq A_laws_FnExactAddPolynomials.r14 .ret) .skip)) (.seq A_laws_FnExactAddPolynomials.r15 (.seq A_laws_FnExactAddPolynomials.r16 (.seq A_laws_FnExactAddPolynomials.r17 (.seq (.seq A_laws_FnExactAddPolynomials.r18 (.cond (.t 77) (.seq A_laws_FnExactAddPolynomials.r19 .ret) .skip)) (.seq A_laws_FnExactAddPolynomials.r20 (.seq A_laws_FnExactAddPolynomials.r21 (.seq A_laws_FnExactAddPolynomials.r22 (.seq A_laws_FnExactAddPolynomials.r23 (.seq (.seq A_laws_FnExactAddPolynomials.r24 (.cond (.t 85) (.seq A_laws_FnExactAddPolynomials.r25 .ret) .skip)) (.seq (.seq A_laws_FnExactAddPolynomials.r26 (.cond (.t 88) (.seq A_laws_FnExactAddPolynomials.r27 .ret) .skip)) (.seq A_laws_FnExactAddPolynomials.r28 (.seq (.seq A_laws_FnExactAddPolynomials.r29 (.cond (.t 105) (.seq A_laws_FnExactAddPolynomials.r30 .ret) .skip)) (.seq A_laws_FnExactAddPolynomials.r31 (.seq A_laws_FnExactAddPolynomials.r32 (.seq (.seq A_laws_FnExactAddPolynomials.r33 (.cond (.t 110) (.seq A_laws_FnExactAddPolynomials.r34 .ret) .skip)) (.seq (.seq A_laws_FnExactAddPolynomials.r35 (.cond (.t 113) (.seq A_laws_FnExactAddPolynomials.r36 .ret) .skip)) (.seq A_laws_FnExactAddPolynomials.r37 .ret)))))))))))))))))))))))))))⟩
/-! laws_FnExactMultiplyPolynomials -/
def A_laws_FnExactMultiplyPolynomials.r0 : ACode := (.region none [⟨some 4, .move (.c (.bool false)), none⟩])
def A_laws_FnExactMultiplyPolynomials.r1 : ACode := (.region none [⟨some 16, .move (.t 0), none⟩,
    ⟨some 17, .len (.t 16), none⟩,
    ⟨some 18, .bin .gtr (.t 17) (.c (.int .i64 1048576)), none⟩])
def A_laws_FnExactMultiplyPolynomials.r2 : ACode := (.region none [⟨some 4, .move (.c (.bool true)), none⟩])
def A_laws_FnExactMultiplyPolynomials.r3 : ACode := (.region none [⟨some 19, .move (.t 1), none⟩,
    ⟨some 20, .len (.t 19), none⟩,
    ⟨some 21, .bin .gtr (.t 20) (.c (.int .i64 1048576)), none⟩])
def A_laws_FnExactMultiplyPolynomials.r4 : ACode := (.region none [⟨some 4, .move (.c (.bool true)), none⟩])
def A_laws_FnExactMultiplyPolynomials.r5 : ACode := (.region none [⟨some 23, .move (.t 0), none⟩,
    ⟨some 24, .call 0 [(.t 23)], none⟩,
    ⟨some 25, .move (.t 1), none⟩,
    ⟨some 26, .call 0 [(.t 25)], none⟩,
    ⟨some 27, .call 16 [(.t 24), (.t 26)], none⟩,
    ⟨some 22, .move (.t 27), none⟩,
    ⟨some 28, .extract (.t 22) 0, none⟩,
    ⟨some 29, .extract (.t 22) 1, none⟩,
    ⟨some 5, .move (.t 28), none⟩,
    ⟨some 6, .move (.t 29), none⟩])
def A_laws_FnExactMultiplyPolynomials.r6 : ACode := (.region none [⟨some 30, .move (.t 0), none⟩,
    ⟨some 31, .call 0 [(.t 30)], none⟩,
    ⟨some 7, .move (.t 31), none⟩])
def A_laws_FnExactMultiplyPolynomials.r7 : ACode := (.region none [⟨some 32, .move (.t 1), none⟩,
    ⟨some 33, .call 0 [(.t 32)], none⟩,
    ⟨some 8, .move (.t 33), none⟩])
def A_laws_FnExactMultiplyPolynomials.r8 : ACode := (.region none [⟨some 35, .move (.t 7), none⟩,
    ⟨some 36, .move (.t 8), none⟩,
    ⟨some 37, .call 17 [(.t 35), (.t 36)], none⟩,
    ⟨some 34, .move (.t 37), none⟩,
    ⟨some 38, .extract (.t 34) 0, none⟩,
    ⟨some 39, .extract (.t 34) 1, none⟩,
    ⟨some 9, .move (.t 38), none⟩,
    ⟨some 10, .move (.t 39), none⟩])
def A_laws_FnExactMultiplyPolynomials.r9 : ACode := (.region none [⟨some 40, .move (.t 9), none⟩,
    ⟨some 41, .move (.t 5), none⟩,
    ⟨some 42, .call 3 [(.t 40), (.t 41)], none⟩,
    ⟨some 43, .not (.t 42), none⟩,
    ⟨some 44, .move (.t 43), none⟩,
    ⟨some 45, .move (.t 10), some (44, false)⟩,
    ⟨some 46, .move (.t 6), some (44, false)⟩,
    ⟨some 47, .bin .neq (.t 45) (.t 46), some (44, false)⟩,
    ⟨some 48, .pick (.t 44) (.c (.bool true)) (.t 47), none⟩])
def A_laws_FnExactMultiplyPolynomials.r10 : ACode := (.region none [⟨some 4, .move (.c (.bool false)), none⟩])
def A_laws_FnExactMultiplyPolynomials.r11 : ACode := (.region none [⟨some 49, .move (.t 7), none⟩,
    ⟨some 50, .move (.t 0), none⟩,
    ⟨some 51, .call 0 [(.t 50)], none⟩,
    ⟨some 52, .call 3 [(.t 49), (.t 51)], none⟩,
    ⟨some 53, .not (.t 52), none⟩])
def A_laws_FnExactMultiplyPolynomials.r12 : ACode := (.region none [⟨some 4, .move (.c (.bool false)), none⟩])
def A_laws_FnExactMultiplyPolynomials.r13 : ACode := (.region none [⟨some 54, .move (.t 8), none⟩,
    ⟨some 55, .move (.t 1), none⟩,
    ⟨some 56, .call 0 [(.t 55)], none⟩,
    ⟨some 57, .call 3 [(.t 54), (.t 56)], none⟩,
    ⟨some 58, .not (.t 57), none⟩])
def A_laws_FnExactMultiplyPolynomials.r14 : ACode := (.region none [⟨some 4, .move (.c (.bool false)), none⟩])
def A_laws_FnExactMultiplyPolynomials.r15 : ACode := (.region none [⟨some 11, .move (.c (.int .i64 1)), none⟩])
def A_laws_FnExactMultiplyPolynomials.r16 : ACode := (.region none [⟨some 59, .move (.t 7), none⟩,
    ⟨some 60, .move (.t 11), none⟩,
    ⟨some 61, .call 6 [(.t 59), (.t 60)], none⟩,
    ⟨some 11, .move (.t 61), none⟩])
def A_laws_FnExactMultiplyPolynomials.r17 : ACode := (.region none [⟨some 62, .move (.t 8), none⟩,
    ⟨some 63, .move (.t 11), none⟩,
    ⟨some 64, .call 6 [(.t 62), (.t 63)], none⟩,
    ⟨some 11, .move (.t 64), none⟩])
def A_laws_FnExactMultiplyPolynomials.r18 : ACode := (.region none [⟨some 65, .move (.t 11), none⟩,
    ⟨some 66, .bin .lss (.t 65) (.c (.int .i64 0)), none⟩,
    ⟨some 67, .move (.t 66), none⟩,
    ⟨some 68, .move (.t 9), some (67, false)⟩,
    ⟨some 69, .move (.t 5), some (67, false)⟩,
    ⟨some 70, .call 3 [(.t 68), (.t 69)], some (67, false)⟩,
    ⟨some 71, .not (.t 70), some (67, false)⟩,
    ⟨some 72, .pick (.t 67) (.c (.bool true)) (.t 71), none⟩,
    ⟨some 73, .move (.t 72), none⟩,
    ⟨some 74, .move (.t 10), some (73, false)⟩,
    ⟨some 75, .move (.t 6), some (73, false)⟩,
    ⟨some 76, .bin .neq (.t 74) (.t 75), some (73, false)⟩,
    ⟨some 77, .pick (.t 73) (.c (.bool true)) (.t 76), none⟩])
def A_laws_FnExactMultiplyPolynomials.r19 : ACode := (.region none [⟨some 4, .move (.c (.bool false)), none⟩])
def A_laws_FnExactMultiplyPolynomials.r20 : ACode := (.region none [⟨some 12, .move (.c (.int .i64 1)), none⟩])
def A_laws_FnExactMultiplyPolynomials.r21 : ACode := (.region none [⟨some 78, .move (.t 9), none⟩,
    ⟨some 79, .move (.t 12), none⟩,
    ⟨some 80, .call 6 [(.t 78), (.t 79)], none⟩,
    ⟨some 12, .move (.t 80), none⟩])
def A_laws_FnExactMultiplyPolynomials.r22 : ACode := (.region none [⟨some 13, .move (.c (.int .i64 1)), none⟩])
def A_laws_FnExactMultiplyPolynomials.r23 : ACode := (.region none [⟨some 81, .move (.t 9), none⟩,
    ⟨some 82, .move (.t 13), none⟩,
    ⟨some 83, .call 7 [(.t 81), (.t 82)], none⟩,
    ⟨some 13, .move (.t 83), none⟩])
def A_laws_FnExactMultiplyPolynomials.r24 : ACode := (.region none [⟨some 84, .move (.t 13), none⟩,
    ⟨some 85, .bin .lss (.t 84) (.c (.int .i64 0)), none⟩])
def A_laws_FnExactMultiplyPolynomials.r25 : ACode := (.region none [⟨some 4, .move (.c (.bool false)), none⟩])
def A_laws_FnExactMultiplyPolynomials.r26 : ACode := (.region none [⟨some 86, .move (.t 13), none⟩,
    ⟨some 87, .move (.t 12), none⟩,
    ⟨some 88, .bin .neq (.t 86) (.t 87), none⟩])
def A_laws_FnExactMultiplyPolynomials.r27 : ACode := (.region none [⟨some 4, .move (.c (.bool false)), none⟩])
def A_laws_FnExactMultiplyPolynomials.r28 : ACode := (.region none [⟨some 90, .move (.t 0), none⟩,
    ⟨some 91, .call 0 [(.t 90)], none⟩,
    ⟨some 92, .move (.t 1), none⟩,
    ⟨some 93, .call 0 [(.t 92)], none⟩,
    ⟨some 94, .call 17 [(.t 91), (.t 93)], none⟩,
    ⟨some 89, .move (.t 94), none⟩,
    ⟨some 95, .extract (.t 89) 0, none⟩,
    ⟨some 96, .extract (.t 89) 1, none⟩,
    ⟨some 14, .move (.t 95), none⟩,
    ⟨some 15, .move (.t 96), none⟩])
def A_laws_FnExactMultiplyPolynomials.r29 : ACode := (.region none [⟨some 97, .move (.t 14), none⟩,
    ⟨some 98, .move (.t 5), none⟩,
    ⟨some 99, .call 3 [(.t 97), (.t 98)], none⟩,
    ⟨some 100, .not (.t 99), none⟩,
    ⟨some 101, .move (.t 100), none⟩,
    ⟨some 102, .move (.t 15), some (101, false)⟩,
    ⟨some 103, .move (.t 6), some (101, false)⟩,
    ⟨some 104, .bin .neq (.t 102) (.t 103), some (101, false)⟩,
    ⟨some 105, .pick (.t 101) (.c (.bool true)) (.t 104), none⟩])
def A_laws_FnExactMultiplyPolynomials.r30 : ACode := (.region none [⟨some 4, .move (.c (.bool false)), none⟩])
def A_laws_FnExactMultiplyPolynomials.r31 : ACode := (.region none [⟨some 13, .move (.c (.int .i64 1)), none⟩])
def A_laws_FnExactMultiplyPolynomials.r32 : ACode := (.region none [⟨some 106, .move (.t 9), none⟩,
    ⟨some 107, .move (.t 13), none⟩,
    ⟨some 108, .call 7 [(.t 106), (.t 107)], none⟩,
    ⟨some 13, .move (.t 108), none⟩])
def A_laws_FnExactMultiplyPolynomials.r33 : ACode := (.region none [⟨some 109, .move (.t 13), none⟩,
    ⟨some 110, .bin .lss (.t 109) (.c (.int .i64 0)), none⟩])
def A_laws_FnExactMultiplyPolynomials.r34 : ACode := (.region none [⟨some 4, .move (.c (.bool false)), none⟩])
def A_laws_FnExactMultiplyPolynomials.r35 : ACode := (.region none [⟨some 111, .move (.t 13), none⟩,
    ⟨some 112, .move (.t 12), none⟩,
    ⟨some 113, .bin .neq (.t 111) (.t 112), none⟩])
def A_laws_FnExactMultiplyPolynomials.r36 : ACode := (.region none [⟨some 4, .move (.c (.bool false)), none⟩])
def A_laws_FnExactMultiplyPolynomials.r37 : ACode := (.region none [⟨some 4, .move (.c (.bool true)), none⟩])
def A_laws_FnExactMultiplyPolynomials : AFunc := ⟨[.tmp 4], (.seq A_laws_FnExactMultiplyPolynomials.r0 (.seq (.seq A_laws_FnExactMultiplyPolynomials.r1 (.cond (.t 18) (.seq A_laws_FnExactMultiplyPolynomials.r2 .ret) .skip)) (.seq (.seq A_laws_FnExactMultiplyPolynomials.r3 (.cond (.t 21) (.seq A_laws_FnExactMultiplyPolynomials.r4 .ret) .skip)) (.seq A_laws_FnExactMultiplyPolynomials.r5 (.seq A_laws_FnExactMultiplyPolynomials.r6 (.seq A_laws_FnExactMultiplyPolynomials.r7 (.seq A_laws_FnExactMultiplyPolynomials.r8 (.seq (.seq A_laws_FnExactMultiplyPolynomials.r9 (.cond (.t 48) (.seq A_laws_FnExactMultiplyPolynomials.r10 .ret) .skip)) (.seq (.seq A_laws_FnExactMultiplyPolynomials.r11 (.cond (.t 53) (.seq A_laws_FnExactMultiplyPolynomials.r12 .ret) .skip)) (.seq (.seq A_laws_FnExactMultiplyPolynomials.r13 (.cond (.t 58) (.seq A_laws_FnExactMultiplyPolynomials.r14 .ret) .skip)) (.seq A_laws_FnExactMultiplyPolynomials.r15 (.seq A_laws_FnExactMultiplyPolynomials.r16 (.seq A_laws_FnExactMultiplyPolynomials.r17 (.seq (.seq A_laws_FnExactMultiplyPolynomials.r18 (.cond (.t 77) (.seq A_laws_FnExactMultiplyPolynomials.r19 .ret) .skip)) (.seq A_laws_FnExactMultiplyPolynomials.r20 (.seq A_laws_FnExactMultiplyPolynomials.r21 (.seq A_laws_FnExactMultiplyPolynomials.r22 (.seq A_laws_FnExactMultiplyPolynomials.r23 (.seq (.seq A_laws_FnExactMultiplyPolynomials.r24 (.cond (.t 85) (.seq A_laws_FnExactMultiplyPolynomials.r25 .ret) .skip)) (.seq (.seq A_laws_FnExactMultiplyPolynomials.r26 (.cond (.t 88) (.seq A_laws_FnExactMultiplyPolynomials.r27 .ret) .skip)) (.seq A_laws_FnExactMultiplyPolynomials.r28 (.seq (.seq A_laws_FnExactMultiplyPolynomials.r29 (.cond (.t 105) (.seq A_laws_FnExactMultiplyPolynomials.r30 .ret) .skip)) (.seq A_laws_FnExactMultiplyPolynomials.r31 (.seq A_laws_FnExactMultiplyPolynomials.r32 (.seq (.seq A_laws_FnExactMultiplyPolynomials.r33 (.cond (.t 110) (.seq A_laws_FnExactMultiplyPolynomials.r34 .ret) .skip)) (.seq (.seq A_laws_FnExactMultiplyPolynomials.r35 (.cond (.t 113) (.seq A_laws_FnExactMultiplyPolynomials.r36 .ret) .skip)) (.seq A_laws_FnExactMultiplyPolynomials.r37 .ret)))))))))))))))))))))))))))⟩
/-! laws_FnExactChainPolynomial -/
def A_laws_FnExactChainPolynomial.r0 : ACode := (.region none [⟨some 2, .move (.c (.bool false)), none⟩])
def A_laws_FnExactChainPolynomial.r1 : ACode := (.region none [⟨some 12, .move (.t 0), none⟩,
    ⟨some 13, .call 18 [(.t 12)], none⟩,
    ⟨some 11, .move (.t 13), none⟩,
    ⟨some 14, .extract (.t 11) 0, none⟩,
    ⟨some 15, .extract (.t 11) 1, none⟩,
    ⟨some 3, .move (.t 14), none⟩,
    ⟨some 4, .move (.t 15), none⟩])
def A_laws_FnExactChainPolynomial.r2 : ACode := (.region none [⟨some 17, .move (.t 0), none⟩,
    ⟨some 18, .call 19 [(.t 17)], none⟩,
    ⟨some 16, .move (.t 18), none⟩,
    ⟨some 19, .extract (.t 16) 0, none⟩,
    ⟨some 20, .extract (.t 16) 1, none⟩,
    ⟨some 5, .move (.t 19), none⟩,
    ⟨some 6, .move (.t 20), none⟩])
def A_laws_FnExactChainPolynomial.r3 : ACode := (.region none [⟨some 21, .move (.t 5), none⟩,
    ⟨some 22, .move (.t 3), none⟩,
    ⟨some 23, .call 3 [(.t 21), (.t 22)], none⟩,
    ⟨some 24, .not (.t 23), none⟩,
    ⟨some 25, .move (.t 24), none⟩,
    ⟨some 26, .move (.t 6), some (25, false)⟩,
    ⟨some 27, .move (.t 4), some (25, false)⟩,
    ⟨some 28, .bin .neq (.t 26) (.t 27), some (25, false)⟩,
    ⟨some 29, .pick (.t 25) (.c (.bool true)) (.t 28), none⟩])
def A_laws_FnExactChainPolynomial.r4 : ACode := (.region none [⟨some 2, .move (.c (.bool false)), none⟩])
def A_laws_FnExactChainPolynomial.r5 : ACode := (.region none [⟨some 7, .move (.c (.int .i64 1)), none⟩])
def A_laws_FnExactChainPolynomial.r6 : ACode := (.region none [⟨some 30, .move (.t 5), none⟩,
    ⟨some 31, .move (.t 7), none⟩,
    ⟨some 32, .call 6 [(.t 30), (.t 31)], none⟩,
    ⟨some 7, .move (.t 32), none⟩])
def A_laws_FnExactChainPolynomial.r7 : ACode := (.region none [⟨some 8, .move (.c (.int .i64 1)), none⟩])
def A_laws_FnExactChainPolynomial.r8 : ACode := (.region none [⟨some 33, .move (.t 5), none⟩,
    ⟨some 34, .move (.t 8), none⟩,
    ⟨some 35, .call 7 [(.t 33), (.t 34)], none⟩,
    ⟨some 8, .move (.t 35), none⟩])
def A_laws_FnExactChainPolynomial.r9 : ACode := (.region none [⟨some 36, .move (.t 8), none⟩,
    ⟨some 37, .bin .lss (.t 36) (.c (.int .i64 0)), none⟩])
def A_laws_FnExactChainPolynomial.r10 : ACode := (.region none [⟨some 2, .move (.c (.bool false)), none⟩])
def A_laws_FnExactChainPolynomial.r11 : ACode := (.region none [⟨some 38, .move (.t 8), none⟩,
    ⟨some 39, .move (.t 7), none⟩,
    ⟨some 40, .bin .neq (.t 38) (.t 39), none⟩])
def A_laws_FnExactChainPolynomial.r12 : ACode := (.region none [⟨some 2, .move (.c (.bool false)), none⟩])
def A_laws_FnExactChainPolynomial.r13 : ACode := (.region none [⟨some 42, .move (.t 0), none⟩,
    ⟨some 43, .call 19 [(.t 42)], none⟩,
    ⟨some 41, .move (.t 43), none⟩,
    ⟨some 44, .extract (.t 41) 0, none⟩,
    ⟨some 45, .extract (.t 41) 1, none⟩,
    ⟨some 9, .move (.t 44), none⟩,
    ⟨some 10, .move (.t 45), none⟩])
def A_laws_FnExactChainPolynomial.r14 : ACode := (.region none [⟨some 46, .move (.t 9), none⟩,
    ⟨some 47, .move (.t 3), none⟩,
    ⟨some 48, .call 3 [(.t 46), (.t 47)], none⟩,
    ⟨some 49, .not (.t 48), none⟩,
    ⟨some 50, .move (.t 49), none⟩,
    ⟨some 51, .move (.t 10), some (50, false)⟩,
    ⟨some 52, .move (.t 4), some (50, false)⟩,
    ⟨some 53, .bin .neq (.t 51) (.t 52), some (50, false)⟩,
    ⟨some 54, .pick (.t 50) (.c (.bool true)) (.t 53), none⟩])
def A_laws_FnExactChainPolynomial.r15 : ACode := (.region none [⟨some 2, .move (.c (.bool false)), none⟩])
def A_laws_FnExactChainPolynomial.r16 : ACode := (.region none [⟨some 8, .move (.c (.int .i64 1)), none⟩])
def A_laws_FnExactChainPolynomial.r17 : ACode := (.region none [⟨some 55, .move (.t 5), none⟩,
    ⟨some 56, .move (.t 8), none⟩,
    ⟨some 57, .call 7 [(.t 55), (.t 56)], none⟩,
    ⟨some 8, .move (.t 57), none⟩])
def A_laws_FnExactChainPolynomial.r18 : ACode := (.region none [⟨some 58, .move (.t 8), none⟩,
    ⟨some 59, .bin .lss (.t 58) (.c (.int .i64 0)), none⟩])
def A_laws_FnExactChainPolynomial.r19 : ACode := (.region none [⟨some 2, .move (.c (.bool false)), none⟩])
def A_laws_FnExactChainPolynomial.r20 : ACode := (.region none [⟨some 60, .move (.t 8), none⟩,
    ⟨some 61, .move (.t 7), none⟩,
    ⟨some 62, .bin .neq (.t 60) (.t 61), none⟩])
def A_laws_FnExactChainPolynomial.r21 : ACode := (.region none [⟨some 2, .move (.c (.bool false)), none⟩])
def A_laws_FnExactChainPolynomial.r22 : ACode := (.region none [⟨some 2, .move (.c (.bool true)), none⟩])
def A_laws_FnExactChainPolynomial : AFunc := ⟨[.tmp 2], (.seq A_laws_FnExactChainPolynomial.r0 (.seq A_laws_FnExactChainPolynomial.r1 (.seq A_laws_FnExactChainPolynomial.r2 (.seq (.seq A_laws_FnExactChainPolynomial.r3 (.cond (.t 29) (.seq A_laws_FnExactChainPolynomial.r4 .ret) .skip)) (.seq A_laws_FnExactChainPolynomial.r5 (.seq A_laws_FnExactChainPolynomial.r6 (.seq A_laws_FnExactChainPolynomial.r7 (.seq A_laws_FnExactChainPolynomial.r8 (.seq (.seq A_laws_FnExactChainPolynomial.r9 (.cond (.t 37) (.seq A_laws_FnExactChainPolynomial.r10 .ret) .skip)) (.seq (.seq A_laws_FnExactChainPolynomial.r11 (.cond (.t 40) (.seq A_laws_FnExactChainPolynomial.r12 .ret) .skip)) (.seq A_laws_FnExactChainPolynomial.r13 (.seq (.seq A_laws_FnExactChainPolynomial.r14 (.cond (.t 54) (.seq A_laws_FnExactChainPolynomial.r15 .ret) .skip)) (.seq A_laws_FnExactChainPolynomial.r16 (.seq A_laws_FnExactChainPolynomial.r17 (.seq (.seq A_laws_FnExactChainPolynomial.r18 (.cond (.t 59) (.seq A_laws_FnExactChainPolynomial.r19 .ret) .skip)) (.seq (.seq A_laws_FnExactChainPolynomial.r20 (.cond (.t 62) (.seq A_laws_FnExactChainPolynomial.r21 .ret) .skip)) (.seq A_laws_FnExactChainPolynomial.r22 .ret)))))))))))))))))⟩
/-! laws_FnExactEulerOfPassport -/
def A_laws_FnExactEulerOfPassport.r0 : ACode := (.region none [⟨some 2, .move (.c (.bool false)), none⟩])
def A_laws_FnExactEulerOfPassport.r1 : ACode := (.region none [⟨some 3, .move (.c (.int .i64 1048576)), none⟩])
def A_laws_FnExactEulerOfPassport.r2 : ACode := (.region none [⟨some 9, .move (.t 0), none⟩,
    ⟨some 10, .move (.t 3), none⟩,
    ⟨some 11, .call 20 [(.t 9), (.t 10)], none⟩,
    ⟨some 3, .move (.t 11), none⟩])
def A_laws_FnExactEulerOfPassport.r3 : ACode := (.region none [⟨some 12, .move (.t 3), none⟩,
    ⟨some 13, .bin .lss (.t 12) (.c (.int .i64 0)), none⟩])
def A_laws_FnExactEulerOfPassport.r4 : ACode := (.region none [⟨some 2, .move (.c (.bool true)), none⟩])
def A_laws_FnExactEulerOfPassport.r5 : ACode := (.region none [⟨some 15, .move (.t 0), none⟩,
    ⟨some 16, .call 21 [(.t 15)], none⟩,
    ⟨some 17, .call 22 [(.t 16)], none⟩,
    ⟨some 14, .move (.t 17), none⟩,
    ⟨some 18, .extract (.t 14) 0, none⟩,
    ⟨some 19, .extract (.t 14) 1, none⟩,
    ⟨some 4, .move (.t 18), none⟩,
    ⟨some 5, .move (.t 19), none⟩])
def A_laws_FnExactEulerOfPassport.r6 : ACode := (.region none [⟨some 20, .move (.t 0), none⟩,
    ⟨some 21, .call 21 [(.t 20)], none⟩,
    ⟨some 6, .move (.t 21), none⟩])
def A_laws_FnExactEulerOfPassport.r7 : ACode := (.region none [⟨some 23, .move (.t 6), none⟩,
    ⟨some 24, .call 23 [(.t 23)], none⟩,
    ⟨some 22, .move (.t 24), none⟩,
    ⟨some 25, .extract (.t 22) 0, none⟩,
    ⟨some 26, .extract (.t 22) 1, none⟩,
    ⟨some 7, .move (.t 25), none⟩,
    ⟨some 8, .move (.t 26), none⟩])
def A_laws_FnExactEulerOfPassport.r8 : ACode := (.region none [⟨some 27, .move (.t 7), none⟩,
    ⟨some 28, .move (.t 4), none⟩,
    ⟨some 29, .bin .neq (.t 27) (.t 28), none⟩,
    ⟨some 30, .move (.t 29), none⟩,
    ⟨some 31, .move (.t 8), some (30, false)⟩,
    ⟨some 32, .move (.t 5), some (30, false)⟩,
    ⟨some 33, .bin .neq (.t 31) (.t 32), some (30, false)⟩,
    ⟨some 34, .pick (.t 30) (.c (.bool true)) (.t 33), none⟩])
def A_laws_FnExactEulerOfPassport.r9 : ACode := (.region none [⟨some 2, .move (.c (.bool false)), none⟩])
def A_laws_FnExactEulerOfPassport.r10 : ACode := (.region none [⟨some 35, .move (.t 6), none⟩,
    ⟨some 36, .move (.t 0), none⟩,
    ⟨some 37, .call 21 [(.t 36)], none⟩,
    ⟨some 38, .call 24 [(.t 35), (.t 37)], none⟩,
    ⟨some 39, .not (.t 38), none⟩])
def A_laws_FnExactEulerOfPassport.r11 : ACode := (.region none [⟨some 2, .move (.c (.bool false)), none⟩])
def A_laws_FnExactEulerOfPassport.r12 : ACode := (.region none [⟨some 2, .move (.c (.bool true)), none⟩])
def A_laws_FnExactEulerOfPassport : AFunc := ⟨[.tmp 2], (.seq A_laws_FnExactEulerOfPassport.r0 (.seq A_laws_FnExactEulerOfPassport.r1 (.seq A_laws_FnExactEulerOfPassport.r2 (.seq (.seq A_laws_FnExactEulerOfPassport.r3 (.cond (.t 13) (.seq A_laws_FnExactEulerOfPassport.r4 .ret) .skip)) (.seq A_laws_FnExactEulerOfPassport.r5 (.seq A_laws_FnExactEulerOfPassport.r6 (.seq A_laws_FnExactEulerOfPassport.r7 (.seq (.seq A_laws_FnExactEulerOfPassport.r8 (.cond (.t 34) (.seq A_laws_FnExactEulerOfPassport.r9 .ret) .skip)) (.seq (.seq A_laws_FnExactEulerOfPassport.r10 (.cond (.t 39) (.seq A_laws_FnExactEulerOfPassport.r11 .ret) .skip)) (.seq A_laws_FnExactEulerOfPassport.r12 .ret))))))))))⟩
/-! laws_FnExactForkPolynomial -/
def A_laws_FnExactForkPolynomial.r0 : ACode := (.region none [⟨some 4, .move (.c (.bool false)), none⟩])
def A_laws_FnExactForkPolynomial.r1 : ACode := (.region none [⟨some 14, .move (.t 0), none⟩,
    ⟨some 15, .move (.t 1), none⟩,
    ⟨some 16, .call 25 [(.t 14), (.t 15)], none⟩,
    ⟨some 13, .move (.t 16), none⟩,
    ⟨some 17, .extract (.t 13) 0, none⟩,
    ⟨some 18, .extract (.t 13) 1, none⟩,
    ⟨some 5, .move (.t 17), none⟩,
    ⟨some 6, .move (.t 18), none⟩])
def A_laws_FnExactForkPolynomial.r2 : ACode := (.region none [⟨some 20, .move (.t 0), none⟩,
    ⟨some 21, .move (.t 1), none⟩,
    ⟨some 22, .call 26 [(.t 20), (.t 21)], none⟩,
    ⟨some 19, .move (.t 22), none⟩,
    ⟨some 23, .extract (.t 19) 0, none⟩,
    ⟨some 24, .extract (.t 19) 1, none⟩,
    ⟨some 7, .move (.t 23), none⟩,
    ⟨some 8, .move (.t 24), none⟩])
def A_laws_FnExactForkPolynomial.r3 : ACode := (.region none [⟨some 25, .move (.t 7), none⟩,
    ⟨some 26, .move (.t 5), none⟩,
    ⟨some 27, .call 3 [(.t 25), (.t 26)], none⟩,
    ⟨some 28, .not (.t 27), none⟩,
    ⟨some 29, .move (.t 28), none⟩,
    ⟨some 30, .move (.t 8), some (29, false)⟩,
    ⟨some 31, .move (.t 6), some (29, false)⟩,
    ⟨some 32, .bin .neq (.t 30) (.t 31), some (29, false)⟩,
    ⟨some 33, .pick (.t 29) (.c (.bool true)) (.t 32), none⟩])
def A_laws_FnExactForkPolynomial.r4 : ACode := (.region none [⟨some 4, .move (.c (.bool false)), none⟩])
def A_laws_FnExactForkPolynomial.r5 : ACode := (.region none [⟨some 9, .move (.c (.int .i64 1)), none⟩])
def A_laws_FnExactForkPolynomial.r6 : ACode := (.region none [⟨some 34, .move (.t 7), none⟩,
    ⟨some 35, .move (.t 9), none⟩,
    ⟨some 36, .call 6 [(.t 34), (.t 35)], none⟩,
    ⟨some 9, .move (.t 36), none⟩])
def A_laws_FnExactForkPolynomial.r7 : ACode := (.region none [⟨some 10, .move (.c (.int .i64 1)), none⟩])
def A_laws_FnExactForkPolynomial.r8 : ACode := (.region none [⟨some 37, .move (.t 7), none⟩,
    ⟨some 38, .move (.t 10), none⟩,
    ⟨some 39, .call 7 [(.t 37), (.t 38)], none⟩,
    ⟨some 10, .move (.t 39), none⟩])
def A_laws_FnExactForkPolynomial.r9 : ACode := (.region none [⟨some 40, .move (.t 10), none⟩,
    ⟨some 41, .bin .lss (.t 40) (.c (.int .i64 0)), none⟩])
def A_laws_FnExactForkPolynomial.r10 : ACode := (.region none [⟨some 4, .move (.c (.bool false)), none⟩])
def A_laws_FnExactForkPolynomial.r11 : ACode := (.region none [⟨some 42, .move (.t 10), none⟩,
    ⟨some 43, .move (.t 9), none⟩,
    ⟨some 44, .bin .neq (.t 42) (.t 43), none⟩])
def A_laws_FnExactForkPolynomial.r12 : ACode := (.region none [⟨some 4, .move (.c (.bool false)), none⟩])
def A_laws_FnExactForkPolynomial.r13 : ACode := (.region none [⟨some 46, .move (.t 0), none⟩,
    ⟨some 47, .move (.t 1), none⟩,
    ⟨some 48, .call 26 [(.t 46), (.t 47)], none⟩,
    ⟨some 45, .move (.t 48), none⟩,
    ⟨some 49, .extract (.t 45) 0, none⟩,
    ⟨some 50, .extract (.t 45) 1, none⟩,
    ⟨some 11, .move (.t 49), none⟩,
    ⟨some 12, .move (.t 50), none⟩])
def A_laws_FnExactForkPolynomial.r14 : ACode := (.region none [⟨some 51, .move (.t 11), none⟩,
    ⟨some 52, .move (.t 5), none⟩,
    ⟨some 53, .call 3 [(.t 51), (.t 52)], none⟩,
    ⟨some 54, .not (.t 53), none⟩,
    ⟨some 55, .move (.t 54), none⟩,
    ⟨some 56, .move (.t 12), some (55, false)⟩,
    ⟨some 57, .move (.t 6), some (55, false)⟩,
    ⟨some 58, .bin .neq (.t 56) (.t 57), some (55, false)⟩,
    ⟨some 59, .pick (.t 55) (.c (.bool true)) (.t 58), none⟩])
def A_laws_FnExactForkPolynomial.r15 : ACode := (.region none [⟨some 4, .move (.c (.bool false)), none⟩])
def A_laws_FnExactForkPolynomial.r16 : ACode := (.region none [⟨some 10, .move (.c (.int .i64 1)), none⟩])
def A_laws_FnExactForkPolynomial.r17 : ACode := (.region none [⟨some 60, .move (.t 7), none⟩,
    ⟨some 61, .move (.t 10), none⟩,
    ⟨some 62, .call 7 [(.t 60), (.t 61)], none⟩,
    ⟨some 10, .move (.t 62), none⟩])
def A_laws_FnExactForkPolynomial.r18 : ACode := (.region none [⟨some 63, .move (.t 10), none⟩,
    ⟨some 64, .bin .lss (.t 63) (.c (.int .i64 0)), none⟩])
def A_laws_FnExactForkPolynomial.r19 : ACode := (.region none [⟨some 4, .move (.c (.bool false)), none⟩])
def A_laws_FnExactForkPolynomial.r20 : ACode := (.region none [⟨some 65, .move (.t 10), none⟩,
    ⟨some 66, .move (.t 9), none⟩,
    ⟨some 67, .bin .neq (.t 65) (.t 66), none⟩])
def A_laws_FnExactForkPolynomial.r21 : ACode := (.region none [⟨some 4, .move (.c (.bool false)), none⟩])
def A_laws_FnExactForkPolynomial.r22 : ACode := (.region none [⟨some 4, .move (.c (.bool true)), none⟩])
def A_laws_FnExactForkPolynomial : AFunc := ⟨[.tmp 4], (.seq A_laws_FnExactForkPolynomial.r0 (.seq A_laws_FnExactForkPolynomial.r1 (.seq A_laws_FnExactForkPolynomial.r2 (.seq (.seq A_laws_FnExactForkPolynomial.r3 (.cond (.t 33) (.seq A_laws_FnExactForkPolynomial.r4 .ret) .skip)) (.seq A_laws_FnExactForkPolynomial.r5 (.seq A_laws_FnExactForkPolynomial.r6 (.seq A_laws_FnExactForkPolynomial.r7 (.seq A_laws_FnExactForkPolynomial.r8 (.seq (.seq A_laws_FnExactForkPolynomial.r9 (.cond (.t 41) (.seq A_laws_FnExactForkPolynomial.r10 .ret) .skip)) (.seq (.seq A_laws_FnExactForkPolynomial.r11 (.cond (.t 44) (.seq A_laws_FnExactForkPolynomial.r12 .ret) .skip)) (.seq A_laws_FnExactForkPolynomial.r13 (.seq (.seq A_laws_FnExactForkPolynomial.r14 (.cond (.t 59) (.seq A_laws_FnExactForkPolynomial.r15 .ret) .skip)) (.seq A_laws_FnExactForkPolynomial.r16 (.seq A_laws_FnExactForkPolynomial.r17 (.seq (.seq A_laws_FnExactForkPolynomial.r18 (.cond (.t 64) (.seq A_laws_FnExactForkPolynomial.r19 .ret) .skip)) (.seq (.seq A_laws_FnExactForkPolynomial.r20 (.cond (.t 67) (.seq A_laws_FnExactForkPolynomial.r21 .ret) .skip)) (.seq A_laws_FnExactForkPolynomial.r22 .ret)))))))))))))))))⟩
/-! laws_FnExactComposePolynomials -/
def A_laws_FnExactComposePolynomials.r0 : ACode := (.region none [⟨some 4, .move (.c (.bool false)), none⟩])
def A_laws_FnExactComposePolynomials.r1 : ACode := (.region none [⟨some 16, .move (.t 0), none⟩,
    ⟨some 17, .len (.t 16), none⟩,
    ⟨some 18, .bin .gtr (.t 17) (.c (.int .i64 1048576)), none⟩])
def A_laws_FnExactComposePolynomials.r2 : ACode := (.region none [⟨some 4, .move (.c (.bool true)), none⟩])
def A_laws_FnExactComposePolynomials.r3 : ACode := (.region none [⟨some 19, .move (.t 1), none⟩,
    ⟨some 20, .len (.t 19), none⟩,
    ⟨some 21, .bin .gtr (.t 20) (.c (.int .i64 1048576)), none⟩])
def A_laws_FnExactComposePolynomials.r4 : ACode := (.region none [⟨some 4, .move (.c (.bool true)), none⟩])
def A_laws_FnExactComposePolynomials.r5 : ACode := (.region none [⟨some 23, .move (.t 0), none⟩,
    ⟨some 24, .call 0 [(.t 23)], none⟩,
    ⟨some 25, .move (.t 1), none⟩,
    ⟨some 26, .call 0 [(.t 25)], none⟩,
    ⟨some 27, .call 27 [(.t 24), (.t 26)], none⟩,
    ⟨some 22, .move (.t 27), none⟩,
    ⟨some 28, .extract (.t 22) 0, none⟩,
    ⟨some 29, .extract (.t 22) 1, none⟩,
    ⟨some 5, .move (.t 28), none⟩,
    ⟨some 6, .move (.t 29), none⟩])
def A_laws_FnExactComposePolynomials.r6 : ACode := (.region none [⟨some 30, .move (.t 0), none⟩,
    ⟨some 31, .call 0 [(.t 30)], none⟩,
    ⟨some 7, .move (.t 31), none⟩])
def A_laws_FnExactComposePolynomials.r7 : ACode := (.region none [⟨some 32, .move (.t 1), none⟩,
    ⟨some 33, .call 0 [(.t 32)], none⟩,
    ⟨some 8, .move (.t 33), none⟩])
def A_laws_FnExactComposePolynomials.r8 : ACode := (.region none [⟨some 35, .move (.t 7), none⟩,
    ⟨some 36, .move (.t 8), none⟩,
    ⟨some 37, .call 28 [(.t 35), (.t 36)], none⟩,
    ⟨some 34, .move (.t 37), none⟩,
    ⟨some 38, .extract (.t 34) 0, none⟩,
    ⟨some 39, .extract (.t 34) 1, none⟩,
    ⟨some 9, .move (.t 38), none⟩,
    ⟨some 10, .move (.t 39), none⟩])
def A_laws_FnExactComposePolynomials.r9 : ACode := (.region none [⟨some 40, .move (.t 9), none⟩,
    ⟨some 41, .move (.t 5), none⟩,
    ⟨some 42, .call 3 [(.t 40), (.t 41)], none⟩,
    ⟨some 43, .not (.t 42), none⟩,
    ⟨some 44, .move (.t 43), none⟩,
    ⟨some 45, .move (.t 10), some (44, false)⟩,
    ⟨some 46, .move (.t 6), some (44, false)⟩,
    ⟨some 47, .bin .neq (.t 45) (.t 46), some (44, false)⟩,
    ⟨some 48, .pick (.t 44) (.c (.bool true)) (.t 47), none⟩])
def A_laws_FnExactComposePolynomials.r10 : ACode := (.region none [⟨some 4, .move (.c (.bool false)), none⟩])
def A_laws_FnExactComposePolynomials.r11 : ACode := (.region none [⟨some 49, .move (.t 7), none⟩,
    ⟨some 50, .move (.t 0), none⟩,
    ⟨some 51, .call 0 [(.t 50)], none⟩,
    ⟨some 52, .call 3 [(.t 49), (.t 51)], none⟩,
    ⟨some 53, .not (.t 52), none⟩])
def A_laws_FnExactComposePolynomials.r12 : ACode := (.region none [⟨some 4, .move (.c (.bool false)), none⟩])
def A_laws_FnExactComposePolynomials.r13 : ACode := (.region none [⟨some 54, .move (.t 8), none⟩,
    ⟨some 55, .move (.t 1), none⟩,
    ⟨some 56, .call 0 [(.t 55)], none⟩,
    ⟨some 57, .call 3 [(.t 54), (.t 56)], none⟩,
    ⟨some 58, .not (.t 57), none⟩])
def A_laws_FnExactComposePolynomials.r14 : ACode := (.region none [⟨some 4, .move (.c (.bool false)), none⟩])
def A_laws_FnExactComposePolynomials.r15 : ACode := (.region none [⟨some 11, .move (.c (.int .i64 1)), none⟩])
def A_laws_FnExactComposePolynomials.r16 : ACode := (.region none [⟨some 59, .move (.t 7), none⟩,
    ⟨some 60, .move (.t 11), none⟩,
    ⟨some 61, .call 6 [(.t 59), (.t 60)], none⟩,
    ⟨some 11, .move (.t 61), none⟩])
def A_laws_FnExactComposePolynomials.r17 : ACode := (.region none [⟨some 62, .move (.t 8), none⟩,
    ⟨some 63, .move (.t 11), none⟩,
    ⟨some 64, .call 6 [(.t 62), (.t 63)], none⟩,
    ⟨some 11, .move (.t 64), none⟩])
def A_laws_FnExactComposePolynomials.r18 : ACode := (.region none [⟨some 65, .move (.t 11), none⟩,
    ⟨some 66, .bin .lss (.t 65) (.c (.int .i64 0)), none⟩,
    ⟨some 67, .move (.t 66), none⟩,
    ⟨some 68, .move (.t 9), some (67, false)⟩,
    ⟨some 69, .move (.t 5), some (67, false)⟩,
    ⟨some 70, .call 3 [(.t 68), (.t 69)], some (67, false)⟩,
    ⟨some 71, .not (.t 70), some (67, false)⟩,
    ⟨some 72, .pick (.t 67) (.c (.bool true)) (.t 71), none⟩,
    ⟨some 73, .move (.t 72), none⟩,
    ⟨some 74, .move (.t 10), some (73, false)⟩,
    ⟨some 75, .move (.t 6), some (73, false)⟩,
    ⟨some 76, .bin .neq (.t 74) (.t 75), some (73, false)⟩,
    ⟨some 77, .pick (.t 73) (.c (.bool true)) (.t 76), none⟩])
def A_laws_FnExactComposePolynomials.r19 : ACode := (.region none [⟨some 4, .move (.c (.bool false)), none⟩])
def A_laws_FnExactComposePolynomials.r20 : ACode := (.region none [⟨some 12, .move (.c (.int .i64 1)), none⟩])
def A_laws_FnExactComposePolynomials.r21 : ACode := (.region none [⟨some 78, .move (.t 9), none⟩,
    ⟨some 79, .move (.t 12), none⟩,
    ⟨some 80, .call 6 [(.t 78), (.t 79)], none⟩,
    ⟨some 12, .move (.t 80), none⟩])
def A_laws_FnExactComposePolynomials.r22 : ACode := (.region none [⟨some 13, .move (.c (.int .i64 1)), none⟩])
def A_laws_FnExactComposePolynomials.r23 : ACode := (.region none [⟨some 81, .move (.t 9), none⟩,
    ⟨some 82, .move (.t 13), none⟩,
    ⟨some 83, .call 7 [(.t 81), (.t 82)], none⟩,
    ⟨some 13, .move (.t 83), none⟩])
def A_laws_FnExactComposePolynomials.r24 : ACode := (.region none [⟨some 84, .move (.t 13), none⟩,
    ⟨some 85, .bin .lss (.t 84) (.c (.int .i64 0)), none⟩])
def A_laws_FnExactComposePolynomials.r25 : ACode := (.region none [⟨some 4, .move (.c (.bool false)), none⟩])
def A_laws_FnExactComposePolynomials.r26 : ACode := (.region none [⟨some 86, .move (.t 13), none⟩,
    ⟨some 87, .move (.t 12), none⟩,
    ⟨some 88, .bin .neq (.t 86) (.t 87), none⟩])
def A_laws_FnExactComposePolynomials.r27 : ACode := (.region none [⟨some 4, .move (.c (.bool false)), none⟩])
def A_laws_FnExactComposePolynomials.r28 : ACode := (.region none [⟨some 90, .move (.t 0), none⟩,
    ⟨some 91, .call 0 [(.t 90)], none⟩,
    ⟨some 92, .move (.t 1), none⟩,
    ⟨some 93, .call 0 [(.t 92)], none⟩,
    ⟨some 94, .call 28 [(.t 91), (.t 93)], none⟩,
    ⟨some 89, .move (.t 94), none⟩,
    ⟨some 95, .extract (.t 89) 0, none⟩,
    ⟨some 96, .extract (.t 89) 1, none⟩,
    ⟨some 14, .move (.t 95), none⟩,
    ⟨some 15, .move (.t 96), none⟩])
def A_laws_FnExactComposePolynomials.r29 : ACode := (.region none [⟨some 97, .move (.t 14), none⟩,
    ⟨some 98, .move (.t 5), none⟩,
    ⟨some 99, .call 3 [(.t 97), (.t 98)], none⟩,
    ⟨some 100, .not (.t 99), none⟩,
    ⟨some 101, .move (.t 100), none⟩,
    ⟨some 102, .move (.t 15), some (101, false)⟩,
    ⟨some 103, .move (.t 6), some (101, false)⟩,
    ⟨some 104, .bin .neq (.t 102) (.t 103), some (101, false)⟩,
    ⟨some 105, .pick (.t 101) (.c (.bool true)) (.t 104), none⟩])
def A_laws_FnExactComposePolynomials.r30 : ACode := (.region none [⟨some 4, .move (.c (.bool false)), none⟩])
def A_laws_FnExactComposePolynomials.r31 : ACode := (.region none [⟨some 13, .move (.c (.int .i64 1)), none⟩])
def A_laws_FnExactComposePolynomials.r32 : ACode := (.region none [⟨some 106, .move (.t 9), none⟩,
    ⟨some 107, .move (.t 13), none⟩,
    ⟨some 108, .call 7 [(.t 106), (.t 107)], none⟩,
    ⟨some 13, .move (.t 108), none⟩])
def A_laws_FnExactComposePolynomials.r33 : ACode := (.region none [⟨some 109, .move (.t 13), none⟩,
    ⟨some 110, .bin .lss (.t 109) (.c (.int .i64 0)), none⟩])
def A_laws_FnExactComposePolynomials.r34 : ACode := (.region none [⟨some 4, .move (.c (.bool false)), none⟩])
def A_laws_FnExactComposePolynomials.r35 : ACode := (.region none [⟨some 111, .move (.t 13), none⟩,
    ⟨some 112, .move (.t 12), none⟩,
    ⟨some 113, .bin .neq (.t 111) (.t 112), none⟩])
def A_laws_FnExactComposePolynomials.r36 : ACode := (.region none [⟨some 4, .move (.c (.bool false)), none⟩])
def A_laws_FnExactComposePolynomials.r37 : ACode := (.region none [⟨some 4, .move (.c (.bool true)), none⟩])
def A_laws_FnExactComposePolynomials : AFunc := ⟨[.tmp 4], (.seq A_laws_FnExactComposePolynomials.r0 (.seq (.seq A_laws_FnExactComposePolynomials.r1 (.cond (.t 18) (.seq A_laws_FnExactComposePolynomials.r2 .ret) .skip)) (.seq (.seq A_laws_FnExactComposePolynomials.r3 (.cond (.t 21) (.seq A_laws_FnExactComposePolynomials.r4 .ret) .skip)) (.seq A_laws_FnExactComposePolynomials.r5 (.seq A_laws_FnExactComposePolynomials.r6 (.seq A_laws_FnExactComposePolynomials.r7 (.seq A_laws_FnExactComposePolynomials.r8 (.seq (.seq A_laws_FnExactComposePolynomials.r9 (.cond (.t 48) (.seq A_laws_FnExactComposePolynomials.r10 .ret) .skip)) (.seq (.seq A_laws_FnExactComposePolynomials.r11 (.cond (.t 53) (.seq A_laws_FnExactComposePolynomials.r12 .ret) .skip)) (.seq (.seq A_laws_FnExactComposePolynomials.r13 (.cond (.t 58) (.seq A_laws_FnExactComposePolynomials.r14 .ret) .skip)) (.seq A_laws_FnExactComposePolynomials.r15 (.seq A_laws_FnExactComposePolynomials.r16 (.seq A_laws_FnExactComposePolynomials.r17 (.seq (.seq A_laws_FnExactComposePolynomials.r18 (.cond (.t 77) (.seq A_laws_FnExactComposePolynomials.r19 .ret) .skip)) (.seq A_laws_FnExactComposePolynomials.r20 (.seq A_laws_FnExactComposePolynomials.r21 (.seq A_laws_FnExactComposePolynomials.r22 (.seq A_laws_FnExactComposePolynomials.r23 (.seq (.seq A_laws_FnExactComposePolynomials.r24 (.cond (.t 85) (.seq A_laws_FnExactComposePolynomials.r25 .ret) .skip)) (.seq (.seq A_laws_FnExactComposePolynomials.r26 (.cond (.t 88) (.seq A_laws_FnExactComposePolynomials.r27 .ret) .skip)) (.seq A_laws_FnExactComposePolynomials.r28 (.seq (.seq A_laws_FnExactComposePolynomials.r29 (.cond (.t 105) (.seq A_laws_FnExactComposePolynomials.r30 .ret) .skip)) (.seq A_laws_FnExactComposePolynomials.r31 (.seq A_laws_FnExactComposePolynomials.r32 (.seq (.seq A_laws_FnExactComposePolynomials.r33 (.cond (.t 110) (.seq A_laws_FnExactComposePolynomials.r34 .ret) .skip)) (.seq (.seq A_laws_FnExactComposePolynomials.r35 (.cond (.t 113) (.seq A_laws_FnExactComposePolynomials.r36 .ret) .skip)) (.seq A_laws_FnExactComposePolynomials.r37 .ret)))))))))))))))))))))))))))⟩
/-! laws_FnExactCommonDivisor -/
def A_laws_FnExactCommonDivisor.r0 : ACode := (.region none [⟨some 4, .move (.c (.bool false)), none⟩])
def A_laws_FnExactCommonDivisor.r1 : ACode := (.region none [⟨some 16, .move (.t 0), none⟩,
    ⟨some 17, .len (.t 16), none⟩,
    ⟨some 18, .bin .gtr (.t 17) (.c (.int .i64 1048576)), none⟩])
def A_laws_FnExactCommonDivisor.r2 : ACode := (.region none [⟨some 4, .move (.c (.bool true)), none⟩])
def A_laws_FnExactCommonDivisor.r3 : ACode := (.region none [⟨some 19, .move (.t 1), none⟩,
    ⟨some 20, .len (.t 19), none⟩,
    ⟨some 21, .bin .gtr (.t 20) (.c (.int .i64 1048576)), none⟩])
def A_laws_FnExactCommonDivisor.r4 : ACode := (.region none [⟨some 4, .move (.c (.bool true)), none⟩])
def A_laws_FnExactCommonDivisor.r5 : ACode := (.region none [⟨some 23, .move (.t 0), none⟩,
    ⟨some 24, .call 0 [(.t 23)], none⟩,
    ⟨some 25, .move (.t 1), none⟩,
    ⟨some 26, .call 0 [(.t 25)], none⟩,
    ⟨some 27, .call 29 [(.t 24), (.t 26)], none⟩,
    ⟨some 22, .move (.t 27), none⟩,
    ⟨some 28, .extract (.t 22) 0, none⟩,
    ⟨some 29, .extract (.t 22) 1, none⟩,
    ⟨some 5, .move (.t 28), none⟩,
    ⟨some 6, .move (.t 29), none⟩])
def A_laws_FnExactCommonDivisor.r6 : ACode := (.region none [⟨some 30, .move (.t 0), none⟩,
    ⟨some 31, .call 0 [(.t 30)], none⟩,
    ⟨some 7, .move (.t 31), none⟩])
def A_laws_FnExactCommonDivisor.r7 : ACode := (.region none [⟨some 32, .move (.t 1), none⟩,
    ⟨some 33, .call 0 [(.t 32)], none⟩,
    ⟨some 8, .move (.t 33), none⟩])
def A_laws_FnExactCommonDivisor.r8 : ACode := (.region none [⟨some 35, .move (.t 7), none⟩,
    ⟨some 36, .move (.t 8), none⟩,
    ⟨some 37, .call 30 [(.t 35), (.t 36)], none⟩,
    ⟨some 34, .move (.t 37), none⟩,
    ⟨some 38, .extract (.t 34) 0, none⟩,
    ⟨some 39, .extract (.t 34) 1, none⟩,
    ⟨some 9, .move (.t 38), none⟩,
    ⟨some 10, .move (.t 39), none⟩])
def A_laws_FnExactCommonDivisor.r9 : ACode := (.region none [⟨some 40, .move (.t 9), none⟩,
    ⟨some 41, .move (.t 5), none⟩,
    ⟨some 42, .call 3 [(.t 40), (.t 41)], none⟩,
    ⟨some 43, .not (.t 42), none⟩,
    ⟨some 44, .move (.t 43), none⟩,
    ⟨some 45, .move (.t 10), some (44, false)⟩,
    ⟨some 46, .move (.t 6), some (44, false)⟩,
    ⟨some 47, .bin .neq (.t 45) (.t 46), some (44, false)⟩,
    ⟨some 48, .pick (.t 44) (.c (.bool true)) (.t 47), none⟩])
def A_laws_FnExactCommonDivisor.r10 : ACode := (.region none [⟨some 4, .move (.c (.bool false)), none⟩])
def A_laws_FnExactCommonDivisor.r11 : ACode := (.region none [⟨some 49, .move (.t 7), none⟩,
    ⟨some 50, .move (.t 0), none⟩,
    ⟨some 51, .call 0 [(.t 50)], none⟩,
    ⟨some 52, .call 3 [(.t 49), (.t 51)], none⟩,
    ⟨some 53, .not (.t 52), none⟩])
def A_laws_FnExactCommonDivisor.r12 : ACode := (.region none [⟨some 4, .move (.c (.bool false)), none⟩])
def A_laws_FnExactCommonDivisor.r13 : ACode := (.region none [⟨some 54, .move (.t 8), none⟩,
    ⟨some 55, .move (.t 1), none⟩,
    ⟨some 56, .call 0 [(.t 55)], none⟩,
    ⟨some 57, .call 3 [(.t 54), (.t 56)], none⟩,
    ⟨some 58, .not (.t 57), none⟩])
def A_laws_FnExactCommonDivisor.r14 : ACode := (.region none [⟨some 4, .move (.c (.bool false)), none⟩])
def A_laws_FnExactCommonDivisor.r15 : ACode := (.region none [⟨some 11, .move (.c (.int .i64 1)), none⟩])
def A_laws_FnExactCommonDivisor.r16 : ACode := (.region none [⟨some 59, .move (.t 7), none⟩,
    ⟨some 60, .move (.t 11), none⟩,
    ⟨some 61, .call 6 [(.t 59), (.t 60)], none⟩,
    ⟨some 11, .move (.t 61), none⟩])
def A_laws_FnExactCommonDivisor.r17 : ACode := (.region none [⟨some 62, .move (.t 8), none⟩,
    ⟨some 63, .move (.t 11), none⟩,
    ⟨some 64, .call 6 [(.t 62), (.t 63)], none⟩,
    ⟨some 11, .move (.t 64), none⟩])
def A_laws_FnExactCommonDivisor.r18 : ACode := (.region none [⟨some 65, .move (.t 11), none⟩,
    ⟨some 66, .bin .lss (.t 65) (.c (.int .i64 0)), none⟩,
    ⟨some 67, .move (.t 66), none⟩,
    ⟨some 68, .move (.t 9), some (67, false)⟩,
    ⟨some 69, .move (.t 5), some (67, false)⟩,
    ⟨some 70, .call 3 [(.t 68), (.t 69)], some (67, false)⟩,
    ⟨some 71, .not (.t 70), some (67, false)⟩,
    ⟨some 72, .pick (.t 67) (.c (.bool true)) (.t 71), none⟩,
    ⟨some 73, .move (.t 72), none⟩,
    ⟨some 74, .move (.t 10), some (73, false)⟩,
    ⟨some 75, .move (.t 6), some (73, false)⟩,
    ⟨some 76, .bin .neq (.t 74) (.t 75), some (73, false)⟩,
    ⟨some 77, .pick (.t 73) (.c (.bool true)) (.t 76), none⟩])
def A_laws_FnExactCommonDivisor.r19 : ACode := (.region none [⟨some 4, .move (.c (.bool false)), none⟩])
def A_laws_FnExactCommonDivisor.r20 : ACode := (.region none [⟨some 12, .move (.c (.int .i64 1)), none⟩])
def A_laws_FnExactCommonDivisor.r21 : ACode := (.region none [⟨some 78, .move (.t 9), none⟩,
    ⟨some 79, .move (.t 12), none⟩,
    ⟨some 80, .call 6 [(.t 78), (.t 79)], none⟩,
    ⟨some 12, .move (.t 80), none⟩])
def A_laws_FnExactCommonDivisor.r22 : ACode := (.region none [⟨some 13, .move (.c (.int .i64 1)), none⟩])
def A_laws_FnExactCommonDivisor.r23 : ACode := (.region none [⟨some 81, .move (.t 9), none⟩,
    ⟨some 82, .move (.t 13), none⟩,
    ⟨some 83, .call 7 [(.t 81), (.t 82)], none⟩,
    ⟨some 13, .move (.t 83), none⟩])
def A_laws_FnExactCommonDivisor.r24 : ACode := (.region none [⟨some 84, .move (.t 13), none⟩,
    ⟨some 85, .bin .lss (.t 84) (.c (.int .i64 0)), none⟩])
def A_laws_FnExactCommonDivisor.r25 : ACode := (.region none [⟨some 4, .move (.c (.bool false)), none⟩])
def A_laws_FnExactCommonDivisor.r26 : ACode := (.region none [⟨some 86, .move (.t 13), none⟩,
    ⟨some 87, .move (.t 12), none⟩,
    ⟨some 88, .bin .neq (.t 86) (.t 87), none⟩])
def A_laws_FnExactCommonDivisor.r27 : ACode := (.region none [⟨some 4, .move (.c (.bool false)), none⟩])
def A_laws_FnExactCommonDivisor.r28 : ACode := (.region none [⟨some 90, .move (.t 0), none⟩,
    ⟨some 91, .call 0 [(.t 90)], none⟩,
    ⟨some 92, .move (.t 1), none⟩,
    ⟨some 93, .call 0 [(.t 92)], none⟩,
    ⟨some 94, .call 30 [(.t 91), (.t 93)], none⟩,
    ⟨some 89, .move (.t 94), none⟩,
    ⟨some 95, .extract (.t 89) 0, none⟩,
    ⟨some 96, .extract (.t 89) 1, none⟩,
    ⟨some 14, .move (.t 95), none⟩,
    ⟨some 15, .move (.t 96), none⟩])
def A_laws_FnExactCommonDivisor.r29 : ACode := (.region none [⟨some 97, .move (.t 14), none⟩,
    ⟨some 98, .move (.t 5), none⟩,
    ⟨some 99, .call 3 [(.t 97), (.t 98)], none⟩,
    ⟨some 100, .not (.t 99), none⟩,
    ⟨some 101, .move (.t 100), none⟩,
    ⟨some 102, .move (.t 15), some (101, false)⟩,
    ⟨some 103, .move (.t 6), some (101, false)⟩,
    ⟨some 104, .bin .neq (.t 102) (.t 103), some (101, false)⟩,
    ⟨some 105, .pick (.t 101) (.c (.bool true)) (.t 104), none⟩])
def A_laws_FnExactCommonDivisor.r30 : ACode := (.region none [⟨some 4, .move (.c (.bool false)), none⟩])
def A_laws_FnExactCommonDivisor.r31 : ACode := (.region none [⟨some 13, .move (.c (.int .i64 1)), none⟩])
def A_laws_FnExactCommonDivisor.r32 : ACode := (.region none [⟨some 106, .move (.t 9), none⟩,
    ⟨some 107, .move (.t 13), none⟩,
    ⟨some 108, .call 7 [(.t 106), (.t 107)], none⟩,
    ⟨some 13, .move (.t 108), none⟩])
def A_laws_FnExactCommonDivisor.r33 : ACode := (.region none [⟨some 109, .move (.t 13), none⟩,
    ⟨some 110, .bin .lss (.t 109) (.c (.int .i64 0)), none⟩])
def A_laws_FnExactCommonDivisor.r34 : ACode := (.region none [⟨some 4, .move (.c (.bool false)), none⟩])
def A_laws_FnExactCommonDivisor.r35 : ACode := (.region none [⟨some 111, .move (.t 13), none⟩,
    ⟨some 112, .move (.t 12), none⟩,
    ⟨some 113, .bin .neq (.t 111) (.t 112), none⟩])
def A_laws_FnExactCommonDivisor.r36 : ACode := (.region none [⟨some 4, .move (.c (.bool false)), none⟩])
def A_laws_FnExactCommonDivisor.r37 : ACode := (.region none [⟨some 4, .move (.c (.bool true)), none⟩])
def A_laws_FnExactCommonDivisor : AFunc := ⟨[.tmp 4], (.seq A_laws_FnExactCommonDivisor.r0 (.seq (.seq A_laws_FnExactCommonDivisor.r1 (.cond (.t 18) (.seq A_laws_FnExactCommonDivisor.r2 .ret) .skip)) (.seq (.seq A_laws_FnExactCommonDivisor.r3 (.cond (.t 21) (.seq A_laws_FnExactCommonDivisor.r4 .ret) .skip)) (.seq A_laws_FnExactCommonDivisor.r5 (.seq A_laws_FnExactCommonDivisor.r6 (.seq A_laws_FnExactCommonDivisor.r7 (.seq A_laws_FnExactCommonDivisor.r8 (.seq (.seq A_laws_FnExactCommonDivisor.r9 (.cond (.t 48) (.seq A_laws_FnExactCommonDivisor.r10 .ret) .skip)) (.seq (.seq A_laws_FnExactCommonDivisor.r11 (.cond (.t 53) (.seq A_laws_FnExactCommonDivisor.r12 .ret) .skip)) (.seq (.seq A_laws_FnExactCommonDivisor.r13 (.cond (.t 58) (.seq A_laws_FnExactCommonDivisor.r14 .ret) .skip)) (.seq A_laws_FnExactCommonDivisor.r15 (.seq A_laws_FnExactCommonDivisor.r16 (.seq A_laws_FnExactCommonDivisor.r17 (.seq (.seq A_laws_FnExactCommonDivisor.r18 (.cond (.t 77) (.seq A_laws_FnExactCommonDivisor.r19 .ret) .skip)) (.seq A_laws_FnExactCommonDivisor.r20 (.seq A_laws_FnExactCommonDivisor.r21 (.seq A_laws_FnExactCommonDivisor.r22 (.seq A_laws_FnExactCommonDivisor.r23 (.seq (.seq A_laws_FnExactCommonDivisor.r24 (.cond (.t 85) (.seq A_laws_FnExactCommonDivisor.r25 .ret) .skip)) (.seq (.seq A_laws_FnExactCommonDivisor.r26 (.cond (.t 88) (.seq A_laws_FnExactCommonDivisor.r27 .ret) .skip)) (.seq A_laws_FnExactCommonDivisor.r28 (.seq (.seq A_laws_FnExactCommonDivisor.r29 (.cond (.t 105) (.seq A_laws_FnExactCommonDivisor.r30 .ret) .skip)) (.seq A_laws_FnExactCommonDivisor.r31 (.seq A_laws_FnExactCommonDivisor.r32 (.seq (.seq A_laws_FnExactCommonDivisor.r33 (.cond (.t 110) (.seq A_laws_FnExactCommonDivisor.r34 .ret) .skip)) (.seq (.seq A_laws_FnExactCommonDivisor.r35 (.cond (.t 113) (.seq A_laws_FnExactCommonDivisor.r36 .ret) .skip)) (.seq A_laws_FnExactCommonDivisor.r37 .ret)))))))))))))))))))))))))))⟩
/-! laws_FnExactIsCritical -/
def A_laws_FnExactIsCritical.r0 : ACode := (.region none [⟨some 4, .move (.c (.bool false)), none⟩])
def A_laws_FnExactIsCritical.r1 : ACode := (.region none [⟨some 10, .move (.t 0), none⟩,
    ⟨some 11, .len (.t 10), none⟩,
    ⟨some 12, .bin .gtr (.t 11) (.c (.int .i64 1048576)), none⟩])
def A_laws_FnExactIsCritical.r2 : ACode := (.region none [⟨some 4, .move (.c (.bool true)), none⟩])
def A_laws_FnExactIsCritical.r3 : ACode := (.region none [⟨some 14, .move (.t 0), none⟩,
    ⟨some 15, .call 0 [(.t 14)], none⟩,
    ⟨some 16, .move (.t 1), none⟩,
    ⟨some 17, .call 31 [(.t 15), (.t 16)], none⟩,
    ⟨some 13, .move (.t 17), none⟩,
    ⟨some 18, .extract (.t 13) 0, none⟩,
    ⟨some 19, .extract (.t 13) 1, none⟩,
    ⟨some 5, .move (.t 18), none⟩,
    ⟨some 6, .move (.t 19), none⟩])
def A_laws_FnExactIsCritical.r4 : ACode := (.region none [⟨some 20, .move (.t 0), none⟩,
    ⟨some 21, .call 0 [(.t 20)], none⟩,
    ⟨some 7, .move (.t 21), none⟩])
def A_laws_FnExactIsCritical.r5 : ACode := (.region none [⟨some 23, .move (.t 7), none⟩,
    ⟨some 24, .move (.t 1), none⟩,
    ⟨some 25, .call 32 [(.t 23), (.t 24)], none⟩,
    ⟨some 22, .move (.t 25), none⟩,
    ⟨some 26, .extract (.t 22) 0, none⟩,
    ⟨some 27, .extract (.t 22) 1, none⟩,
    ⟨some 8, .move (.t 26), none⟩,
    ⟨some 9, .move (.t 27), none⟩])
def A_laws_FnExactIsCritical.r6 : ACode := (.region none [⟨some 28, .move (.t 8), none⟩,
    ⟨some 29, .move (.t 5), none⟩,
    ⟨some 30, .eqb true (.t 28) (.t 29), none⟩,
    ⟨some 31, .move (.t 30), none⟩,
    ⟨some 32, .move (.t 9), some (31, false)⟩,
    ⟨some 33, .move (.t 6), some (31, false)⟩,
    ⟨some 34, .bin .neq (.t 32) (.t 33), some (31, false)⟩,
    ⟨some 35, .pick (.t 31) (.c (.bool true)) (.t 34), none⟩])
def A_laws_FnExactIsCritical.r7 : ACode := (.region none [⟨some 4, .move (.c (.bool false)), none⟩])
def A_laws_FnExactIsCritical.r8 : ACode := (.region none [⟨some 36, .move (.t 7), none⟩,
    ⟨some 37, .move (.t 0), none⟩,
    ⟨some 38, .call 0 [(.t 37)], none⟩,
    ⟨some 39, .call 3 [(.t 36), (.t 38)], none⟩,
    ⟨some 40, .not (.t 39), none⟩])
def A_laws_FnExactIsCritical.r9 : ACode := (.region none [⟨some 4, .move (.c (.bool false)), none⟩])
def A_laws_FnExactIsCritical.r10 : ACode := (.region none [⟨some 4, .move (.c (.bool true)), none⟩])
def A_laws_FnExactIsCritical : AFunc := ⟨[.tmp 4], (.seq A_laws_FnExactIsCritical.r0 (.seq (.seq A_laws_FnExactIsCritical.r1 (.cond (.t 12) (.seq A_laws_FnExactIsCritical.r2 .ret) .skip)) (.seq A_laws_FnExactIsCritical.r3 (.seq A_laws_FnExactIsCritical.r4 (.seq A_laws_FnExactIsCritical.r5 (.seq (.seq A_laws_FnExactIsCritical.r6 (.cond (.t 35) (.seq A_laws_FnExactIsCritical.r7 .ret) .skip)) (.seq (.seq A_laws_FnExactIsCritical.r8 (.cond (.t 40) (.seq A_laws_FnExactIsCritical.r9 .ret) .skip)) (.seq A_laws_FnExactIsCritical.r10 .ret))))))))⟩
/-! laws_FnExactMultiplicitiesOf -/
def A_laws_FnExactMultiplicitiesOf.r0 : ACode := (.region none [⟨some 4, .move (.c (.bool false)), none⟩])
def A_laws_FnExactMultiplicitiesOf.r1 : ACode := (.region none [⟨some 15, .move (.t 0), none⟩,
    ⟨some 16, .len (.t 15), none⟩,
    ⟨some 17, .bin .gtr (.t 16) (.c (.int .i64 1048576)), none⟩])
def A_laws_FnExactMultiplicitiesOf.r2 : ACode := (.region none [⟨some 4, .move (.c (.bool true)), none⟩])
def A_laws_FnExactMultiplicitiesOf.r3 : ACode := (.region none [⟨some 19, .move (.t 0), none⟩,
    ⟨some 20, .call 0 [(.t 19)], none⟩,
    ⟨some 21, .move (.t 1), none⟩,
    ⟨some 22, .call 33 [(.t 20), (.t 21)], none⟩,
    ⟨some 18, .move (.t 22), none⟩,
    ⟨some 23, .extract (.t 18) 0, none⟩,
    ⟨some 24, .extract (.t 18) 1, none⟩,
    ⟨some 5, .move (.t 23), none⟩,
    ⟨some 6, .move (.t 24), none⟩])
def A_laws_FnExactMultiplicitiesOf.r4 : ACode := (.region none [⟨some 25, .move (.t 0), none⟩,
    ⟨some 26, .call 0 [(.t 25)], none⟩,
    ⟨some 7, .move (.t 26), none⟩])
def A_laws_FnExactMultiplicitiesOf.r5 : ACode := (.region none [⟨some 28, .move (.t 7), none⟩,
    ⟨some 29, .move (.t 1), none⟩,
    ⟨some 30, .call 34 [(.t 28), (.t 29)], none⟩,
    ⟨some 27, .move (.t 30), none⟩,
    ⟨some 31, .extract (.t 27) 0, none⟩,
    ⟨some 32, .extract (.t 27) 1, none⟩,
    ⟨some 8, .move (.t 31), none⟩,
    ⟨some 9, .move (.t 32), none⟩])
def A_laws_FnExactMultiplicitiesOf.r6 : ACode := (.region none [⟨some 33, .move (.t 8), none⟩,
    ⟨some 34, .move (.t 5), none⟩,
    ⟨some 35, .call 3 [(.t 33), (.t 34)], none⟩,
    ⟨some 36, .not (.t 35), none⟩,
    ⟨some 37, .move (.t 36), none⟩,
    ⟨some 38, .move (.t 9), some (37, false)⟩,
    ⟨some 39, .move (.t 6), some (37, false)⟩,
    ⟨some 40, .bin .neq (.t 38) (.t 39), some (37, false)⟩,
    ⟨some 41, .pick (.t 37) (.c (.bool true)) (.t 40), none⟩])
def A_laws_FnExactMultiplicitiesOf.r7 : ACode := (.region none [⟨some 4, .move (.c (.bool false)), none⟩])
def A_laws_FnExactMultiplicitiesOf.r8 : ACode := (.region none [⟨some 42, .move (.t 7), none⟩,
    ⟨some 43, .move (.t 0), none⟩,
    ⟨some 44, .call 0 [(.t 43)], none⟩,
    ⟨some 45, .call 3 [(.t 42), (.t 44)], none⟩,
    ⟨some 46, .not (.t 45), none⟩])
def A_laws_FnExactMultiplicitiesOf.r9 : ACode := (.region none [⟨some 4, .move (.c (.bool false)), none⟩])
def A_laws_FnExactMultiplicitiesOf.r10 : ACode := (.region none [⟨some 10, .move (.c (.int .i64 1)), none⟩])
def A_laws_FnExactMultiplicitiesOf.r11 : ACode := (.region none [⟨some 47, .move (.t 7), none⟩,
    ⟨some 48, .move (.t 10), none⟩,
    ⟨some 49, .call 6 [(.t 47), (.t 48)], none⟩,
    ⟨some 10, .move (.t 49), none⟩])
def A_laws_FnExactMultiplicitiesOf.r12 : ACode := (.region none [⟨some 50, .move (.t 10), none⟩,
    ⟨some 51, .bin .lss (.t 50) (.c (.int .i64 0)), none⟩,
    ⟨some 52, .move (.t 51), none⟩,
    ⟨some 53, .move (.t 8), some (52, false)⟩,
    ⟨some 54, .move (.t 5), some (52, false)⟩,
    ⟨some 55, .call 3 [(.t 53), (.t 54)], some (52, false)⟩,
    ⟨some 56, .not (.t 55), some (52, false)⟩,
    ⟨some 57, .pick (.t 52) (.c (.bool true)) (.t 56), none⟩,
    ⟨some 58, .move (.t 57), none⟩,
    ⟨some 59, .move (.t 9), some (58, false)⟩,
    ⟨some 60, .move (.t 6), some (58, false)⟩,
    ⟨some 61, .bin .neq (.t 59) (.t 60), some (58, false)⟩,
    ⟨some 62, .pick (.t 58) (.c (.bool true)) (.t 61), none⟩])
def A_laws_FnExactMultiplicitiesOf.r13 : ACode := (.region none [⟨some 4, .move (.c (.bool false)), none⟩])
def A_laws_FnExactMultiplicitiesOf.r14 : ACode := (.region none [⟨some 11, .move (.c (.int .i64 1)), none⟩])
def A_laws_FnExactMultiplicitiesOf.r15 : ACode := (.region none [⟨some 63, .move (.t 8), none⟩,
    ⟨some 64, .move (.t 11), none⟩,
    ⟨some 65, .call 6 [(.t 63), (.t 64)], none⟩,
    ⟨some 11, .move (.t 65), none⟩])
def A_laws_FnExactMultiplicitiesOf.r16 : ACode := (.region none [⟨some 12, .move (.c (.int .i64 1)), none⟩])
def A_laws_FnExactMultiplicitiesOf.r17 : ACode := (.region none [⟨some 66, .move (.t 8), none⟩,
    ⟨some 67, .move (.t 12), none⟩,
    ⟨some 68, .call 7 [(.t 66), (.t 67)], none⟩,
    ⟨some 12, .move (.t 68), none⟩])
def A_laws_FnExactMultiplicitiesOf.r18 : ACode := (.region none [⟨some 69, .move (.t 12), none⟩,
    ⟨some 70, .bin .lss (.t 69) (.c (.int .i64 0)), none⟩])
def A_laws_FnExactMultiplicitiesOf.r19 : ACode := (.region none [⟨some 4, .move (.c (.bool false)), none⟩])
def A_laws_FnExactMultiplicitiesOf.r20 : ACode := (.region none [⟨some 71, .move (.t 12), none⟩,
    ⟨some 72, .move (.t 11), none⟩,
    ⟨some 73, .bin .neq (.t 71) (.t 72), none⟩])
def A_laws_FnExactMultiplicitiesOf.r21 : ACode := (.region none [⟨some 4, .move (.c (.bool false)), none⟩])
def A_laws_FnExactMultiplicitiesOf.r22 : ACode := (.region none [⟨some 75, .move (.t 0), none⟩,
    ⟨some 76, .call 0 [(.t 75)], none⟩,
    ⟨some 77, .move (.t 1), none⟩,
    ⟨some 78, .call 34 [(.t 76), (.t 77)], none⟩,
    ⟨some 74, .move (.t 78), none⟩,
    ⟨some 79, .extract (.t 74) 0, none⟩,
    ⟨some 80, .extract (.t 74) 1, none⟩,
    ⟨some 13, .move (.t 79), none⟩,
    ⟨some 14, .move (.t 80), none⟩])
def A_laws_FnExactMultiplicitiesOf.r23 : ACode := (.region none [⟨some 81, .move (.t 13), none⟩,
    ⟨some 82, .move (.t 5), none⟩,
    ⟨some 83, .call 3 [(.t 81), (.t 82)], none⟩,
    ⟨some 84, .not (.t 83), none⟩,
    ⟨some 85, .move (.t 84), none⟩,
    ⟨some 86, .move (.t 14), some (85, false)⟩,
    ⟨some 87, .move (.t 6), some (85, false)⟩,
    ⟨some 88, .bin .neq (.t 86) (.t 87), some (85, false)⟩,
    ⟨some 89, .pick (.t 85) (.c (.bool true)) (.t 88), none⟩])
def A_laws_FnExactMultiplicitiesOf.r24 : ACode := (.region none [⟨some 4, .move (.c (.bool false)), none⟩])
def A_laws_FnExactMultiplicitiesOf.r25 : ACode := (.region none [⟨some 12, .move (.c (.int .i64 1)), none⟩])
def A_laws_FnExactMultiplicitiesOf.r26 : ACode := (.region none [⟨some 90, .move (.t 8), none⟩,
    ⟨some 91, .move (.t 12), none⟩,
    ⟨some 92, .call 7 [(.t 90), (.t 91)], none⟩,
    ⟨some 12, .move (.t 92), none⟩])
def A_laws_FnExactMultiplicitiesOf.r27 : ACode := (.region none [⟨some 93, .move (.t 12), none⟩,
    ⟨some 94, .bin .lss (.t 93) (.c (.int .i64 0)), none⟩])
def A_laws_FnExactMultiplicitiesOf.r28 : ACode := (.region none [⟨some 4, .move (.c (.bool false)), none⟩])
def A_laws_FnExactMultiplicitiesOf.r29 : ACode := (.region none [⟨some 95, .move (.t 12), none⟩,
    ⟨some 96, .move (.t 11), none⟩,
    ⟨some 97, .bin .neq (.t 95) (.t 96), none⟩])
def A_laws_FnExactMultiplicitiesOf.r30 : ACode := (.region none [⟨some 4, .move (.c (.bool false)), none⟩])
def A_laws_FnExactMultiplicitiesOf.r31 : ACode := (.region none [⟨some 4, .move (.c (.bool true)), none⟩])
def A_laws_FnExactMultiplicitiesOf : AFunc := ⟨[.tmp 4], (.seq A_laws_FnExactMultiplicitiesOf.r0 (.seq (.seq A_laws_FnExactMultiplicitiesOf.r1 (.cond (.t 17) (.seq A_laws_FnExactMultiplicitiesOf.r2 .ret) .skip)) (.seq A_laws_FnExactMultiplicitiesOf.r3 (.seq A_laws_FnExactMultiplicitiesOf.r4 (.seq A_laws_FnExactMultiplicitiesOf.r5 (.seq (.seq A_laws_FnExactMultiplicitiesOf.r6 (.cond (.t 41) (.seq A_laws_FnExactMultiplicitiesOf.r7 .ret) .skip)) (.seq (.seq A_laws_FnExactMultiplicitiesOf.r8 (.cond (.t 46) (.seq A_laws_FnExactMultiplicitiesOf.r9 .ret) .skip)) (.seq A_laws_FnExactMultiplicitiesOf.r10 (.seq A_laws_FnExactMultiplicitiesOf.r11 (.seq (.seq A_laws_FnExactMultiplicitiesOf.r12 (.cond (.t 62) (.seq A_laws_FnExactMultiplicitiesOf.r13 .ret) .skip)) (.seq A_laws_FnExactMultiplicitiesOf.r14 (.seq A_laws_FnExactMultiplicitiesOf.r15 (.seq A_laws_FnExactMultiplicitiesOf.r16 (.seq A_laws_FnExactMultiplicitiesOf.r17 (.seq (.seq A_laws_FnExactMultiplicitiesOf.r18 (.cond (.t 70) (.seq A_laws_FnExactMultiplicitiesOf.r19 .ret) .skip)) (.seq (.seq A_laws_FnExactMultiplicitiesOf.r20 (.cond (.t 73) (.seq A_laws_FnExactMultiplicitiesOf.r21 .ret) .skip)) (.seq A_laws_FnExactMultiplicitiesOf.r22 (.seq (.seq A_laws_FnExactMultiplicitiesOf.r23 (.cond (.t 89) (.seq A_laws_FnExactMultiplicitiesOf.r24 .ret) .skip)) (.seq A_laws_FnExactMultiplicitiesOf.r25 (.seq A_laws_FnExactMultiplicitiesOf.r26 (.seq (.seq A_laws_FnExactMultiplicitiesOf.r27 (.cond (.t 94) (.seq A_laws_FnExactMultiplicitiesOf.r28 .ret) .skip)) (.seq (.seq A_laws_FnExactMultiplicitiesOf.r29 (.cond (.t 97) (.seq A_laws_FnExactMultiplicitiesOf.r30 .ret) .skip)) (.seq A_laws_FnExactMultiplicitiesOf.r31 .ret)))))))))))))))))))))))⟩
/-! laws_FnExactIsShabat -/
def A_laws_FnExactIsShabat.r0 : ACode := (.region none [⟨some 6, .move (.c (.bool false)), none⟩])
def A_laws_FnExactIsShabat.r1 : ACode := (.region none [⟨some 12, .move (.t 0), none⟩,
    ⟨some 13, .len (.t 12), none⟩,
    ⟨some 14, .bin .gtr (.t 13) (.c (.int .i64 1048576)), none⟩])
def A_laws_FnExactIsShabat.r2 : ACode := (.region none [⟨some 6, .move (.c (.bool true)), none⟩])
def A_laws_FnExactIsShabat.r3 : ACode := (.region none [⟨some 16, .move (.t 0), none⟩,
    ⟨some 17, .call 0 [(.t 16)], none⟩,
    ⟨some 18, .move (.t 1), none⟩,
    ⟨some 19, .move (.t 2), none⟩,
    ⟨some 20, .call 35 [(.t 17), (.t 18), (.t 19)], none⟩,
    ⟨some 15, .move (.t 20), none⟩,
    ⟨some 21, .extract (.t 15) 0, none⟩,
    ⟨some 22, .extract (.t 15) 1, none⟩,
    ⟨some 7, .move (.t 21), none⟩,
    ⟨some 8, .move (.t 22), none⟩])
def A_laws_FnExactIsShabat.r4 : ACode := (.region none [⟨some 23, .move (.t 0), none⟩,
    ⟨some 24, .call 0 [(.t 23)], none⟩,
    ⟨some 9, .move (.t 24), none⟩])
def A_laws_FnExactIsShabat.r5 : ACode := (.region none [⟨some 26, .move (.t 9), none⟩,
    ⟨some 27, .move (.t 1), none⟩,
    ⟨some 28, .move (.t 2), none⟩,
    ⟨some 29, .call 36 [(.t 26), (.t 27), (.t 28)], none⟩,
    ⟨some 25, .move (.t 29), none⟩,
    ⟨some 30, .extract (.t 25) 0, none⟩,
    ⟨some 31, .extract (.t 25) 1, none⟩,
    ⟨some 10, .move (.t 30), none⟩,
    ⟨some 11, .move (.t 31), none⟩])
def A_laws_FnExactIsShabat.r6 : ACode := (.region none [⟨some 32, .move (.t 10), none⟩,
    ⟨some 33, .move (.t 7), none⟩,
    ⟨some 34, .eqb true (.t 32) (.t 33), none⟩,
    ⟨some 35, .move (.t 34), none⟩,
    ⟨some 36, .move (.t 11), some (35, false)⟩,
    ⟨some 37, .move (.t 8), some (35, false)⟩,
    ⟨some 38, .bin .neq (.t 36) (.t 37), some (35, false)⟩,
    ⟨some 39, .pick (.t 35) (.c (.bool true)) (.t 38), none⟩])
def A_laws_FnExactIsShabat.r7 : ACode := (.region none [⟨some 6, .move (.c (.bool false)), none⟩])
def A_laws_FnExactIsShabat.r8 : ACode := (.region none [⟨some 40, .move (.t 9), none⟩,
    ⟨some 41, .move (.t 0), none⟩,
    ⟨some 42, .call 0 [(.t 41)], none⟩,
    ⟨some 43, .call 3 [(.t 40), (.t 42)], none⟩,
    ⟨some 44, .not (.t 43), none⟩])
def A_laws_FnExactIsShabat.r9 : ACode := (.region none [⟨some 6, .move (.c (.bool false)), none⟩])
def A_laws_FnExactIsShabat.r10 : ACode := (.region none [⟨some 6, .move (.c (.bool true)), none⟩])
def A_laws_FnExactIsShabat : AFunc := ⟨[.tmp 6], (.seq A_laws_FnExactIsShabat.r0 (.seq (.seq A_laws_FnExactIsShabat.r1 (.cond (.t 14) (.seq A_laws_FnExactIsShabat.r2 .ret) .skip)) (.seq A_laws_FnExactIsShabat.r3 (.seq A_laws_FnExactIsShabat.r4 (.seq A_laws_FnExactIsShabat.r5 (.seq (.seq A_laws_FnExactIsShabat.r6 (.cond (.t 39) (.seq A_laws_FnExactIsShabat.r7 .ret) .skip)) (.seq (.seq A_laws_FnExactIsShabat.r8 (.cond (.t 44) (.seq A_laws_FnExactIsShabat.r9 .ret) .skip)) (.seq A_laws_FnExactIsShabat.r10 .ret))))))))⟩
/-! laws_FnExactPassportOfShabat -/
def A_laws_FnExactPassportOfShabat.r0 : ACode := (.region none [⟨some 6, .move (.c (.bool false)), none⟩])
def A_laws_FnExactPassportOfShabat.r1 : ACode := (.region none [⟨some 17, .move (.t 0), none⟩,
    ⟨some 18, .len (.t 17), none⟩,
    ⟨some 19, .bin .gtr (.t 18) (.c (.int .i64 1048576)), none⟩])
def A_laws_FnExactPassportOfShabat.r2 : ACode := (.region none [⟨some 6, .move (.c (.bool true)), none⟩])
def A_laws_FnExactPassportOfShabat.r3 : ACode := (.region none [⟨some 21, .move (.t 0), none⟩,
    ⟨some 22, .call 0 [(.t 21)], none⟩,
    ⟨some 23, .move (.t 1), none⟩,
    ⟨some 24, .move (.t 2), none⟩,
    ⟨some 25, .call 37 [(.t 22), (.t 23), (.t 24)], none⟩,
    ⟨some 20, .move (.t 25), none⟩,
    ⟨some 26, .extract (.t 20) 0, none⟩,
    ⟨some 27, .extract (.t 20) 1, none⟩,
    ⟨some 7, .move (.t 26), none⟩,
    ⟨some 8, .move (.t 27), none⟩])
def A_laws_FnExactPassportOfShabat.r4 : ACode := (.region none [⟨some 28, .move (.t 0), none⟩,
    ⟨some 29, .call 0 [(.t 28)], none⟩,
    ⟨some 9, .move (.t 29), none⟩])
def A_laws_FnExactPassportOfShabat.r5 : ACode := (.region none [⟨some 31, .move (.t 9), none⟩,
    ⟨some 32, .move (.t 1), none⟩,
    ⟨some 33, .move (.t 2), none⟩,
    ⟨some 34, .call 38 [(.t 31), (.t 32), (.t 33)], none⟩,
    ⟨some 30, .move (.t 34), none⟩,
    ⟨some 35, .extract (.t 30) 0, none⟩,
    ⟨some 36, .extract (.t 30) 1, none⟩,
    ⟨some 10, .move (.t 35), none⟩,
    ⟨some 11, .move (.t 36), none⟩])
def A_laws_FnExactPassportOfShabat.r6 : ACode := (.region none [⟨some 37, .move (.t 10), none⟩,
    ⟨some 38, .move (.t 7), none⟩,
    ⟨some 39, .call 24 [(.t 37), (.t 38)], none⟩,
    ⟨some 40, .not (.t 39), none⟩,
    ⟨some 41, .move (.t 40), none⟩,
    ⟨some 42, .move (.t 11), some (41, false)⟩,
    ⟨some 43, .move (.t 8), some (41, false)⟩,
    ⟨some 44, .bin .neq (.t 42) (.t 43), some (41, false)⟩,
    ⟨some 45, .pick (.t 41) (.c (.bool true)) (.t 44), none⟩])
def A_laws_FnExactPassportOfShabat.r7 : ACode := (.region none [⟨some 6, .move (.c (.bool false)), none⟩])
def A_laws_FnExactPassportOfShabat.r8 : ACode := (.region none [⟨some 46, .move (.t 9), none⟩,
    ⟨some 47, .move (.t 0), none⟩,
    ⟨some 48, .call 0 [(.t 47)], none⟩,
    ⟨some 49, .call 3 [(.t 46), (.t 48)], none⟩,
    ⟨some 50, .not (.t 49), none⟩])
def A_laws_FnExactPassportOfShabat.r9 : ACode := (.region none [⟨some 6, .move (.c (.bool false)), none⟩])
def A_laws_FnExactPassportOfShabat.r10 : ACode := (.region none [⟨some 12, .move (.c (.int .i64 1)), none⟩])
def A_laws_FnExactPassportOfShabat.r11 : ACode := (.region none [⟨some 51, .move (.t 9), none⟩,
    ⟨some 52, .move (.t 12), none⟩,
    ⟨some 53, .call 6 [(.t 51), (.t 52)], none⟩,
    ⟨some 12, .move (.t 53), none⟩])
def A_laws_FnExactPassportOfShabat.r12 : ACode := (.region none [⟨some 54, .move (.t 12), none⟩,
    ⟨some 55, .bin .lss (.t 54) (.c (.int .i64 0)), none⟩,
    ⟨some 56, .move (.t 55), none⟩,
    ⟨some 57, .move (.t 10), some (56, false)⟩,
    ⟨some 58, .move (.t 7), some (56, false)⟩,
    ⟨some 59, .call 24 [(.t 57), (.t 58)], some (56, false)⟩,
    ⟨some 60, .not (.t 59), some (56, false)⟩,
    ⟨some 61, .pick (.t 56) (.c (.bool true)) (.t 60), none⟩,
    ⟨some 62, .move (.t 61), none⟩,
    ⟨some 63, .move (.t 11), some (62, false)⟩,
    ⟨some 64, .move (.t 8), some (62, false)⟩,
    ⟨some 65, .bin .neq (.t 63) (.t 64), some (62, false)⟩,
    ⟨some 66, .pick (.t 62) (.c (.bool true)) (.t 65), none⟩])
def A_laws_FnExactPassportOfShabat.r13 : ACode := (.region none [⟨some 6, .move (.c (.bool false)), none⟩])
def A_laws_FnExactPassportOfShabat.r14 : ACode := (.region none [⟨some 13, .move (.c (.int .i64 1)), none⟩])
def A_laws_FnExactPassportOfShabat.r15 : ACode := (.region none [⟨some 67, .move (.t 10), none⟩,
    ⟨some 68, .move (.t 13), none⟩,
    ⟨some 69, .call 39 [(.t 67), (.t 68)], none⟩,
    ⟨some 13, .move (.t 69), none⟩])
def A_laws_FnExactPassportOfShabat.r16 : ACode := (.region none [⟨some 14, .move (.c (.int .i64 1)), none⟩])
def A_laws_FnExactPassportOfShabat.r17 : ACode := (.region none [⟨some 70, .move (.t 10), none⟩,
    ⟨some 71, .move (.t 14), none⟩,
    ⟨some 72, .call 40 [(.t 70), (.t 71)], none⟩,
    ⟨some 14, .move (.t 72), none⟩])
def A_laws_FnExactPassportOfShabat.r18 : ACode := (.region none [⟨some 73, .move (.t 14), none⟩,
    ⟨some 74, .bin .lss (.t 73) (.c (.int .i64 0)), none⟩])
def A_laws_FnExactPassportOfShabat.r19 : ACode := (.region none [⟨some 6, .move (.c (.bool false)), none⟩])
def A_laws_FnExactPassportOfShabat.r20 : ACode := (.region none [⟨some 75, .move (.t 14), none⟩,
    ⟨some 76, .move (.t 13), none⟩,
    ⟨some 77, .bin .neq (.t 75) (.t 76), none⟩])
def A_laws_FnExactPassportOfShabat.r21 : ACode := (.region none [⟨some 6, .move (.c (.bool false)), none⟩])
def A_laws_FnExactPassportOfShabat.r22 : ACode := (.region none [⟨some 79, .move (.t 0), none⟩,
    ⟨some 80, .call 0 [(.t 79)], none⟩,
    ⟨some 81, .move (.t 1), none⟩,
    ⟨some 82, .move (.t 2), none⟩,
    ⟨some 83, .call 38 [(.t 80), (.t 81), (.t 82)], none⟩,
    ⟨some 78, .move (.t 83), none⟩,
    ⟨some 84, .extract (.t 78) 0, none⟩,
    ⟨some 85, .extract (.t 78) 1, none⟩,
    ⟨some 15, .move (.t 84), none⟩,
    ⟨some 16, .move (.t 85), none⟩])
def A_laws_FnExactPassportOfShabat.r23 : ACode := (.region none [⟨some 86, .move (.t 15), none⟩,
    ⟨some 87, .move (.t 7), none⟩,
    ⟨some 88, .call 24 [(.t 86), (.t 87)], none⟩,
    ⟨some 89, .not (.t 88), none⟩,
    ⟨some 90, .move (.t 89), none⟩,
    ⟨some 91, .move (.t 16), some (90, false)⟩,
    ⟨some 92, .move (.t 8), some (90, false)⟩,
    ⟨some 93, .bin .neq (.t 91) (.t 92), some (90, false)⟩,
    ⟨some 94, .pick (.t 90) (.c (.bool true)) (.t 93), none⟩])
def A_laws_FnExactPassportOfShabat.r24 : ACode := (.region none [⟨some 6, .move (.c (.bool false)), none⟩])
def A_laws_FnExactPassportOfShabat.r25 : ACode := (.region none [⟨some 14, .move (.c (.int .i64 1)), none⟩])
def A_laws_FnExactPassportOfShabat.r26 : ACode := (.region none [⟨some 95, .move (.t 10), none⟩,
    ⟨some 96, .move (.t 14), none⟩,
    ⟨some 97, .call 40 [(.t 95), (.t 96)], none⟩,
    ⟨some 14, .move (.t 97), none⟩])
def A_laws_FnExactPassportOfShabat.r27 : ACode := (.region none [⟨some 98, .move (.t 14), none⟩,
    ⟨some 99, .bin .lss (.t 98) (.c (.int .i64 0)), none⟩])
def A_laws_FnExactPassportOfShabat.r28 : ACode := (.region none [⟨some 6, .move (.c (.bool false)), none⟩])
def A_laws_FnExactPassportOfShabat.r29 : ACode := (.region none [⟨some 100, .move (.t 14), none⟩,
    ⟨some 101, .move (.t 13), none⟩,
    ⟨some 102, .bin .neq (.t 100) (.t 101), none⟩])
def A_laws_FnExactPassportOfShabat.r30 : ACode := (.region none [⟨some 6, .move (.c (.bool false)), none⟩])
def A_laws_FnExactPassportOfShabat.r31 : ACode := (.region none [⟨some 6, .move (.c (.bool true)), none⟩])
def A_laws_FnExactPassportOfShabat : AFunc := ⟨[.tmp 6], (.seq A_laws_FnExactPassportOfShabat.r0 (.seq (.seq A_laws_FnExactPassportOfShabat.r1 (.cond (.t 19) (.seq A_laws_FnExactPassportOfShabat.r2 .ret) .skip)) (.seq A_laws_FnExactPassportOfShabat.r3 (.seq A_laws_FnExactPassportOfShabat.r4 (.seq A_laws_FnExactPassportOfShabat.r5 (.seq (.seq A_laws_FnExactPassportOfShabat.r6 (.cond (.t 45) (.seq A_laws_FnExactPassportOfShabat.r7 .ret) .skip)) (.seq (.seq A_laws_FnExactPassportOfShabat.r8 (.cond (.t 50) (.seq A_laws_FnExactPassportOfShabat.r9 .ret) .skip)) (.seq A_laws_FnExactPassportOfShabat.r10 (.seq A_laws_FnExactPassportOfShabat.r11 (.seq (.seq A_laws_FnExactPassportOfShabat.r12 (.cond (.t 66) (.seq A_laws_FnExactPassportOfShabat.r13 .ret) .skip)) (.seq A_laws_FnExactPassportOfShabat.r14 (.seq A_laws_FnExactPassportOfShabat.r15 (.seq A_laws_FnExactPassportOfShabat.r16 (.seq A_laws_FnExactPassportOfShabat.r17 (.seq (.seq A_laws_FnExactPassportOfShabat.r18 (.cond (.t 74) (.seq A_laws_FnExactPassportOfShabat.r19 .ret) .skip)) (.seq (.seq A_laws_FnExactPassportOfShabat.r20 (.cond (.t 77) (.seq A_laws_FnExactPassportOfShabat.r21 .ret) .skip)) (.seq A_laws_FnExactPassportOfShabat.r22 (.seq (.seq A_laws_FnExactPassportOfShabat.r23 (.cond (.t 94) (.seq A_laws_FnExactPassportOfShabat.r24 .ret) .skip)) (.seq A_laws_FnExactPassportOfShabat.r25 (.seq A_laws_FnExactPassportOfShabat.r26 (.seq (.seq A_laws_FnExactPassportOfShabat.r27 (.cond (.t 99) (.seq A_laws_FnExactPassportOfShabat.r28 .ret) .skip)) (.seq (.seq A_laws_FnExactPassportOfShabat.r29 (.cond (.t 102) (.seq A_laws_FnExactPassportOfShabat.r30 .ret) .skip)) (.seq A_laws_FnExactPassportOfShabat.r31 .ret)))))))))))))))))))))))⟩
/-! laws_FnFieldPolynomials -/
def A_laws_FnFieldPolynomials.r0 : ACode := (.region none [⟨some 2, .move (.c (.bool false)), none⟩])
def A_laws_FnFieldPolynomials.r1 : ACode := (.region none [⟨some 53, .move (.t 0), none⟩,
    ⟨some 54, .call 41 [(.t 53)], none⟩])
def A_laws_FnFieldPolynomials.r2 : ACode := (.region none [⟨some 2, .move (.c (.bool true)), none⟩])
def A_laws_FnFieldPolynomials.r3 : ACode := (.region none [⟨some 56, .move (.t 0), none⟩,
    ⟨some 57, .call 42 [(.t 56)], none⟩,
    ⟨some 55, .move (.t 57), none⟩,
    ⟨some 58, .extract (.t 55) 0, none⟩,
    ⟨some 59, .extract (.t 55) 1, none⟩,
    ⟨some 3, .move (.t 58), none⟩,
    ⟨some 4, .move (.t 59), none⟩])
def A_laws_FnFieldPolynomials.r4 : ACode := (.region none [⟨some 61, .move (.t 3), none⟩,
    ⟨some 62, .move (.t 4), none⟩,
    ⟨some 63, .call 17 [(.t 61), (.t 62)], none⟩,
    ⟨some 60, .move (.t 63), none⟩,
    ⟨some 64, .extract (.t 60) 0, none⟩,
    ⟨some 65, .extract (.t 60) 1, none⟩,
    ⟨some 5, .move (.t 64), none⟩,
    ⟨some 6, .move (.t 65), none⟩])
def A_laws_FnFieldPolynomials.r5 : ACode := (.region none [⟨some 67, .move (.t 3), none⟩,
    ⟨some 68, .move (.t 4), none⟩,
    ⟨some 69, .call 16 [(.t 67), (.t 68)], none⟩,
    ⟨some 66, .move (.t 69), none⟩,
    ⟨some 70, .extract (.t 66) 0, none⟩,
    ⟨some 71, .extract (.t 66) 1, none⟩,
    ⟨some 7, .move (.t 70), none⟩,
    ⟨some 8, .move (.t 71), none⟩])
def A_laws_FnFieldPolynomials.r6 : ACode := (.region none [⟨some 72, .move (.t 6), none⟩,
    ⟨some 73, .move (.t 8), none⟩,
    ⟨some 74, .bin .neq (.t 72) (.t 73), none⟩,
    ⟨some 75, .move (.t 74), none⟩,
    ⟨some 76, .move (.t 5), some (75, false)⟩,
    ⟨some 77, .move (.t 7), some (75, false)⟩,
    ⟨some 78, .call 43 [(.t 76), (.t 77)], some (75, false)⟩,
    ⟨some 79, .not (.t 78), some (75, false)⟩,
    ⟨some 80, .pick (.t 75) (.c (.bool true)) (.t 79), none⟩,
    ⟨some 81, .move (.t 80), none⟩,
    ⟨some 82, .move (.t 3), some (81, false)⟩,
    ⟨some 83, .call 2 [(.t 82)], some (81, false)⟩,
    ⟨some 84, .move (.t 3), some (81, false)⟩,
    ⟨some 85, .call 1 [(.t 84)], some (81, false)⟩,
    ⟨some 86, .eqb true (.t 83) (.t 85), some (81, false)⟩,
    ⟨some 87, .pick (.t 81) (.c (.bool true)) (.t 86), none⟩])
def A_laws_FnFieldPolynomials.r7 : ACode := (.region none [⟨some 2, .move (.c (.bool false)), none⟩])
def A_laws_FnFieldPolynomials.r8 : ACode := (.region none [⟨some 89, .move (.t 3), none⟩,
    ⟨some 90, .move (.t 4), none⟩,
    ⟨some 91, .call 15 [(.t 89), (.t 90)], none⟩,
    ⟨some 88, .move (.t 91), none⟩,
    ⟨some 92, .extract (.t 88) 0, none⟩,
    ⟨some 93, .extract (.t 88) 1, none⟩,
    ⟨some 9, .move (.t 92), none⟩,
    ⟨some 10, .move (.t 93), none⟩])
def A_laws_FnFieldPolynomials.r9 : ACode := (.region none [⟨some 95, .move (.t 3), none⟩,
    ⟨some 96, .move (.t 4), none⟩,
    ⟨some 97, .call 14 [(.t 95), (.t 96)], none⟩,
    ⟨some 94, .move (.t 97), none⟩,
    ⟨some 98, .extract (.t 94) 0, none⟩,
    ⟨some 99, .extract (.t 94) 1, none⟩,
    ⟨some 11, .move (.t 98), none⟩,
    ⟨some 12, .move (.t 99), none⟩])
def A_laws_FnFieldPolynomials.r10 : ACode := (.region none [⟨some 100, .move (.t 10), none⟩,
    ⟨some 101, .move (.t 12), none⟩,
    ⟨some 102, .bin .neq (.t 100) (.t 101), none⟩,
    ⟨some 103, .move (.t 102), none⟩,
    ⟨some 104, .move (.t 9), some (103, false)⟩,
    ⟨some 105, .move (.t 11), some (103, false)⟩,
    ⟨some 106, .call 43 [(.t 104), (.t 105)], some (103, false)⟩,
    ⟨some 107, .not (.t 106), some (103, false)⟩,
    ⟨some 108, .pick (.t 103) (.c (.bool true)) (.t 107), none⟩])
def A_laws_FnFieldPolynomials.r11 : ACode := (.region none [⟨some 2, .move (.c (.bool false)), none⟩])
def A_laws_FnFieldPolynomials.r12 : ACode := (.region none [⟨some 110, .move (.t 0), none⟩,
    ⟨some 111, .call 44 [(.t 110)], none⟩,
    ⟨some 109, .move (.t 111), none⟩,
    ⟨some 112, .extract (.t 109) 0, none⟩,
    ⟨some 113, .extract (.t 109) 1, none⟩,
    ⟨some 13, .move (.t 112), none⟩,
    ⟨some 14, .move (.t 113), none⟩])
def A_laws_FnFieldPolynomials.r13 : ACode := (.region none [⟨some 115, .move (.t 13), none⟩,
    ⟨some 116, .move (.t 14), none⟩,
    ⟨some 117, .call 28 [(.t 115), (.t 116)], none⟩,
    ⟨some 114, .move (.t 117), none⟩,
    ⟨some 118, .extract (.t 114) 0, none⟩,
    ⟨some 119, .extract (.t 114) 1, none⟩,
    ⟨some 15, .move (.t 118), none⟩,
    ⟨some 16, .move (.t 119), none⟩])
def A_laws_FnFieldPolynomials.r14 : ACode := (.region none [⟨some 121, .move (.t 13), none⟩,
    ⟨some 122, .move (.t 14), none⟩,
    ⟨some 123, .call 27 [(.t 121), (.t 122)], none⟩,
    ⟨some 120, .move (.t 123), none⟩,
    ⟨some 124, .extract (.t 120) 0, none⟩,
    ⟨some 125, .extract (.t 120) 1, none⟩,
    ⟨some 17, .move (.t 124), none⟩,
    ⟨some 18, .move (.t 125), none⟩])
def A_laws_FnFieldPolynomials.r15 : ACode := (.region none [⟨some 126, .move (.t 16), none⟩,
    ⟨some 127, .move (.t 18), none⟩,
    ⟨some 128, .bin .neq (.t 126) (.t 127), none⟩,
    ⟨some 129, .move (.t 128), none⟩,
    ⟨some 130, .move (.t 15), some (129, false)⟩,
    ⟨some 131, .move (.t 17), some (129, false)⟩,
    ⟨some 132, .call 43 [(.t 130), (.t 131)], some (129, false)⟩,
    ⟨some 133, .not (.t 132), some (129, false)⟩,
    ⟨some 134, .pick (.t 129) (.c (.bool true)) (.t 133), none⟩])
def A_laws_FnFieldPolynomials.r16 : ACode := (.region none [⟨some 2, .move (.c (.bool false)), none⟩])
def A_laws_FnFieldPolynomials.r17 : ACode := (.region none [⟨some 135, .move (.t 0), none⟩,
    ⟨some 136, .call 45 [(.t 135)], none⟩,
    ⟨some 19, .move (.t 136), none⟩])
def A_laws_FnFieldPolynomials.r18 : ACode := (.region none [⟨some 138, .move (.t 19), none⟩,
    ⟨some 139, .call 11 [(.t 138)], none⟩,
    ⟨some 137, .move (.t 139), none⟩,
    ⟨some 140, .extract (.t 137) 0, none⟩,
    ⟨some 141, .extract (.t 137) 1, none⟩,
    ⟨some 20, .move (.t 140), none⟩,
    ⟨some 21, .move (.t 141), none⟩])
def A_laws_FnFieldPolynomials.r19 : ACode := (.region none [⟨some 143, .move (.t 19), none⟩,
    ⟨some 144, .call 10 [(.t 143)], none⟩,
    ⟨some 142, .move (.t 144), none⟩,
    ⟨some 145, .extract (.t 142) 0, none⟩,
    ⟨some 146, .extract (.t 142) 1, none⟩,
    ⟨some 22, .move (.t 145), none⟩,
    ⟨some 23, .move (.t 146), none⟩])
def A_laws_FnFieldPolynomials.r20 : ACode := (.region none [⟨some 147, .move (.t 21), none⟩,
    ⟨some 148, .move (.t 23), none⟩,
    ⟨some 149, .bin .neq (.t 147) (.t 148), none⟩,
    ⟨some 150, .move (.t 149), none⟩,
    ⟨some 151, .move (.t 20), some (150, false)⟩,
    ⟨some 152, .move (.t 22), some (150, false)⟩,
    ⟨some 153, .call 43 [(.t 151), (.t 152)], some (150, false)⟩,
    ⟨some 154, .not (.t 153), some (150, false)⟩,
    ⟨some 155, .pick (.t 150) (.c (.bool true)) (.t 154), none⟩])
def A_laws_FnFieldPolynomials.r21 : ACode := (.region none [⟨some 2, .move (.c (.bool false)), none⟩])
def A_laws_FnFieldPolynomials.r22 : ACode := (.region none [⟨some 157, .move (.t 3), none⟩,
    ⟨some 158, .move (.t 4), none⟩,
    ⟨some 159, .call 30 [(.t 157), (.t 158)], none⟩,
    ⟨some 156, .move (.t 159), none⟩,
    ⟨some 160, .extract (.t 156) 0, none⟩,
    ⟨some 161, .extract (.t 156) 1, none⟩,
    ⟨some 24, .move (.t 160), none⟩,
    ⟨some 25, .move (.t 161), none⟩])
def A_laws_FnFieldPolynomials.r23 : ACode := (.region none [⟨some 163, .move (.t 3), none⟩,
    ⟨some 164, .move (.t 4), none⟩,
    ⟨some 165, .call 29 [(.t 163), (.t 164)], none⟩,
    ⟨some 162, .move (.t 165), none⟩,
    ⟨some 166, .extract (.t 162) 0, none⟩,
    ⟨some 167, .extract (.t 162) 1, none⟩,
    ⟨some 26, .move (.t 166), none⟩,
    ⟨some 27, .move (.t 167), none⟩])
def A_laws_FnFieldPolynomials.r24 : ACode := (.region none [⟨some 168, .move (.t 25), none⟩,
    ⟨some 169, .move (.t 27), none⟩,
    ⟨some 170, .bin .neq (.t 168) (.t 169), none⟩,
    ⟨some 171, .move (.t 170), none⟩,
    ⟨some 172, .move (.t 24), some (171, false)⟩,
    ⟨some 173, .move (.t 26), some (171, false)⟩,
    ⟨some 174, .call 43 [(.t 172), (.t 173)], some (171, false)⟩,
    ⟨some 175, .not (.t 174), some (171, false)⟩,
    ⟨some 176, .pick (.t 171) (.c (.bool true)) (.t 175), none⟩])
def A_laws_FnFieldPolynomials.r25 : ACode := (.region none [⟨some 2, .move (.c (.bool false)), none⟩])
def A_laws_FnFieldPolynomials.r26 : ACode := (.region none [⟨some 178, .move (.t 0), none⟩,
    ⟨some 179, .call 46 [(.t 178)], none⟩,
    ⟨some 177, .move (.t 179), none⟩,
    ⟨some 180, .extract (.t 177) 0, none⟩,
    ⟨some 181, .extract (.t 177) 1, none⟩,
    ⟨some 28, .move (.t 180), none⟩,
    ⟨some 29, .move (.t 181), none⟩])
def A_laws_FnFieldPolynomials.r27 : ACode := (.region none [⟨some 183, .move (.t 28), none⟩,
    ⟨some 184, .move (.t 29), none⟩,
    ⟨some 185, .call 9 [(.t 183), (.t 184)], none⟩,
    ⟨some 182, .move (.t 185), none⟩,
    ⟨some 186, .extract (.t 182) 0, none⟩,
    ⟨some 187, .extract (.t 182) 1, none⟩,
    ⟨some 30, .move (.t 186), none⟩,
    ⟨some 31, .move (.t 187), none⟩])
def A_laws_FnFieldPolynomials.r28 : ACode := (.region none [⟨some 189, .move (.t 28), none⟩,
    ⟨some 190, .move (.t 29), none⟩,
    ⟨some 191, .call 8 [(.t 189), (.t 190)], none⟩,
    ⟨some 188, .move (.t 191), none⟩,
    ⟨some 192, .extract (.t 188) 0, none⟩,
    ⟨some 193, .extract (.t 188) 1, none⟩,
    ⟨some 32, .move (.t 192), none⟩,
    ⟨some 33, .move (.t 193), none⟩])
def A_laws_FnFieldPolynomials.r29 : ACode := (.region none [⟨some 194, .move (.t 31), none⟩,
    ⟨some 195, .move (.t 33), none⟩,
    ⟨some 196, .bin .neq (.t 194) (.t 195), none⟩,
    ⟨some 197, .move (.t 196), none⟩,
    ⟨some 198, .move (.t 30), some (197, false)⟩,
    ⟨some 199, .move (.t 32), some (197, false)⟩,
    ⟨some 200, .bin .neq (.t 198) (.t 199), some (197, false)⟩,
    ⟨some 201, .pick (.t 197) (.c (.bool true)) (.t 200), none⟩])
def A_laws_FnFieldPolynomials.r30 : ACode := (.region none [⟨some 2, .move (.c (.bool false)), none⟩])
def A_laws_FnFieldPolynomials.r31 : ACode := (.region none [⟨some 202, .move (.t 0), none⟩,
    ⟨some 203, .call 47 [(.t 202), (.c (.int .u64 9806))], none⟩,
    ⟨some 204, .call 48 [(.t 203), (.c (.int .i64 10007))], none⟩,
    ⟨some 34, .move (.t 204), none⟩])
def A_laws_FnFieldPolynomials.r32 : ACode := (.region none [⟨some 205, .move (.t 16), none⟩,
    ⟨some 206, .bin .eql (.t 205) (.c (.int .i64 0)), none⟩])
def A_laws_FnFieldPolynomials.r33 : ACode := (.region none [⟨some 208, .move (.t 14), none⟩,
    ⟨some 209, .move (.t 34), none⟩,
    ⟨some 210, .call 9 [(.t 208), (.t 209)], none⟩,
    ⟨some 207, .move (.t 210), none⟩,
    ⟨some 211, .extract (.t 207) 0, none⟩,
    ⟨some 212, .extract (.t 207) 1, none⟩,
    ⟨some 35, .move (.t 211), none⟩,
    ⟨some 36, .move (.t 212), none⟩])
def A_laws_FnFieldPolynomials.r34 : ACode := (.region none [⟨some 214, .move (.t 13), none⟩,
    ⟨some 215, .move (.t 35), none⟩,
    ⟨some 216, .call 9 [(.t 214), (.t 215)], none⟩,
    ⟨some 213, .move (.t 216), none⟩,
    ⟨some 217, .extract (.t 213) 0, none⟩,
    ⟨some 218, .extract (.t 213) 1, none⟩,
    ⟨some 37, .move (.t 217), none⟩,
    ⟨some 38, .move (.t 218), none⟩])
def A_laws_FnFieldPolynomials.r35 : ACode := (.region none [⟨some 220, .move (.t 15), none⟩,
    ⟨some 221, .move (.t 34), none⟩,
    ⟨some 222, .call 9 [(.t 220), (.t 221)], none⟩,
    ⟨some 219, .move (.t 222), none⟩,
    ⟨some 223, .extract (.t 219) 0, none⟩,
    ⟨some 224, .extract (.t 219) 1, none⟩,
    ⟨some 39, .move (.t 223), none⟩,
    ⟨some 40, .move (.t 224), none⟩])
def A_laws_FnFieldPolynomials.r36 : ACode := (.region none [⟨some 225, .move (.t 36), none⟩,
    ⟨some 226, .bin .neq (.t 225) (.c (.int .i64 0)), none⟩,
    ⟨some 227, .move (.t 226), none⟩,
    ⟨some 228, .move (.t 38), some (227, false)⟩,
    ⟨some 229, .bin .neq (.t 228) (.c (.int .i64 0)), some (227, false)⟩,
    ⟨some 230, .pick (.t 227) (.c (.bool true)) (.t 229), none⟩,
    ⟨some 231, .move (.t 230), none⟩,
    ⟨some 232, .move (.t 40), some (231, false)⟩,
    ⟨some 233, .bin .neq (.t 232) (.c (.int .i64 0)), some (231, false)⟩,
    ⟨some 234, .pick (.t 231) (.c (.bool true)) (.t 233), none⟩,
    ⟨some 235, .move (.t 234), none⟩,
    ⟨some 236, .move (.t 37), some (235, false)⟩,
    ⟨some 237, .move (.t 39), some (235, false)⟩,
    ⟨some 238, .bin .neq (.t 236) (.t 237), some (235, false)⟩,
    ⟨some 239, .pick (.t 235) (.c (.bool true)) (.t 238), none⟩])
def A_laws_FnFieldPolynomials.r37 : ACode := (.region none [⟨some 2, .move (.c (.bool false)), none⟩])
def A_laws_FnFieldPolynomials.r38 : ACode := (.region none [⟨some 240, .move (.t 6), none⟩,
    ⟨some 241, .bin .neq (.t 240) (.c (.int .i64 0)), none⟩])
def A_laws_FnFieldPolynomials.r39 : ACode := (.region none [⟨some 242, .move (.t 5), none⟩,
    ⟨some 243, .len (.t 242), none⟩,
    ⟨some 244, .bin .eql (.t 243) (.c (.int .i64 0)), none⟩,
    ⟨some 2, .move (.t 244), none⟩])
def A_laws_FnFieldPolynomials.r40 : ACode := (.region none [⟨some 246, .move (.t 3), none⟩,
    ⟨some 247, .call 11 [(.t 246)], none⟩,
    ⟨some 245, .move (.t 247), none⟩,
    ⟨some 248, .extract (.t 245) 0, none⟩,
    ⟨some 249, .extract (.t 245) 1, none⟩,
    ⟨some 41, .move (.t 248), none⟩,
    ⟨some 42, .move (.t 249), none⟩])
def A_laws_FnFieldPolynomials.r41 : ACode := (.region none [⟨some 251, .move (.t 4), none⟩,
    ⟨some 252, .call 11 [(.t 251)], none⟩,
    ⟨some 250, .move (.t 252), none⟩,
    ⟨some 253, .extract (.t 250) 0, none⟩,
    ⟨some 254, .extract (.t 250) 1, none⟩,
    ⟨some 43, .move (.t 253), none⟩,
    ⟨some 44, .move (.t 254), none⟩])
def A_laws_FnFieldPolynomials.r42 : ACode := (.region none [⟨some 256, .move (.t 41), none⟩,
    ⟨some 257, .move (.t 4), none⟩,
    ⟨some 258, .call 17 [(.t 256), (.t 257)], none⟩,
    ⟨some 255, .move (.t 258), none⟩,
    ⟨some 259, .extract (.t 255) 0, none⟩,
    ⟨some 260, .extract (.t 255) 1, none⟩,
    ⟨some 45, .move (.t 259), none⟩,
    ⟨some 46, .move (.t 260), none⟩])
def A_laws_FnFieldPolynomials.r43 : ACode := (.region none [⟨some 262, .move (.t 3), none⟩,
    ⟨some 263, .move (.t 43), none⟩,
    ⟨some 264, .call 17 [(.t 262), (.t 263)], none⟩,
    ⟨some 261, .move (.t 264), none⟩,
    ⟨some 265, .extract (.t 261) 0, none⟩,
    ⟨some 266, .extract (.t 261) 1, none⟩,
    ⟨some 47, .move (.t 265), none⟩,
    ⟨some 48, .move (.t 266), none⟩])
def A_laws_FnFieldPolynomials.r44 : ACode := (.region none [⟨some 268, .move (.t 45), none⟩,
    ⟨some 269, .move (.t 47), none⟩,
    ⟨some 270, .call 15 [(.t 268), (.t 269)], none⟩,
    ⟨some 267, .move (.t 270), none⟩,
    ⟨some 271, .extract (.t 267) 0, none⟩,
    ⟨some 272, .extract (.t 267) 1, none⟩,
    ⟨some 49, .move (.t 271), none⟩,
    ⟨some 50, .move (.t 272), none⟩])
def A_laws_FnFieldPolynomials.r45 : ACode := (.region none [⟨some 274, .move (.t 5), none⟩,
    ⟨some 275, .call 11 [(.t 274)], none⟩,
    ⟨some 273, .move (.t 275), none⟩,
    ⟨some 276, .extract (.t 273) 0, none⟩,
    ⟨some 277, .extract (.t 273) 1, none⟩,
    ⟨some 51, .move (.t 276), none⟩,
    ⟨some 52, .move (.t 277), none⟩])
def A_laws_FnFieldPolynomials.r46 : ACode := (.region none [⟨some 278, .move (.t 42), none⟩,
    ⟨some 279, .bin .eql (.t 278) (.c (.int .i64 0)), none⟩,
    ⟨some 280, .move (.t 279), none⟩,
    ⟨some 281, .move (.t 44), some (280, true)⟩,
    ⟨some 282, .bin .eql (.t 281) (.c (.int .i64 0)), some (280, true)⟩,
    ⟨some 283, .pick (.t 280) (.t 282) (.c (.bool false)), none⟩,
    ⟨some 284, .move (.t 283), none⟩,
    ⟨some 285, .move (.t 46), some (284, true)⟩,
    ⟨some 286, .bin .eql (.t 285) (.c (.int .i64 0)), some (284, true)⟩,
    ⟨some 287, .pick (.t 284) (.t 286) (.c (.bool false)), none⟩,
    ⟨some 288, .move (.t 287), none⟩,
    ⟨some 289, .move (.t 48), some (288, true)⟩,
    ⟨some 290, .bin .eql (.t 289) (.c (.int .i64 0)), some (288, true)⟩,
    ⟨some 291, .pick (.t 288) (.t 290) (.c (.bool false)), none⟩,
    ⟨some 292, .move (.t 291), none⟩,
    ⟨some 293, .move (.t 50), some (292, true)⟩,
    ⟨some 294, .bin .eql (.t 293) (.c (.int .i64 0)), some (292, true)⟩,
    ⟨some 295, .pick (.t 292) (.t 294) (.c (.bool false)), none⟩,
    ⟨some 296, .move (.t 295), none⟩,
    ⟨some 297, .move (.t 52), some (296, true)⟩,
    ⟨some 298, .bin .eql (.t 297) (.c (.int .i64 0)), some (296, true)⟩,
    ⟨some 299, .pick (.t 296) (.t 298) (.c (.bool false)), none⟩,
    ⟨some 300, .move (.t 299), none⟩,
    ⟨some 301, .move (.t 51), some (300, true)⟩,
    ⟨some 302, .move (.t 49), some (300, true)⟩,
    ⟨some 303, .call 43 [(.t 301), (.t 302)], some (300, true)⟩,
    ⟨some 304, .pick (.t 300) (.t 303) (.c (.bool false)), none⟩,
    ⟨some 305, .move (.t 304), none⟩,
    ⟨some 306, .move (.t 25), some (305, true)⟩,
    ⟨some 307, .bin .neq (.t 306) (.c (.int .i64 0)), some (305, true)⟩,
    ⟨some 308, .move (.t 307), some (305, true)⟩,
    ⟨some 309, .move (.t 24), some (308, false)⟩,
    ⟨some 310, .len (.t 309), some (308, false)⟩,
    ⟨some 311, .bin .gtr (.t 310) (.c (.int .i64 0)), some (308, false)⟩,
    ⟨some 312, .move (.t 311), some (308, false)⟩,
    ⟨some 313, .move (.t 24), some (312, true)⟩,
    ⟨some 314, .move (.t 24), some (312, true)⟩,
    ⟨some 315, .len (.t 314), some (312, true)⟩,
    ⟨some 316, .bin .sub (.t 315) (.c (.int .i64 1)), some (312, true)⟩,
    ⟨some 317, .indexAddr none 1 (.t 313) (.t 316), some (312, true)⟩,
    ⟨some 318, .load none (.t 317), some (312, true)⟩,
    ⟨some 319, .bin .eql (.t 318) (.c (.int .i64 1)), some (312, true)⟩,
    ⟨some 320, .pick (.t 312) (.t 319) (.c (.bool false)), some (308, false)⟩,
    ⟨some 321, .pick (.t 308) (.c (.bool true)) (.t 320), some (305, true)⟩,
    ⟨some 322, .pick (.t 305) (.t 321) (.c (.bool false)), none⟩,
    ⟨some 2, .move (.t 322), none⟩])
def A_laws_FnFieldPolynomials : AFunc := ⟨[.tmp 2], (.seq A_laws_FnFieldPolynomials.r0 (.seq (.seq A_laws_FnFieldPolynomials.r1 (.cond (.t 54) (.seq A_laws_FnFieldPolynomials.r2 .ret) .skip)) (.seq A_laws_FnFieldPolynomials.r3 (.seq A_laws_FnFieldPolynomials.r4 (.seq (.seq A_laws_FnFieldPolynomials.r5 (.seq A_laws_FnFieldPolynomials.r6 (.cond (.t 87) (.seq A_laws_FnFieldPolynomials.r7 .ret) .skip))) (.seq A_laws_FnFieldPolynomials.r8 (.seq (.seq A_laws_FnFieldPolynomials.r9 (.seq A_laws_FnFieldPolynomials.r10 (.cond (.t 108) (.seq A_laws_FnFieldPolynomials.r11 .ret) .skip))) (.seq A_laws_FnFieldPolynomials.r12 (.seq A_laws_FnFieldPolynomials.r13 (.seq (.seq A_laws_FnFieldPolynomials.r14 (.seq A_laws_FnFieldPolynomials.r15 (.cond (.t 134) (.seq A_laws_FnFieldPolynomials.r16 .ret) .skip))) (.seq A_laws_FnFieldPolynomials.r17 (.seq A_laws_FnFieldPolynomials.r18 (.seq (.seq A_laws_FnFieldPolynomials.r19 (.seq A_laws_FnFieldPolynomials.r20 (.cond (.t 155) (.seq A_laws_FnFieldPolynomials.r21 .ret) .skip))) (.seq A_laws_FnFieldPolynomials.r22 (.seq (.seq A_laws_FnFieldPolynomials.r23 (.seq A_laws_FnFieldPolynomials.r24 (.cond (.t 176) (.seq A_laws_FnFieldPolynomials.r25 .ret) .skip))) (.seq A_laws_FnFieldPolynomials.r26 (.seq A_laws_FnFieldPolynomials.r27 (.seq (.seq A_laws_FnFieldPolynomials.r28 (.seq A_laws_FnFieldPolynomials.r29 (.cond (.t 201) (.seq A_laws_FnFieldPolynomials.r30 .ret) .skip))) (.seq A_laws_FnFieldPolynomials.r31 (.seq (.seq A_laws_FnFieldPolynomials.r32 (.cond (.t 206) (.seq A_laws_FnFieldPolynomials.r33 (.seq A_laws_FnFieldPolynomials.r34 (.seq A_laws_FnFieldPolynomials.r35 (.seq A_laws_FnFieldPolynomials.r36 (.cond (.t 239) (.seq A_laws_FnFieldPolynomials.r37 .ret) .skip))))) .skip)) (.seq (.seq A_laws_FnFieldPolynomials.r38 (.cond (.t 241) (.seq A_laws_FnFieldPolynomials.r39 .ret) .skip)) (.seq A_laws_FnFieldPolynomials.r40 (.seq A_laws_FnFieldPolynomials.r41 (.seq A_laws_FnFieldPolynomials.r42 (.seq A_laws_FnFieldPolynomials.r43 (.seq A_laws_FnFieldPolynomials.r44 (.seq A_laws_FnFieldPolynomials.r45 (.seq A_laws_FnFieldPolynomials.r46 .ret))))))))))))))))))))))))))))⟩
/-! laws_FnShabats -/
def A_laws_FnShabats.r0 : ACode := (.region none [⟨some 2, .move (.c (.bool false)), none⟩])
def A_laws_FnShabats.r1 : ACode := (.region none [⟨some 57, .move (.t 0), none⟩,
    ⟨some 58, .call 41 [(.t 57)], none⟩])
def A_laws_FnShabats.r2 : ACode := (.region none [⟨some 2, .move (.c (.bool true)), none⟩])
def A_laws_FnShabats.r3 : ACode := (.region none [⟨some 60, .move (.t 0), none⟩,
    ⟨some 61, .call 49 [(.t 60)], none⟩,
    ⟨some 59, .move (.t 61), none⟩,
    ⟨some 62, .extract (.t 59) 0, none⟩,
    ⟨some 63, .extract (.t 59) 1, none⟩,
    ⟨some 3, .move (.t 62), none⟩,
    ⟨some 4, .move (.t 63), none⟩])
def A_laws_FnShabats.r4 : ACode := (.region none [⟨some 65, .move (.t 3), none⟩,
    ⟨some 66, .move (.t 4), none⟩,
    ⟨some 67, .call 34 [(.t 65), (.t 66)], none⟩,
    ⟨some 64, .move (.t 67), none⟩,
    ⟨some 68, .extract (.t 64) 0, none⟩,
    ⟨some 69, .extract (.t 64) 1, none⟩,
    ⟨some 5, .move (.t 68), none⟩,
    ⟨some 6, .move (.t 69), none⟩])
def A_laws_FnShabats.r5 : ACode := (.region none [⟨some 71, .move (.t 3), none⟩,
    ⟨some 72, .move (.t 4), none⟩,
    ⟨some 73, .call 33 [(.t 71), (.t 72)], none⟩,
    ⟨some 70, .move (.t 73), none⟩,
    ⟨some 74, .extract (.t 70) 0, none⟩,
    ⟨some 75, .extract (.t 70) 1, none⟩,
    ⟨some 7, .move (.t 74), none⟩,
    ⟨some 8, .move (.t 75), none⟩])
def A_laws_FnShabats.r6 : ACode := (.region none [⟨some 76, .move (.t 6), none⟩,
    ⟨some 77, .move (.t 8), none⟩,
    ⟨some 78, .bin .neq (.t 76) (.t 77), none⟩,
    ⟨some 79, .move (.t 78), none⟩,
    ⟨some 80, .move (.t 5), some (79, false)⟩,
    ⟨some 81, .move (.t 7), some (79, false)⟩,
    ⟨some 82, .call 43 [(.t 80), (.t 81)], some (79, false)⟩,
    ⟨some 83, .not (.t 82), some (79, false)⟩,
    ⟨some 84, .pick (.t 79) (.c (.bool true)) (.t 83), none⟩])
def A_laws_FnShabats.r7 : ACode := (.region none [⟨some 2, .move (.c (.bool false)), none⟩])
def A_laws_FnShabats.r8 : ACode := (.region none [⟨some 86, .move (.t 3), none⟩,
    ⟨some 87, .move (.t 4), none⟩,
    ⟨some 88, .call 32 [(.t 86), (.t 87)], none⟩,
    ⟨some 85, .move (.t 88), none⟩,
    ⟨some 89, .extract (.t 85) 0, none⟩,
    ⟨some 90, .extract (.t 85) 1, none⟩,
    ⟨some 9, .move (.t 89), none⟩,
    ⟨some 10, .move (.t 90), none⟩])
def A_laws_FnShabats.r9 : ACode := (.region none [⟨some 92, .move (.t 3), none⟩,
    ⟨some 93, .move (.t 4), none⟩,
    ⟨some 94, .call 31 [(.t 92), (.t 93)], none⟩,
    ⟨some 91, .move (.t 94), none⟩,
    ⟨some 95, .extract (.t 91) 0, none⟩,
    ⟨some 96, .extract (.t 91) 1, none⟩,
    ⟨some 11, .move (.t 95), none⟩,
    ⟨some 12, .move (.t 96), none⟩])
def A_laws_FnShabats.r10 : ACode := (.region none [⟨some 97, .move (.t 10), none⟩,
    ⟨some 98, .move (.t 12), none⟩,
    ⟨some 99, .bin .neq (.t 97) (.t 98), none⟩,
    ⟨some 100, .move (.t 99), none⟩,
    ⟨some 101, .move (.t 9), some (100, false)⟩,
    ⟨some 102, .move (.t 11), some (100, false)⟩,
    ⟨some 103, .eqb true (.t 101) (.t 102), some (100, false)⟩,
    ⟨some 104, .pick (.t 100) (.c (.bool true)) (.t 103), none⟩])
def A_laws_FnShabats.r11 : ACode := (.region none [⟨some 2, .move (.c (.bool false)), none⟩])
def A_laws_FnShabats.r12 : ACode := (.region none [⟨some 106, .move (.t 0), none⟩,
    ⟨some 107, .call 50 [(.t 106)], none⟩,
    ⟨some 105, .move (.t 107), none⟩,
    ⟨some 108, .extract (.t 105) 0, none⟩,
    ⟨some 109, .extract (.t 105) 1, none⟩,
    ⟨some 110, .extract (.t 105) 2, none⟩,
    ⟨some 13, .move (.t 108), none⟩,
    ⟨some 14, .move (.t 109), none⟩,
    ⟨some 15, .move (.t 110), none⟩])
def A_laws_FnShabats.r13 : ACode := (.region none [⟨some 112, .move (.t 13), none⟩,
    ⟨some 113, .move (.t 14), none⟩,
    ⟨some 114, .move (.t 15), none⟩,
    ⟨some 115, .call 36 [(.t 112), (.t 113), (.t 114)], none⟩,
    ⟨some 111, .move (.t 115), none⟩,
    ⟨some 116, .extract (.t 111) 0, none⟩,
    ⟨some 117, .extract (.t 111) 1, none⟩,
    ⟨some 16, .move (.t 116), none⟩,
    ⟨some 17, .move (.t 117), none⟩])
def A_laws_FnShabats.r14 : ACode := (.region none [⟨some 119, .move (.t 13), none⟩,
    ⟨some 120, .move (.t 14), none⟩,
    ⟨some 121, .move (.t 15), none⟩,
    ⟨some 122, .call 35 [(.t 119), (.t 120), (.t 121)], none⟩,
    ⟨some 118, .move (.t 122), none⟩,
    ⟨some 123, .extract (.t 118) 0, none⟩,
    ⟨some 124, .extract (.t 118) 1, none⟩,
    ⟨some 18, .move (.t 123), none⟩,
    ⟨some 19, .move (.t 124), none⟩])
def A_laws_FnShabats.r15 : ACode := (.region none [⟨some 125, .move (.t 17), none⟩,
    ⟨some 126, .move (.t 19), none⟩,
    ⟨some 127, .bin .neq (.t 125) (.t 126), none⟩,
    ⟨some 128, .move (.t 127), none⟩,
    ⟨some 129, .move (.t 16), some (128, false)⟩,
    ⟨some 130, .move (.t 18), some (128, false)⟩,
    ⟨some 131, .eqb true (.t 129) (.t 130), some (128, false)⟩,
    ⟨some 132, .pick (.t 128) (.c (.bool true)) (.t 131), none⟩])
def A_laws_FnShabats.r16 : ACode := (.region none [⟨some 2, .move (.c (.bool false)), none⟩])
def A_laws_FnShabats.r17 : ACode := (.region none [⟨some 134, .move (.t 13), none⟩,
    ⟨some 135, .move (.t 14), none⟩,
    ⟨some 136, .move (.t 15), none⟩,
    ⟨some 137, .call 38 [(.t 134), (.t 135), (.t 136)], none⟩,
    ⟨some 133, .move (.t 137), none⟩,
    ⟨some 138, .extract (.t 133) 0, none⟩,
    ⟨some 139, .extract (.t 133) 1, none⟩,
    ⟨some 20, .move (.t 138), none⟩,
    ⟨some 21, .move (.t 139), none⟩])
def A_laws_FnShabats.r18 : ACode := (.region none [⟨some 141, .move (.t 13), none⟩,
    ⟨some 142, .move (.t 14), none⟩,
    ⟨some 143, .move (.t 15), none⟩,
    ⟨some 144, .call 37 [(.t 141), (.t 142), (.t 143)], none⟩,
    ⟨some 140, .move (.t 144), none⟩,
    ⟨some 145, .extract (.t 140) 0, none⟩,
    ⟨some 146, .extract (.t 140) 1, none⟩,
    ⟨some 22, .move (.t 145), none⟩,
    ⟨some 23, .move (.t 146), none⟩])
def A_laws_FnShabats.r19 : ACode := (.region none [⟨some 147, .move (.t 21), none⟩,
    ⟨some 148, .move (.t 23), none⟩,
    ⟨some 149, .bin .neq (.t 147) (.t 148), none⟩,
    ⟨some 150, .move (.t 149), none⟩,
    ⟨some 151, .move (.t 20), some (150, false)⟩,
    ⟨some 152, .move (.t 22), some (150, false)⟩,
    ⟨some 153, .call 51 [(.t 151), (.t 152)], some (150, false)⟩,
    ⟨some 154, .not (.t 153), some (150, false)⟩,
    ⟨some 155, .pick (.t 150) (.c (.bool true)) (.t 154), none⟩])
def A_laws_FnShabats.r20 : ACode := (.region none [⟨some 2, .move (.c (.bool false)), none⟩])
def A_laws_FnShabats.r21 : ACode := (.region none [⟨some 156, .move (.t 0), none⟩,
    ⟨some 157, .call 52 [(.t 156)], none⟩,
    ⟨some 24, .move (.t 157), none⟩])
def A_laws_FnShabats.r22 : ACode := (.region none [⟨some 159, .move (.t 24), none⟩,
    ⟨some 160, .call 5 [(.t 159)], none⟩,
    ⟨some 158, .move (.t 160), none⟩,
    ⟨some 161, .extract (.t 158) 0, none⟩,
    ⟨some 162, .extract (.t 158) 1, none⟩,
    ⟨some 25, .move (.t 161), none⟩,
    ⟨some 26, .move (.t 162), none⟩])
def A_laws_FnShabats.r23 : ACode := (.region none [⟨some 164, .move (.t 24), none⟩,
    ⟨some 165, .call 4 [(.t 164)], none⟩,
    ⟨some 163, .move (.t 165), none⟩,
    ⟨some 166, .extract (.t 163) 0, none⟩,
    ⟨some 167, .extract (.t 163) 1, none⟩,
    ⟨some 27, .move (.t 166), none⟩,
    ⟨some 28, .move (.t 167), none⟩])
def A_laws_FnShabats.r24 : ACode := (.region none [⟨some 168, .move (.t 26), none⟩,
    ⟨some 169, .move (.t 28), none⟩,
    ⟨some 170, .bin .neq (.t 168) (.t 169), none⟩,
    ⟨some 171, .move (.t 170), none⟩,
    ⟨some 172, .move (.t 25), some (171, false)⟩,
    ⟨some 173, .move (.t 27), some (171, false)⟩,
    ⟨some 174, .call 43 [(.t 172), (.t 173)], some (171, false)⟩,
    ⟨some 175, .not (.t 174), some (171, false)⟩,
    ⟨some 176, .pick (.t 171) (.c (.bool true)) (.t 175), none⟩])
def A_laws_FnShabats.r25 : ACode := (.region none [⟨some 2, .move (.c (.bool false)), none⟩])
def A_laws_FnShabats.r26 : ACode := (.region none [⟨some 177, .move (.t 0), none⟩,
    ⟨some 178, .call 53 [(.t 177)], none⟩,
    ⟨some 29, .move (.t 178), none⟩])
def A_laws_FnShabats.r27 : ACode := (.region none [⟨some 180, .move (.t 29), none⟩,
    ⟨some 181, .call 19 [(.t 180)], none⟩,
    ⟨some 179, .move (.t 181), none⟩,
    ⟨some 182, .extract (.t 179) 0, none⟩,
    ⟨some 183, .extract (.t 179) 1, none⟩,
    ⟨some 30, .move (.t 182), none⟩,
    ⟨some 31, .move (.t 183), none⟩])
def A_laws_FnShabats.r28 : ACode := (.region none [⟨some 185, .move (.t 29), none⟩,
    ⟨some 186, .call 18 [(.t 185)], none⟩,
    ⟨some 184, .move (.t 186), none⟩,
    ⟨some 187, .extract (.t 184) 0, none⟩,
    ⟨some 188, .extract (.t 184) 1, none⟩,
    ⟨some 32, .move (.t 187), none⟩,
    ⟨some 33, .move (.t 188), none⟩])
def A_laws_FnShabats.r29 : ACode := (.region none [⟨some 189, .move (.t 31), none⟩,
    ⟨some 190, .move (.t 33), none⟩,
    ⟨some 191, .bin .neq (.t 189) (.t 190), none⟩,
    ⟨some 192, .move (.t 191), none⟩,
    ⟨some 193, .move (.t 30), some (192, false)⟩,
    ⟨some 194, .move (.t 32), some (192, false)⟩,
    ⟨some 195, .call 43 [(.t 193), (.t 194)], some (192, false)⟩,
    ⟨some 196, .not (.t 195), some (192, false)⟩,
    ⟨some 197, .pick (.t 192) (.c (.bool true)) (.t 196), none⟩])
def A_laws_FnShabats.r30 : ACode := (.region none [⟨some 2, .move (.c (.bool false)), none⟩])
def A_laws_FnShabats.r31 : ACode := (.region none [⟨some 199, .move (.t 0), none⟩,
    ⟨some 200, .call 54 [(.t 199)], none⟩,
    ⟨some 198, .move (.t 200), none⟩,
    ⟨some 201, .extract (.t 198) 0, none⟩,
    ⟨some 202, .extract (.t 198) 1, none⟩,
    ⟨some 34, .move (.t 201), none⟩,
    ⟨some 35, .move (.t 202), none⟩])
def A_laws_FnShabats.r32 : ACode := (.region none [⟨some 204, .move (.t 34), none⟩,
    ⟨some 205, .move (.t 35), none⟩,
    ⟨some 206, .call 26 [(.t 204), (.t 205)], none⟩,
    ⟨some 203, .move (.t 206), none⟩,
    ⟨some 207, .extract (.t 203) 0, none⟩,
    ⟨some 208, .extract (.t 203) 1, none⟩,
    ⟨some 36, .move (.t 207), none⟩,
    ⟨some 37, .move (.t 208), none⟩])
def A_laws_FnShabats.r33 : ACode := (.region none [⟨some 210, .move (.t 34), none⟩,
    ⟨some 211, .move (.t 35), none⟩,
    ⟨some 212, .call 25 [(.t 210), (.t 211)], none⟩,
    ⟨some 209, .move (.t 212), none⟩,
    ⟨some 213, .extract (.t 209) 0, none⟩,
    ⟨some 214, .extract (.t 209) 1, none⟩,
    ⟨some 38, .move (.t 213), none⟩,
    ⟨some 39, .move (.t 214), none⟩])
def A_laws_FnShabats.r34 : ACode := (.region none [⟨some 215, .move (.t 37), none⟩,
    ⟨some 216, .move (.t 39), none⟩,
    ⟨some 217, .bin .neq (.t 215) (.t 216), none⟩,
    ⟨some 218, .move (.t 217), none⟩,
    ⟨some 219, .move (.t 36), some (218, false)⟩,
    ⟨some 220, .move (.t 38), some (218, false)⟩,
    ⟨some 221, .call 43 [(.t 219), (.t 220)], some (218, false)⟩,
    ⟨some 222, .not (.t 221), some (218, false)⟩,
    ⟨some 223, .pick (.t 218) (.c (.bool true)) (.t 222), none⟩])
def A_laws_FnShabats.r35 : ACode := (.region none [⟨some 2, .move (.c (.bool false)), none⟩])
def A_laws_FnShabats.r36 : ACode := (.region none [⟨some 224, .move (.t 26), none⟩,
    ⟨some 225, .bin .eql (.t 224) (.c (.int .i64 0)), none⟩])
def A_laws_FnShabats.r37 : ACode := (.region none [⟨some 227, .move (.t 25), none⟩,
    ⟨some 228, .call 36 [(.t 227), (.c (.int .i64 0)), (.c (.int .i64 1))], none⟩,
    ⟨some 226, .move (.t 228), none⟩,
    ⟨some 229, .extract (.t 226) 0, none⟩,
    ⟨some 230, .extract (.t 226) 1, none⟩,
    ⟨some 40, .move (.t 229), none⟩,
    ⟨some 41, .move (.t 230), none⟩])
def A_laws_FnShabats.r38 : ACode := (.region none [⟨some 231, .move (.t 41), none⟩,
    ⟨some 232, .bin .neq (.t 231) (.c (.int .i64 0)), none⟩,
    ⟨some 233, .move (.t 232), none⟩,
    ⟨some 234, .move (.t 40), some (233, false)⟩,
    ⟨some 235, .not (.t 234), some (233, false)⟩,
    ⟨some 236, .pick (.t 233) (.c (.bool true)) (.t 235), none⟩])
def A_laws_FnShabats.r39 : ACode := (.region none [⟨some 2, .move (.c (.bool false)), none⟩])
def A_laws_FnShabats.r40 : ACode := (.region none [⟨some 237, .move (.t 37), none⟩,
    ⟨some 238, .bin .eql (.t 237) (.c (.int .i64 0)), none⟩])
def A_laws_FnShabats.r41 : ACode := (.region none [⟨some 240, .move (.t 36), none⟩,
    ⟨some 241, .call 36 [(.t 240), (.c (.int .i64 0)), (.c (.int .i64 1))], none⟩,
    ⟨some 239, .move (.t 241), none⟩,
    ⟨some 242, .extract (.t 239) 0, none⟩,
    ⟨some 243, .extract (.t 239) 1, none⟩,
    ⟨some 42, .move (.t 242), none⟩,
    ⟨some 43, .move (.t 243), none⟩])
def A_laws_FnShabats.r42 : ACode := (.region none [⟨some 244, .move (.t 43), none⟩,
    ⟨some 245, .bin .neq (.t 244) (.c (.int .i64 0)), none⟩,
    ⟨some 246, .move (.t 245), none⟩,
    ⟨some 247, .move (.t 42), some (246, false)⟩,
    ⟨some 248, .not (.t 247), some (246, false)⟩,
    ⟨some 249, .pick (.t 246) (.c (.bool true)) (.t 248), none⟩])
def A_laws_FnShabats.r43 : ACode := (.region none [⟨some 2, .move (.c (.bool false)), none⟩])
def A_laws_FnShabats.r44 : ACode := (.region none [⟨some 250, .move (.t 31), none⟩,
    ⟨some 251, .bin .eql (.t 250) (.c (.int .i64 0)), none⟩])
def A_laws_FnShabats.r45 : ACode := (.region none [⟨some 253, .move (.t 30), none⟩,
    ⟨some 254, .call 36 [(.t 253), (.c (.int .i64 1)), (.c (.int .i64 10006))], none⟩,
    ⟨some 252, .move (.t 254), none⟩,
    ⟨some 255, .extract (.t 252) 0, none⟩,
    ⟨some 256, .extract (.t 252) 1, none⟩,
    ⟨some 44, .move (.t 255), none⟩,
    ⟨some 45, .move (.t 256), none⟩])
def A_laws_FnShabats.r46 : ACode := (.region none [⟨some 257, .move (.t 0), none⟩,
    ⟨some 258, .call 47 [(.t 257), (.c (.int .u64 9807))], none⟩,
    ⟨some 259, .call 48 [(.t 258), (.c (.int .i64 4))], none⟩,
    ⟨some 260, .bin .add (.c (.int .i64 1)) (.t 259), none⟩,
    ⟨some 46, .move (.t 260), none⟩])
def A_laws_FnShabats.r47 : ACode := (.region none [⟨some 261, .move (.t 45), none⟩,
    ⟨some 262, .bin .neq (.t 261) (.c (.int .i64 0)), none⟩,
    ⟨some 263, .move (.t 262), none⟩,
    ⟨some 264, .move (.t 44), some (263, false)⟩,
    ⟨some 265, .not (.t 264), some (263, false)⟩,
    ⟨some 266, .pick (.t 263) (.c (.bool true)) (.t 265), none⟩])
def A_laws_FnShabats.r48 : ACode := (.region none [⟨some 2, .move (.c (.bool false)), none⟩])
def A_laws_FnShabats.r49 : ACode := (.region none [⟨some 267, .move (.t 46), none⟩,
    ⟨some 268, .move (.t 29), none⟩,
    ⟨some 269, .bin .mul (.t 267) (.t 268), none⟩,
    ⟨some 270, .bin .leq (.t 269) (.c (.int .i64 16)), none⟩])
def A_laws_FnShabats.r50 : ACode := (.region none [⟨some 272, .move (.t 46), none⟩,
    ⟨some 273, .call 19 [(.t 272)], none⟩,
    ⟨some 271, .move (.t 273), none⟩,
    ⟨some 274, .extract (.t 271) 0, none⟩,
    ⟨some 275, .extract (.t 271) 1, none⟩,
    ⟨some 47, .move (.t 274), none⟩,
    ⟨some 48, .move (.t 275), none⟩])
def A_laws_FnShabats.r51 : ACode := (.region none [⟨some 277, .move (.t 47), none⟩,
    ⟨some 278, .move (.t 30), none⟩,
    ⟨some 279, .call 28 [(.t 277), (.t 278)], none⟩,
    ⟨some 276, .move (.t 279), none⟩,
    ⟨some 280, .extract (.t 276) 0, none⟩,
    ⟨some 281, .extract (.t 276) 1, none⟩,
    ⟨some 49, .move (.t 280), none⟩,
    ⟨some 50, .move (.t 281), none⟩])
def A_laws_FnShabats.r52 : ACode := (.region none [⟨some 283, .move (.t 46), none⟩,
    ⟨some 284, .move (.t 29), none⟩,
    ⟨some 285, .bin .mul (.t 283) (.t 284), none⟩,
    ⟨some 286, .call 19 [(.t 285)], none⟩,
    ⟨some 282, .move (.t 286), none⟩,
    ⟨some 287, .extract (.t 282) 0, none⟩,
    ⟨some 288, .extract (.t 282) 1, none⟩,
    ⟨some 51, .move (.t 287), none⟩,
    ⟨some 52, .move (.t 288), none⟩])
def A_laws_FnShabats.r53 : ACode := (.region none [⟨some 289, .move (.t 48), none⟩,
    ⟨some 290, .bin .neq (.t 289) (.c (.int .i64 0)), none⟩,
    ⟨some 291, .move (.t 290), none⟩,
    ⟨some 292, .move (.t 50), some (291, false)⟩,
    ⟨some 293, .bin .neq (.t 292) (.c (.int .i64 0)), some (291, false)⟩,
    ⟨some 294, .pick (.t 291) (.c (.bool true)) (.t 293), none⟩,
    ⟨some 295, .move (.t 294), none⟩,
    ⟨some 296, .move (.t 52), some (295, false)⟩,
    ⟨some 297, .bin .neq (.t 296) (.c (.int .i64 0)), some (295, false)⟩,
    ⟨some 298, .pick (.t 295) (.c (.bool true)) (.t 297), none⟩,
    ⟨some 299, .move (.t 298), none⟩,
    ⟨some 300, .move (.t 49), some (299, false)⟩,
    ⟨some 301, .move (.t 51), some (299, false)⟩,
    ⟨some 302, .call 43 [(.t 300), (.t 301)], some (299, false)⟩,
    ⟨some 303, .not (.t 302), some (299, false)⟩,
    ⟨some 304, .pick (.t 299) (.c (.bool true)) (.t 303), none⟩])
def A_laws_FnShabats.r54 : ACode := (.region none [⟨some 2, .move (.c (.bool false)), none⟩])
def A_laws_FnShabats.r55 : ACode := (.region none [⟨some 305, .move (.t 6), none⟩,
    ⟨some 306, .bin .eql (.t 305) (.c (.int .i64 0)), none⟩,
    ⟨some 307, .move (.t 306), none⟩,
    ⟨some 308, .move (.t 5), some (307, true)⟩,
    ⟨some 309, .call 55 [(.t 308)], some (307, true)⟩,
    ⟨some 310, .move (.t 3), some (307, true)⟩,
    ⟨some 311, .len (.t 310), some (307, true)⟩,
    ⟨some 312, .bin .sub (.t 311) (.c (.int .i64 1)), some (307, true)⟩,
    ⟨some 313, .bin .neq (.t 309) (.t 312), some (307, true)⟩,
    ⟨some 314, .move (.t 313), some (307, true)⟩,
    ⟨some 315, .move (.t 9), some (314, false)⟩,
    ⟨some 316, .move (.t 5), some (314, false)⟩,
    ⟨some 317, .indexAddr none 1 (.t 316) (.c (.int .i64 0)), some (314, false)⟩,
    ⟨some 318, .load none (.t 317), some (314, false)⟩,
    ⟨some 319, .bin .gtr (.t 318) (.c (.int .i64 1)), some (314, false)⟩,
    ⟨some 320, .eqb true (.t 315) (.t 319), some (314, false)⟩,
    ⟨some 321, .pick (.t 314) (.c (.bool true)) (.t 320), some (307, true)⟩,
    ⟨some 322, .pick (.t 307) (.t 321) (.c (.bool false)), none⟩])
def A_laws_FnShabats.r56 : ACode := (.region none [⟨some 2, .move (.c (.bool false)), none⟩])
def A_laws_FnShabats.r57 : ACode := (.region none [⟨some 323, .move (.t 21), none⟩,
    ⟨some 324, .bin .neq (.t 323) (.c (.int .i64 0)), none⟩])
def A_laws_FnShabats.r58 : ACode := (.region none [⟨some 325, .move (.t 20), none⟩,
    ⟨some 326, .len (.t 325), none⟩,
    ⟨some 327, .bin .eql (.t 326) (.c (.int .i64 0)), none⟩,
    ⟨some 2, .move (.t 327), none⟩])
def A_laws_FnShabats.r59 : ACode := (.region none [⟨some 329, .move (.t 20), none⟩,
    ⟨some 330, .call 23 [(.t 329)], none⟩,
    ⟨some 328, .move (.t 330), none⟩,
    ⟨some 331, .extract (.t 328) 0, none⟩,
    ⟨some 332, .extract (.t 328) 1, none⟩,
    ⟨some 53, .move (.t 331), none⟩,
    ⟨some 54, .move (.t 332), none⟩])
def A_laws_FnShabats.r60 : ACode := (.region (some 12) [⟨some 334, .move (.t 20), none⟩,
    ⟨some 335, .indexAddr none 1 (.t 334) (.c (.int .i64 0)), none⟩,
    ⟨some 336, .load none (.t 335), none⟩,
    ⟨some 337, .move (.t 20), none⟩,
    ⟨some 338, .indexAddr none 1 (.t 337) (.c (.int .i64 1)), none⟩,
    ⟨some 339, .load none (.t 338), none⟩,
    ⟨some 340, .call 13 [(.t 336), (.t 339)], none⟩,
    ⟨some 333, .move (.t 340), none⟩,
    ⟨some 341, .extract (.t 333) 0, none⟩,
    ⟨some 342, .extract (.t 333) 1, none⟩,
    ⟨some 55, .move (.t 341), none⟩,
    ⟨some 56, .move (.t 342), none⟩])
def A_laws_FnShabats.r61 : ACode := (.region none [⟨some 343, .move (.t 54), none⟩,
    ⟨some 344, .bin .eql (.t 343) (.c (.int .i64 0)), none⟩,
    ⟨some 345, .move (.t 344), none⟩,
    ⟨some 346, .move (.t 53), some (345, true)⟩,
    ⟨some 347, .bin .eql (.t 346) (.c (.int .i64 2)), some (345, true)⟩,
    ⟨some 348, .pick (.t 345) (.t 347) (.c (.bool false)), none⟩,
    ⟨some 349, .move (.t 348), none⟩,
    ⟨some 350, .move (.t 56), some (349, true)⟩,
    ⟨some 351, .bin .eql (.t 350) (.c (.int .i64 0)), some (349, true)⟩,
    ⟨some 352, .pick (.t 349) (.t 351) (.c (.bool false)), none⟩,
    ⟨some 353, .move (.t 352), none⟩,
    ⟨some 354, .move (.t 55), some (353, true)⟩,
    ⟨some 355, .bin .gtr (.t 354) (.c (.int .i64 0)), some (353, true)⟩,
    ⟨some 356, .pick (.t 353) (.t 355) (.c (.bool false)), none⟩,
    ⟨some 357, .move (.t 356), none⟩,
    ⟨some 358, .move (.t 16), some (357, true)⟩,
    ⟨some 359, .pick (.t 357) (.t 358) (.c (.bool false)), none⟩,
    ⟨some 2, .move (.t 359), none⟩])
def A_laws_FnShabats : AFunc := ⟨[.tmp 2], (.seq A_laws_FnShabats.r0 (.seq (.seq A_laws_FnShabats.r1 (.cond (.t 58) (.seq A_laws_FnShabats.r2 .ret) .skip)) (.seq A_laws_FnShabats.r3 (.seq A_laws_FnShabats.r4 (.seq (.seq A_laws_FnShabats.r5 (.seq A_laws_FnShabats.r6 (.cond (.t 84) (.seq A_laws_FnShabats.r7 .ret) .skip))) (.seq A_laws_FnShabats.r8 (.seq (.seq A_laws_FnShabats.r9 (.seq A_laws_FnShabats.r10 (.cond (.t 104) (.seq A_laws_FnShabats.r11 .ret) .skip))) (.seq A_laws_FnShabats.r12 (.seq A_laws_FnShabats.r13 (.seq (.seq A_laws_FnShabats.r14 (.seq A_laws_FnShabats.r15 (.cond (.t 132) (.seq A_laws_FnShabats.r16 .ret) .skip))) (.seq A_laws_FnShabats.r17 (.seq (.seq A_laws_FnShabats.r18 (.seq A_laws_FnShabats.r19 (.cond (.t 155) (.seq A_laws_FnShabats.r20 .ret) .skip))) (.seq A_laws_FnShabats.r21 (.seq A_laws_FnShabats.r22 (.seq (.seq A_laws_FnShabats.r23 (.seq A_laws_FnShabats.r24 (.cond (.t 176) (.seq A_laws_FnShabats.r25 .ret) .skip))) (.seq A_laws_FnShabats.r26 (.seq A_laws_FnShabats.r27 (.seq (.seq A_laws_FnShabats.r28 (.seq A_laws_FnShabats.r29 (.cond (.t 197) (.seq A_laws_FnShabats.r30 .ret) .skip))) (.seq A_laws_FnShabats.r31 (.seq A_laws_FnShabats.r32 (.seq (.seq A_laws_FnShabats.r33 (.seq A_laws_FnShabats.r34 (.cond (.t 223) (.seq A_laws_FnShabats.r35 .ret) .skip))) (.seq (.seq A_laws_FnShabats.r36 (.cond (.t 225) (.seq A_laws_FnShabats.r37 (.seq A_laws_FnShabats.r38 (.cond (.t 236) (.seq A_laws_FnShabats.r39 .ret) .skip))) .skip)) (.seq (.seq A_laws_FnShabats.r40 (.cond (.t 238) (.seq A_laws_FnShabats.r41 (.seq A_laws_FnShabats.r42 (.cond (.t 249) (.seq A_laws_FnShabats.r43 .ret) .skip))) .skip)) (.seq (.seq A_laws_FnShabats.r44 (.cond (.t 251) (.seq A_laws_FnShabats.r45 (.seq A_laws_FnShabats.r46 (.seq (.seq A_laws_FnShabats.r47 (.cond (.t 266) (.seq A_laws_FnShabats.r48 .ret) .skip)) (.seq A_laws_FnShabats.r49 (.cond (.t 270) (.seq A_laws_FnShabats.r50 (.seq A_laws_FnShabats.r51 (.seq A_laws_FnShabats.r52 (.seq A_laws_FnShabats.r53 (.cond (.t 304) (.seq A_laws_FnShabats.r54 .ret) .skip))))) .skip))))) .skip)) (.seq (.seq A_laws_FnShabats.r55 (.cond (.t 322) (.seq A_laws_FnShabats.r56 .ret) .skip)) (.seq (.seq A_laws_FnShabats.r57 (.cond (.t 324) (.seq A_laws_FnShabats.r58 .ret) .skip)) (.seq A_laws_FnShabats.r59 (.seq A_laws_FnShabats.r60 (.seq A_laws_FnShabats.r61 .ret)))))))))))))))))))))))))))))⟩
/-! spec_IsPolynomial -/
def A_spec_IsPolynomial.r0 : ACode := (.region none [⟨some 2, .move (.c (.bool false)), none⟩])
def A_spec_IsPolynomial.r1 : ACode := (.region none [⟨some 3, .move (.t 0), none⟩,
    ⟨some 4, .call 56 [(.t 3)], none⟩,
    ⟨some 2, .move (.t 4), none⟩])
def A_spec_IsPolynomial : AFunc := ⟨[.tmp 2], (.seq A_spec_IsPolynomial.r0 (.seq A_spec_IsPolynomial.r1 .ret))⟩
/-! laws_toInt64S -/
def A_laws_toInt64S.r0 : ACode := (.region none [⟨some 2, .move (.c (.slice none 0 0)), none⟩])
def A_laws_toInt64S.r1 : ACode := (.region none [⟨some 5, .move (.t 0), none⟩,
    ⟨some 6, .len (.t 5), none⟩,
    ⟨some 7, .makeSlice 1 8 [.int .i64 0] (.t 6) (.t 6), none⟩,
    ⟨some 3, .move (.t 7), none⟩])
def A_laws_toInt64S.r2 : ACode := (.region none [⟨some 4, .move (.c (.int .i64 0)), none⟩])
def A_laws_toInt64S.r3 : ACode := (.region none [⟨some 8, .move (.t 4), none⟩,
    ⟨some 9, .move (.t 0), none⟩,
    ⟨some 10, .len (.t 9), none⟩,
    ⟨some 11, .bin .lss (.t 8) (.t 10), none⟩])
def A_laws_toInt64S.r5 : ACode := (.region none [⟨some 14, .move (.t 3), none⟩,
    ⟨some 15, .move (.t 4), none⟩,
    ⟨some 16, .move (.t 0), none⟩,
    ⟨some 17, .move (.t 4), none⟩,
    ⟨some 18, .indexAddr none 1 (.t 16) (.t 17), none⟩,
    ⟨some 19, .load none (.t 18), none⟩,
    ⟨some 20, .indexAddr none 1 (.t 14) (.t 15), none⟩,
    ⟨none, .store 1 (.t 20) (.t 19), none⟩])
def A_laws_toInt64S.r4 : ACode := (.region none [⟨some 12, .move (.t 4), none⟩,
    ⟨some 13, .bin .add (.t 12) (.c (.int .i64 1)), none⟩,
    ⟨some 4, .move (.t 13), none⟩])
def A_laws_toInt64S.l0 : ACode := (.seq (.seq A_laws_toInt64S.r3 (.cond (.t 11) .skip (.exit 0))) (.seq (.block 1 A_laws_toInt64S.r5) A_laws_toInt64S.r4))
def A_laws_toInt64S.r6 : ACode := (.region none [⟨some 21, .move (.t 3), none⟩,
    ⟨some 2, .move (.t 21), none⟩])
def A_laws_toInt64S : AFunc := ⟨[.tmp 2], (.seq A_laws_toInt64S.r0 (.seq A_laws_toInt64S.r1 (.seq (.seq A_laws_toInt64S.r2 (.block 0 (.loop A_laws_toInt64S.l0))) (.seq A_laws_toInt64S.r6 .ret))))⟩
/-! impl_IsPolynomial -/
def A_impl_IsPolynomial.r0 : ACode := (.region none [⟨some 2, .move (.c (.bool false)), none⟩])
def A_impl_IsPolynomial.r1 : ACode := (.region none [⟨some 5, .move (.t 0), none⟩,
    ⟨some 6, .len (.t 5), none⟩,
    ⟨some 7, .bin .gtr (.t 6) (.c (.int .i64 17)), none⟩,
    ⟨some 8, .move (.t 7), none⟩,
    ⟨some 9, .move (.t 0), some (8, false)⟩,
    ⟨some 10, .len (.t 9), some (8, false)⟩,
    ⟨some 11, .bin .gtr (.t 10) (.c (.int .i64 0)), some (8, false)⟩,
    ⟨some 12, .move (.t 11), some (8, false)⟩,
    ⟨some 13, .move (.t 0), some (12, true)⟩,
    ⟨some 14, .move (.t 0), some (12, true)⟩,
    ⟨some 15, .len (.t 14), some (12, true)⟩,
    ⟨some 16, .bin .sub (.t 15) (.c (.int .i64 1)), some (12, true)⟩,
    ⟨some 17, .indexAddr none 1 (.t 13) (.t 16), some (12, true)⟩,
    ⟨some 18, .load none (.t 17), some (12, true)⟩,
    ⟨some 19, .bin .eql (.t 18) (.c (.int .i64 0)), some (12, true)⟩,
    ⟨some 20, .pick (.t 12) (.t 19) (.c (.bool false)), some (8, false)⟩,
    ⟨some 21, .pick (.t 8) (.c (.bool true)) (.t 20), none⟩])
def A_impl_IsPolynomial.r2 : ACode := (.region none [⟨some 2, .move (.c (.bool false)), none⟩])
def A_impl_IsPolynomial.r3 : ACode := (.region none [⟨some 22, .move (.t 0), none⟩,
    ⟨some 23, .len (.t 22), none⟩,
    ⟨some 24, .move (.c (.int .i64 0)), none⟩])
def A_impl_IsPolynomial.r4 : ACode := (.region none [⟨some 25, .bin .lss (.t 24) (.t 23), none⟩])
def A_impl_IsPolynomial.r5 : ACode := (.region none [⟨some 26, .indexAddr none 1 (.t 22) (.t 24), none⟩,
    ⟨some 27, .load none (.t 26), none⟩,
    ⟨some 4, .move (.t 27), none⟩])
def A_impl_IsPolynomial.r6 : ACode := (.region none [⟨some 28, .move (.t 4), none⟩,
    ⟨some 29, .call 57 [(.t 28)], none⟩,
    ⟨some 30, .not (.t 29), none⟩])
def A_impl_IsPolynomial.r7 : ACode := (.region none [⟨some 2, .move (.c (.bool false)), none⟩])
def A_impl_IsPolynomial.r8 : ACode := (.region none [⟨some 31, .bin .add (.t 24) (.c (.int .i64 1)), none⟩,
    ⟨some 24, .move (.t 31), none⟩])
def A_impl_IsPolynomial.l0 : ACode := (.seq A_impl_IsPolynomial.r4 (.seq (.cond (.t 25) .skip (.exit 0)) (.seq (.block 1 (.seq A_impl_IsPolynomial.r5 (.seq A_impl_IsPolynomial.r6 (.cond (.t 30) (.seq A_impl_IsPolynomial.r7 .ret) .skip)))) A_impl_IsPolynomial.r8)))
def A_impl_IsPolynomial.r9 : ACode := (.region none [⟨some 2, .move (.c (.bool true)), none⟩])
def A_impl_IsPolynomial : AFunc := ⟨[.tmp 2], (.seq A_impl_IsPolynomial.r0 (.seq (.seq A_impl_IsPolynomial.r1 (.cond (.t 21) (.seq A_impl_IsPolynomial.r2 .ret) .skip)) (.seq (.seq A_impl_IsPolynomial.r3 (.block 0 (.loop A_impl_IsPolynomial.l0))) (.seq A_impl_IsPolynomial.r9 .ret))))⟩
/-! laws_eqInt64S -/
def A_laws_eqInt64S.r0 : ACode := (.region none [⟨some 4, .move (.c (.bool false)), none⟩])
def A_laws_eqInt64S.r1 : ACode := (.region none [⟨some 6, .move (.t 0), none⟩,
    ⟨some 7, .len (.t 6), none⟩,
    ⟨some 8, .move (.t 1), none⟩,
    ⟨some 9, .len (.t 8), none⟩,
    ⟨some 10, .bin .neq (.t 7) (.t 9), none⟩])
def A_laws_eqInt64S.r2 : ACode := (.region none [⟨some 4, .move (.c (.bool false)), none⟩])
def A_laws_eqInt64S.r3 : ACode := (.region none [⟨some 5, .move (.c (.int .i64 0)), none⟩])
def A_laws_eqInt64S.r4 : ACode := (.region none [⟨some 11, .move (.t 5), none⟩,
    ⟨some 12, .move (.t 0), none⟩,
    ⟨some 13, .len (.t 12), none⟩,
    ⟨some 14, .bin .lss (.t 11) (.t 13), none⟩])
def A_laws_eqInt64S.r6 : ACode := (.region (some 9) [⟨some 17, .move (.t 0), none⟩,
    ⟨some 18, .move (.t 5), none⟩,
    ⟨some 19, .indexAddr none 1 (.t 17) (.t 18), none⟩,
    ⟨some 20, .load none (.t 19), none⟩,
    ⟨some 21, .move (.t 1), none⟩,
    ⟨some 22, .move (.t 5), none⟩,
    ⟨some 23, .indexAddr none 1 (.t 21) (.t 22), none⟩,
    ⟨some 24, .load none (.t 23), none⟩,
    ⟨some 25, .bin .neq (.t 20) (.t 24), none⟩])
def A_laws_eqInt64S.r7 : ACode := (.region none [⟨some 4, .move (.c (.bool false)), none⟩])
def A_laws_eqInt64S.r5 : ACode := (.region none [⟨some 15, .move (.t 5), none⟩,
    ⟨some 16, .bin .add (.t 15) (.c (.int .i64 1)), none⟩,
    ⟨some 5, .move (.t 16), none⟩])
def A_laws_eqInt64S.l0 : ACode := (.seq (.seq A_laws_eqInt64S.r4 (.cond (.t 14) .skip (.exit 0))) (.seq (.block 1 (.seq A_laws_eqInt64S.r6 (.cond (.t 25) (.seq A_laws_eqInt64S.r7 .ret) .skip))) A_laws_eqInt64S.r5))
def A_laws_eqInt64S.r8 : ACode := (.region none [⟨some 4, .move (.c (.bool true)), none⟩])
def A_laws_eqInt64S : AFunc := ⟨[.tmp 4], (.seq A_laws_eqInt64S.r0 (.seq (.seq A_laws_eqInt64S.r1 (.cond (.t 10) (.seq A_laws_eqInt64S.r2 .ret) .skip)) (.seq (.seq A_laws_eqInt64S.r3 (.block 0 (.loop A_laws_eqInt64S.l0))) (.seq A_laws_eqInt64S.r8 .ret))))⟩
/-! spec_StarPolynomial -/
def A_spec_StarPolynomial.r0 : ACode := (.region none [⟨some 2, .move (.c (.slice none 0 0)), none⟩,
    ⟨some 3, .move (.c (.int .i64 0)), none⟩])
def A_spec_StarPolynomial.r1 : ACode := (.region none [⟨some 4, .move (.t 0), none⟩,
    ⟨some 5, .call 58 [(.t 4), (.c (.int .i64 1)), (.c (.int .i64 16))], none⟩,
    ⟨some 6, .not (.t 5), none⟩])
def A_spec_StarPolynomial.r2 : ACode := (.region none [⟨some 2, .move (.c (.slice none 0 0)), none⟩,
    ⟨some 3, .move (.c (.int .i64 2)), none⟩])
def A_spec_StarPolynomial.r3 : ACode := (.region none [⟨some 7, .move (.t 0), none⟩,
    ⟨some 8, .call 59 [(.c (.int .i64 1)), (.t 7)], none⟩,
    ⟨some 2, .move (.t 8), none⟩,
    ⟨some 3, .move (.c (.int .i64 0)), none⟩])
def A_spec_StarPolynomial : AFunc := ⟨[.tmp 2, .tmp 3], (.seq A_spec_StarPolynomial.r0 (.seq (.seq A_spec_StarPolynomial.r1 (.cond (.t 6) (.seq A_spec_StarPolynomial.r2 .ret) .skip)) (.seq A_spec_StarPolynomial.r3 .ret)))⟩
/-! impl_StarPolynomial -/
def A_impl_StarPolynomial.r0 : ACode := (.region none [⟨some 2, .move (.c (.slice none 0 0)), none⟩,
    ⟨some 3, .move (.c (.int .i64 0)), none⟩])
def A_impl_StarPolynomial.r1 : ACode := (.region none [⟨some 5, .move (.t 0), none⟩,
    ⟨some 6, .call 60 [(.t 5)], none⟩,
    ⟨some 7, .not (.t 6), none⟩])
def A_impl_StarPolynomial.r2 : ACode := (.region none [⟨some 2, .move (.c (.slice none 0 0)), none⟩,
    ⟨some 3, .move (.c (.int .i64 2)), none⟩])
def A_impl_StarPolynomial.r3 : ACode := (.region none [⟨some 8, .move (.t 0), none⟩,
    ⟨some 9, .bin .add (.t 8) (.c (.int .i64 1)), none⟩,
    ⟨some 10, .makeSlice 1 8 [.int .i64 0] (.t 9) (.t 9), none⟩,
    ⟨some 4, .move (.t 10), none⟩])
def A_impl_StarPolynomial.r4 : ACode := (.region none [⟨some 11, .move (.t 4), none⟩,
    ⟨some 12, .move (.t 0), none⟩,
    ⟨some 13, .indexAddr none 1 (.t 11) (.t 12), none⟩,
    ⟨none, .store 1 (.t 13) (.c (.int .i64 1)), none⟩])
def A_impl_StarPolynomial.r5 : ACode := (.region none [⟨some 14, .move (.t 4), none⟩,
    ⟨some 2, .move (.t 14), none⟩,
    ⟨some 3, .move (.c (.int .i64 0)), none⟩])
def A_impl_StarPolynomial : AFunc := ⟨[.tmp 2, .tmp 3], (.seq A_impl_StarPolynomial.r0 (.seq (.seq A_impl_StarPolynomial.r1 (.cond (.t 7) (.seq A_impl_StarPolynomial.r2 .ret) .skip)) (.seq A_impl_StarPolynomial.r3 (.seq A_impl_StarPolynomial.r4 (.seq A_impl_StarPolynomial.r5 .ret)))))⟩
/-! laws_markInt64S -/
def A_laws_markInt64S.r0 : ACode := (.region none [⟨some 4, .move (.c (.int .i64 0)), none⟩])
def A_laws_markInt64S.r1 : ACode := (.region none [⟨some 5, .move (.c (.int .i64 0)), none⟩])
def A_laws_markInt64S.r2 : ACode := (.region none [⟨some 6, .move (.t 5), none⟩,
    ⟨some 7, .move (.t 0), none⟩,
    ⟨some 8, .len (.t 7), none⟩,
    ⟨some 9, .bin .lss (.t 6) (.t 8), none⟩])
def A_laws_markInt64S.r4 : ACode := (.region none [⟨some 12, .move (.t 0), none⟩,
    ⟨some 13, .move (.t 5), none⟩,
    ⟨some 14, .move (.t 1), none⟩,
    ⟨some 15, .indexAddr none 1 (.t 12) (.t 13), none⟩,
    ⟨none, .store 1 (.t 15) (.t 14), none⟩])
def A_laws_markInt64S.r5 : ACode := (.region none [⟨some 16, .move (.t 1), none⟩,
    ⟨some 17, .bin .add (.t 16) (.c (.int .i64 1)), none⟩,
    ⟨some 1, .move (.t 17), none⟩])
def A_laws_markInt64S.r3 : ACode := (.region none [⟨some 10, .move (.t 5), none⟩,
    ⟨some 11, .bin .add (.t 10) (.c (.int .i64 1)), none⟩,
    ⟨some 5, .move (.t 11), none⟩])
def A_laws_markInt64S.l0 : ACode := (.seq (.seq A_laws_markInt64S.r2 (.cond (.t 9) .skip (.exit 0))) (.seq (.block 1 (.seq A_laws_markInt64S.r4 A_laws_markInt64S.r5)) A_laws_markInt64S.r3))
def A_laws_markInt64S.r6 : ACode := (.region none [⟨some 18, .move (.t 1), none⟩,
    ⟨some 4, .move (.t 18), none⟩])
def A_laws_markInt64S : AFunc := ⟨[.tmp 4], (.seq A_laws_markInt64S.r0 (.seq (.seq A_laws_markInt64S.r1 (.block 0 (.loop A_laws_markInt64S.l0))) (.seq A_laws_markInt64S.r6 .ret)))⟩
/-! laws_heldInt64S -/
def A_laws_heldInt64S.r0 : ACode := (.region none [⟨some 4, .move (.c (.int .i64 0)), none⟩])
def A_laws_heldInt64S.r1 : ACode := (.region none [⟨some 5, .move (.c (.int .i64 0)), none⟩])
def A_laws_heldInt64S.r2 : ACode := (.region none [⟨some 6, .move (.t 5), none⟩,
    ⟨some 7, .move (.t 0), none⟩,
    ⟨some 8, .len (.t 7), none⟩,
    ⟨some 9, .bin .lss (.t 6) (.t 8), none⟩])
def A_laws_heldInt64S.r4 : ACode := (.region none [⟨some 12, .move (.t 0), none⟩,
    ⟨some 13, .move (.t 5), none⟩,
    ⟨some 14, .indexAddr none 1 (.t 12) (.t 13), none⟩,
    ⟨some 15, .load none (.t 14), none⟩,
    ⟨some 16, .move (.t 1), none⟩,
    ⟨some 17, .bin .neq (.t 15) (.t 16), none⟩])
def A_laws_heldInt64S.r5 : ACode := (.region none [⟨some 4, .move (.c (.int .i64 (-1))), none⟩])
def A_laws_heldInt64S.r6 : ACode := (.region none [⟨some 18, .move (.t 1), none⟩,
    ⟨some 19, .bin .add (.t 18) (.c (.int .i64 1)), none⟩,
    ⟨some 1, .move (.t 19), none⟩])
def A_laws_heldInt64S.r3 : ACode := (.region none [⟨some 10, .move (.t 5), none⟩,
    ⟨some 11, .bin .add (.t 10) (.c (.int .i64 1)), none⟩,
    ⟨some 5, .move (.t 11), none⟩])
def A_laws_heldInt64S.l0 : ACode := (.seq (.seq A_laws_heldInt64S.r2 (.cond (.t 9) .skip (.exit 0))) (.seq (.block 1 (.seq (.seq A_laws_heldInt64S.r4 (.cond (.t 17) (.seq A_laws_heldInt64S.r5 .ret) .skip)) A_laws_heldInt64S.r6)) A_laws_heldInt64S.r3))
def A_laws_heldInt64S.r7 : ACode := (.region none [⟨some 20, .move (.t 1), none⟩,
    ⟨some 4, .move (.t 20), none⟩])
def A_laws_heldInt64S : AFunc := ⟨[.tmp 4], (.seq A_laws_heldInt64S.r0 (.seq (.seq A_laws_heldInt64S.r1 (.block 0 (.loop A_laws_heldInt64S.l0))) (.seq A_laws_heldInt64S.r7 .ret)))⟩
/-! spec_ValueOf -/
def A_spec_ValueOf.r0 : ACode := (.region none [⟨some 4, .move (.c (.int .i64 0)), none⟩,
    ⟨some 5, .move (.c (.int .i64 0)), none⟩])
def A_spec_ValueOf.r1 : ACode := (.region none [⟨some 7, .move (.t 0), none⟩,
    ⟨some 8, .call 56 [(.t 7)], none⟩,
    ⟨some 9, .not (.t 8), none⟩,
    ⟨some 6, .move (.t 9), none⟩])
def A_spec_ValueOf.r2 : ACode := (.region none [⟨some 4, .move (.c (.int .i64 0)), none⟩,
    ⟨some 5, .move (.c (.int .i64 1)), none⟩])
def A_spec_ValueOf.r3 : ACode := (.region none [⟨some 11, .move (.t 1), none⟩,
    ⟨some 12, .call 58 [(.t 11), (.c (.int .i64 0)), (.c (.int .i64 10006))], none⟩,
    ⟨some 13, .not (.t 12), none⟩,
    ⟨some 10, .move (.t 13), none⟩])
def A_spec_ValueOf.r4 : ACode := (.region none [⟨some 4, .move (.c (.int .i64 0)), none⟩,
    ⟨some 5, .move (.c (.int .i64 2)), none⟩])
def A_spec_ValueOf.r5 : ACode := (.region none [⟨some 14, .move (.t 0), none⟩,
    ⟨some 15, .move (.t 1), none⟩,
    ⟨some 16, .call 61 [(.t 14), (.t 15)], none⟩,
    ⟨some 4, .move (.t 16), none⟩,
    ⟨some 5, .move (.c (.int .i64 0)), none⟩])
def A_spec_ValueOf : AFunc := ⟨[.tmp 4, .tmp 5], (.seq A_spec_ValueOf.r0 (.seq (.block 0 (.seq A_spec_ValueOf.r1 (.cond (.t 6) (.seq A_spec_ValueOf.r2 .ret) (.seq A_spec_ValueOf.r3 (.cond (.t 10) (.seq A_spec_ValueOf.r4 .ret) .skip))))) (.seq A_spec_ValueOf.r5 .ret)))⟩
/-! impl_ValueOf -/
def A_impl_ValueOf.r0 : ACode := (.region none [⟨some 4, .move (.c (.int .i64 0)), none⟩,
    ⟨some 5, .move (.c (.int .i64 0)), none⟩])
def A_impl_ValueOf.r1 : ACode := (.region none [⟨some 9, .move (.t 0), none⟩,
    ⟨some 10, .call 2 [(.t 9)], none⟩,
    ⟨some 11, .not (.t 10), none⟩,
    ⟨some 8, .move (.t 11), none⟩])
def A_impl_ValueOf.r2 : ACode := (.region none [⟨some 4, .move (.c (.int .i64 0)), none⟩,
    ⟨some 5, .move (.c (.int .i64 1)), none⟩])
def A_impl_ValueOf.r3 : ACode := (.region none [⟨some 13, .move (.t 1), none⟩,
    ⟨some 14, .call 57 [(.t 13)], none⟩,
    ⟨some 15, .not (.t 14), none⟩,
    ⟨some 12, .move (.t 15), none⟩])
def A_impl_ValueOf.r4 : ACode := (.region none [⟨some 4, .move (.c (.int .i64 0)), none⟩,
    ⟨some 5, .move (.c (.int .i64 2)), none⟩])
def A_impl_ValueOf.r5 : ACode := (.region none [⟨some 6, .move (.c (.int .i64 0)), none⟩])
def A_impl_ValueOf.r6 : ACode := (.region none [⟨some 16, .move (.t 0), none⟩,
    ⟨some 17, .len (.t 16), none⟩,
    ⟨some 18, .bin .sub (.t 17) (.c (.int .i64 1)), none⟩,
    ⟨some 7, .move (.t 18), none⟩])
def A_impl_ValueOf.r7 : ACode := (.region none [⟨some 19, .move (.t 7), none⟩,
    ⟨some 20, .bin .geq (.t 19) (.c (.int .i64 0)), none⟩])
def A_impl_ValueOf.r9 : ACode := (.region none [⟨some 23, .move (.t 6), none⟩,
    ⟨some 24, .move (.t 1), none⟩,
    ⟨some 25, .bin .mul (.t 23) (.t 24), none⟩,
    ⟨some 26, .move (.t 0), none⟩,
    ⟨some 27, .move (.t 7), none⟩,
    ⟨some 28, .indexAddr none 1 (.t 26) (.t 27), none⟩,
    ⟨some 29, .load none (.t 28), none⟩,
    ⟨some 30, .bin .add (.t 25) (.t 29), none⟩,
    ⟨some 31, .bin .rem (.t 30) (.c (.int .i64 10007)), none⟩,
    ⟨some 6, .move (.t 31), none⟩])
def A_impl_ValueOf.r8 : ACode := (.region none [⟨some 21, .move (.t 7), none⟩,
    ⟨some 22, .bin .sub (.t 21) (.c (.int .i64 1)), none⟩,
    ⟨some 7, .move (.t 22), none⟩])
def A_impl_ValueOf.l0 : ACode := (.seq (.seq A_impl_ValueOf.r7 (.cond (.t 20) .skip (.exit 1))) (.seq (.block 2 A_impl_ValueOf.r9) A_impl_ValueOf.r8))
def A_impl_ValueOf.r10 : ACode := (.region none [⟨some 32, .move (.t 6), none⟩,
    ⟨some 4, .move (.t 32), none⟩,
    ⟨some 5, .move (.c (.int .i64 0)), none⟩])
def A_impl_ValueOf : AFunc := ⟨[.tmp 4, .tmp 5], (.seq A_impl_ValueOf.r0 (.seq (.block 0 (.seq A_impl_ValueOf.r1 (.cond (.t 8) (.seq A_impl_ValueOf.r2 .ret) (.seq A_impl_ValueOf.r3 (.cond (.t 12) (.seq A_impl_ValueOf.r4 .ret) .skip))))) (.seq A_impl_ValueOf.r5 (.seq (.seq A_impl_ValueOf.r6 (.block 1 (.loop A_impl_ValueOf.l0))) (.seq A_impl_ValueOf.r10 .ret)))))⟩
/-! spec_DerivativeOf -/
def A_spec_DerivativeOf.r0 : ACode := (.region none [⟨some 2, .move (.c (.slice none 0 0)), none⟩,
    ⟨some 3, .move (.c (.int .i64 0)), none⟩])
def A_spec_DerivativeOf.r1 : ACode := (.region none [⟨some 4, .move (.t 0), none⟩,
    ⟨some 5, .call 56 [(.t 4)], none⟩,
    ⟨some 6, .not (.t 5), none⟩])
def A_spec_DerivativeOf.r2 : ACode := (.region none [⟨some 2, .move (.c (.slice none 0 0)), none⟩,
    ⟨some 3, .move (.c (.int .i64 1)), none⟩])
def A_spec_DerivativeOf.r3 : ACode := (.region none [⟨some 7, .move (.t 0), none⟩,
    ⟨some 8, .call 62 [(.t 7)], none⟩,
    ⟨some 2, .move (.t 8), none⟩,
    ⟨some 3, .move (.c (.int .i64 0)), none⟩])
def A_spec_DerivativeOf : AFunc := ⟨[.tmp 2, .tmp 3], (.seq A_spec_DerivativeOf.r0 (.seq (.seq A_spec_DerivativeOf.r1 (.cond (.t 6) (.seq A_spec_DerivativeOf.r2 .ret) .skip)) (.seq A_spec_DerivativeOf.r3 .ret)))⟩
/-! impl_DerivativeOf -/
def A_impl_DerivativeOf.r0 : ACode := (.region none [⟨some 2, .move (.c (.slice none 0 0)), none⟩,
    ⟨some 3, .move (.c (.int .i64 0)), none⟩])
def A_impl_DerivativeOf.r1 : ACode := (.region none [⟨some 4, .move (.t 0), none⟩,
    ⟨some 5, .call 2 [(.t 4)], none⟩,
    ⟨some 6, .not (.t 5), none⟩])
def A_impl_DerivativeOf.r2 : ACode := (.region none [⟨some 2, .move (.c (.slice none 0 0)), none⟩,
    ⟨some 3, .move (.c (.int .i64 1)), none⟩])
def A_impl_DerivativeOf.r3 : ACode := (.region none [⟨some 7, .move (.t 0), none⟩,
    ⟨some 8, .call 63 [(.t 7)], none⟩,
    ⟨some 2, .move (.t 8), none⟩,
    ⟨some 3, .move (.c (.int .i64 0)), none⟩])
def A_impl_DerivativeOf : AFunc := ⟨[.tmp 2, .tmp 3], (.seq A_impl_DerivativeOf.r0 (.seq (.seq A_impl_DerivativeOf.r1 (.cond (.t 6) (.seq A_impl_DerivativeOf.r2 .ret) .skip)) (.seq A_impl_DerivativeOf.r3 .ret)))⟩
/-! spec_CountRooted -/
def A_spec_CountRooted.r0 : ACode := (.region none [⟨some 4, .move (.c (.int .i64 0)), none⟩,
    ⟨some 5, .move (.c (.int .i64 0)), none⟩])
def A_spec_CountRooted.r1 : ACode := (.region none [⟨some 11, .move (.t 0), none⟩,
    ⟨some 12, .move (.t 1), none⟩,
    ⟨some 13, .call 64 [(.t 11), (.t 12)], none⟩,
    ⟨some 10, .move (.t 13), none⟩,
    ⟨some 14, .extract (.t 10) 0, none⟩,
    ⟨some 15, .extract (.t 10) 1, none⟩,
    ⟨some 6, .move (.t 14), none⟩,
    ⟨some 7, .move (.t 15), none⟩])
def A_spec_CountRooted.r2 : ACode := (.region none [⟨some 16, .move (.t 7), none⟩,
    ⟨some 17, .not (.t 16), none⟩])
def A_spec_CountRooted.r3 : ACode := (.region none [⟨some 4, .move (.c (.int .i64 0)), none⟩,
    ⟨some 5, .move (.c (.int .i64 2)), none⟩])
def A_spec_CountRooted.r4 : ACode := (.region none [⟨some 18, .move (.t 0), none⟩,
    ⟨some 19, .len (.t 18), none⟩,
    ⟨some 20, .move (.t 1), none⟩,
    ⟨some 21, .len (.t 20), none⟩,
    ⟨some 8, .move (.t 19), none⟩,
    ⟨some 9, .move (.t 21), none⟩])
def A_spec_CountRooted.r5 : ACode := (.region none [⟨some 22, .move (.t 8), none⟩,
    ⟨some 23, .move (.t 9), none⟩,
    ⟨some 24, .bin .add (.t 22) (.t 23), none⟩,
    ⟨some 25, .move (.t 6), none⟩,
    ⟨some 26, .bin .add (.t 25) (.c (.int .i64 1)), none⟩,
    ⟨some 27, .bin .neq (.t 24) (.t 26), none⟩])
def A_spec_CountRooted.r6 : ACode := (.region none [⟨some 4, .move (.c (.int .i64 0)), none⟩,
    ⟨some 5, .move (.c (.int .i64 0)), none⟩])
def A_spec_CountRooted.r7 : ACode := (.region none [⟨some 28, .move (.t 6), none⟩,
    ⟨some 29, .move (.t 8), none⟩,
    ⟨some 30, .bin .sub (.t 29) (.c (.int .i64 1)), none⟩,
    ⟨some 31, .call 65 [(.t 30)], none⟩,
    ⟨some 32, .bin .mul (.t 28) (.t 31), none⟩,
    ⟨some 33, .move (.t 9), none⟩,
    ⟨some 34, .bin .sub (.t 33) (.c (.int .i64 1)), none⟩,
    ⟨some 35, .call 65 [(.t 34)], none⟩,
    ⟨some 36, .bin .mul (.t 32) (.t 35), none⟩,
    ⟨some 37, .move (.t 0), none⟩,
    ⟨some 38, .call 66 [(.t 37)], none⟩,
    ⟨some 39, .move (.t 1), none⟩,
    ⟨some 40, .call 66 [(.t 39)], none⟩,
    ⟨some 41, .bin .mul (.t 38) (.t 40), none⟩,
    ⟨some 42, .bin .quo (.t 36) (.t 41), none⟩,
    ⟨some 4, .move (.t 42), none⟩,
    ⟨some 5, .move (.c (.int .i64 0)), none⟩])
def A_spec_CountRooted : AFunc := ⟨[.tmp 4, .tmp 5], (.seq A_spec_CountRooted.r0 (.seq A_spec_CountRooted.r1 (.seq (.seq A_spec_CountRooted.r2 (.cond (.t 17) (.seq A_spec_CountRooted.r3 .ret) .skip)) (.seq A_spec_CountRooted.r4 (.seq (.seq A_spec_CountRooted.r5 (.cond (.t 27) (.seq A_spec_CountRooted.r6 .ret) .skip)) (.seq A_spec_CountRooted.r7 .ret))))))⟩
/-! impl_CountRooted -/
def A_impl_CountRooted.r0 : ACode := (.region none [⟨some 4, .move (.c (.int .i64 0)), none⟩,
    ⟨some 5, .move (.c (.int .i64 0)), none⟩])
def A_impl_CountRooted.r1 : ACode := (.region none [⟨some 9, .move (.t 0), none⟩,
    ⟨some 10, .move (.t 1), none⟩,
    ⟨some 11, .call 67 [(.t 9), (.t 10), (.c (.int .i64 16))], none⟩,
    ⟨some 12, .not (.t 11), none⟩])
def A_impl_CountRooted.r2 : ACode := (.region none [⟨some 4, .move (.c (.int .i64 0)), none⟩,
    ⟨some 5, .move (.c (.int .i64 2)), none⟩])
def A_impl_CountRooted.r3 : ACode := (.region none [⟨some 13, .move (.t 0), none⟩,
    ⟨some 14, .call 68 [(.t 13)], none⟩,
    ⟨some 15, .move (.t 0), none⟩,
    ⟨some 16, .len (.t 15), none⟩,
    ⟨some 17, .move (.t 1), none⟩,
    ⟨some 18, .len (.t 17), none⟩,
    ⟨some 6, .move (.t 14), none⟩,
    ⟨some 7, .move (.t 16), none⟩,
    ⟨some 8, .move (.t 18), none⟩])
def A_impl_CountRooted.r4 : ACode := (.region none [⟨some 19, .move (.t 7), none⟩,
    ⟨some 20, .move (.t 8), none⟩,
    ⟨some 21, .bin .add (.t 19) (.t 20), none⟩,
    ⟨some 22, .move (.t 6), none⟩,
    ⟨some 23, .bin .add (.t 22) (.c (.int .i64 1)), none⟩,
    ⟨some 24, .bin .neq (.t 21) (.t 23), none⟩])
def A_impl_CountRooted.r5 : ACode := (.region none [⟨some 4, .move (.c (.int .i64 0)), none⟩,
    ⟨some 5, .move (.c (.int .i64 0)), none⟩])
def A_impl_CountRooted.r6 : ACode := (.region none [⟨some 25, .move (.t 6), none⟩,
    ⟨some 26, .move (.t 7), none⟩,
    ⟨some 27, .bin .sub (.t 26) (.c (.int .i64 1)), none⟩,
    ⟨some 28, .call 69 [(.t 27)], none⟩,
    ⟨some 29, .bin .mul (.t 25) (.t 28), none⟩,
    ⟨some 30, .move (.t 8), none⟩,
    ⟨some 31, .bin .sub (.t 30) (.c (.int .i64 1)), none⟩,
    ⟨some 32, .call 69 [(.t 31)], none⟩,
    ⟨some 33, .bin .mul (.t 29) (.t 32), none⟩,
    ⟨some 34, .move (.t 0), none⟩,
    ⟨some 35, .call 70 [(.t 34)], none⟩,
    ⟨some 36, .move (.t 1), none⟩,
    ⟨some 37, .call 70 [(.t 36)], none⟩,
    ⟨some 38, .bin .mul (.t 35) (.t 37), none⟩,
    ⟨some 39, .bin .quo (.t 33) (.t 38), none⟩,
    ⟨some 4, .move (.t 39), none⟩,
    ⟨some 5, .move (.c (.int .i64 0)), none⟩])
def A_impl_CountRooted : AFunc := ⟨[.tmp 4, .tmp 5], (.seq A_impl_CountRooted.r0 (.seq (.seq A_impl_CountRooted.r1 (.cond (.t 12) (.seq A_impl_CountRooted.r2 .ret) .skip)) (.seq A_impl_CountRooted.r3 (.seq (.seq A_impl_CountRooted.r4 (.cond (.t 24) (.seq A_impl_CountRooted.r5 .ret) .skip)) (.seq A_impl_CountRooted.r6 .ret)))))⟩
/-! spec_AddPolynomials -/
def A_spec_AddPolynomials.r0 : ACode := (.region none [⟨some 4, .move (.c (.slice none 0 0)), none⟩,
    ⟨some 5, .move (.c (.int .i64 0)), none⟩])
def A_spec_AddPolynomials.r1 : ACode := (.region none [⟨some 7, .move (.t 0), none⟩,
    ⟨some 8, .move (.t 1), none⟩,
    ⟨some 9, .call 71 [(.t 7), (.t 8)], none⟩,
    ⟨some 6, .move (.t 9), none⟩])
def A_spec_AddPolynomials.r2 : ACode := (.region none [⟨some 10, .move (.t 6), none⟩,
    ⟨some 11, .bin .neq (.t 10) (.c (.int .i64 0)), none⟩])
def A_spec_AddPolynomials.r3 : ACode := (.region none [⟨some 12, .move (.t 6), none⟩,
    ⟨some 4, .move (.c (.slice none 0 0)), none⟩,
    ⟨some 5, .move (.t 12), none⟩])
def A_spec_AddPolynomials.r4 : ACode := (.region none [⟨some 13, .move (.t 0), none⟩,
    ⟨some 14, .move (.t 1), none⟩,
    ⟨some 15, .call 72 [(.t 13), (.t 14), (.c (.int .i64 1))], none⟩,
    ⟨some 4, .move (.t 15), none⟩,
    ⟨some 5, .move (.c (.int .i64 0)), none⟩])
def A_spec_AddPolynomials : AFunc := ⟨[.tmp 4, .tmp 5], (.seq A_spec_AddPolynomials.r0 (.seq (.seq A_spec_AddPolynomials.r1 (.seq A_spec_AddPolynomials.r2 (.cond (.t 11) (.seq A_spec_AddPolynomials.r3 .ret) .skip))) (.seq A_spec_AddPolynomials.r4 .ret)))⟩
/-! impl_AddPolynomials -/
def A_impl_AddPolynomials.r0 : ACode := (.region none [⟨some 4, .move (.c (.slice none 0 0)), none⟩,
    ⟨some 5, .move (.c (.int .i64 0)), none⟩])
def A_impl_AddPolynomials.r1 : ACode := (.region none [⟨some 6, .move (.t 0), none⟩,
    ⟨some 7, .call 2 [(.t 6)], none⟩,
    ⟨some 8, .not (.t 7), none⟩,
    ⟨some 9, .move (.t 8), none⟩,
    ⟨some 10, .move (.t 1), some (9, false)⟩,
    ⟨some 11, .call 2 [(.t 10)], some (9, false)⟩,
    ⟨some 12, .not (.t 11), some (9, false)⟩,
    ⟨some 13, .pick (.t 9) (.c (.bool true)) (.t 12), none⟩])
def A_impl_AddPolynomials.r2 : ACode := (.region none [⟨some 4, .move (.c (.slice none 0 0)), none⟩,
    ⟨some 5, .move (.c (.int .i64 1)), none⟩])
def A_impl_AddPolynomials.r3 : ACode := (.region none [⟨some 14, .move (.t 0), none⟩,
    ⟨some 15, .move (.t 1), none⟩,
    ⟨some 16, .call 73 [(.t 14), (.t 15)], none⟩,
    ⟨some 4, .move (.t 16), none⟩,
    ⟨some 5, .move (.c (.int .i64 0)), none⟩])
def A_impl_AddPolynomials : AFunc := ⟨[.tmp 4, .tmp 5], (.seq A_impl_AddPolynomials.r0 (.seq (.seq A_impl_AddPolynomials.r1 (.cond (.t 13) (.seq A_impl_AddPolynomials.r2 .ret) .skip)) (.seq A_impl_AddPolynomials.r3 .ret)))⟩
/-! spec_MultiplyPolynomials -/
def A_spec_MultiplyPolynomials.r0 : ACode := (.region none [⟨some 4, .move (.c (.slice none 0 0)), none⟩,
    ⟨some 5, .move (.c (.int .i64 0)), none⟩])
def A_spec_MultiplyPolynomials.r1 : ACode := (.region none [⟨some 8, .move (.t 0), none⟩,
    ⟨some 9, .move (.t 1), none⟩,
    ⟨some 10, .call 71 [(.t 8), (.t 9)], none⟩,
    ⟨some 6, .move (.t 10), none⟩])
def A_spec_MultiplyPolynomials.r2 : ACode := (.region none [⟨some 11, .move (.t 6), none⟩,
    ⟨some 12, .bin .neq (.t 11) (.c (.int .i64 0)), none⟩])
def A_spec_MultiplyPolynomials.r3 : ACode := (.region none [⟨some 13, .move (.t 6), none⟩,
    ⟨some 4, .move (.c (.slice none 0 0)), none⟩,
    ⟨some 5, .move (.t 13), none⟩])
def A_spec_MultiplyPolynomials.r4 : ACode := (.region none [⟨some 14, .move (.t 0), none⟩,
    ⟨some 15, .move (.t 1), none⟩,
    ⟨some 16, .call 74 [(.t 14), (.t 15)], none⟩,
    ⟨some 7, .move (.t 16), none⟩])
def A_spec_MultiplyPolynomials.r5 : ACode := (.region none [⟨some 17, .move (.t 7), none⟩,
    ⟨some 18, .len (.t 17), none⟩,
    ⟨some 19, .bin .gtr (.t 18) (.c (.int .i64 17)), none⟩])
def A_spec_MultiplyPolynomials.r6 : ACode := (.region none [⟨some 4, .move (.c (.slice none 0 0)), none⟩,
    ⟨some 5, .move (.c (.int .i64 3)), none⟩])
def A_spec_MultiplyPolynomials.r7 : ACode := (.region none [⟨some 20, .move (.t 7), none⟩,
    ⟨some 4, .move (.t 20), none⟩,
    ⟨some 5, .move (.c (.int .i64 0)), none⟩])
def A_spec_MultiplyPolynomials : AFunc := ⟨[.tmp 4, .tmp 5], (.seq A_spec_MultiplyPolynomials.r0 (.seq (.seq A_spec_MultiplyPolynomials.r1 (.seq A_spec_MultiplyPolynomials.r2 (.cond (.t 12) (.seq A_spec_MultiplyPolynomials.r3 .ret) .skip))) (.seq A_spec_MultiplyPolynomials.r4 (.seq (.seq A_spec_MultiplyPolynomials.r5 (.cond (.t 19) (.seq A_spec_MultiplyPolynomials.r6 .ret) .skip)) (.seq A_spec_MultiplyPolynomials.r7 .ret)))))⟩
/-! impl_MultiplyPolynomials -/
def A_impl_MultiplyPolynomials.r0 : ACode := (.region none [⟨some 4, .move (.c (.slice none 0 0)), none⟩,
    ⟨some 5, .move (.c (.int .i64 0)), none⟩])
def A_impl_MultiplyPolynomials.r1 : ACode := (.region none [⟨some 7, .move (.t 0), none⟩,
    ⟨some 8, .call 2 [(.t 7)], none⟩,
    ⟨some 9, .not (.t 8), none⟩,
    ⟨some 10, .move (.t 9), none⟩,
    ⟨some 11, .move (.t 1), some (10, false)⟩,
    ⟨some 12, .call 2 [(.t 11)], some (10, false)⟩,
    ⟨some 13, .not (.t 12), some (10, false)⟩,
    ⟨some 14, .pick (.t 10) (.c (.bool true)) (.t 13), none⟩])
def A_impl_MultiplyPolynomials.r2 : ACode := (.region none [⟨some 4, .move (.c (.slice none 0 0)), none⟩,
    ⟨some 5, .move (.c (.int .i64 1)), none⟩])
def A_impl_MultiplyPolynomials.r3 : ACode := (.region none [⟨some 15, .move (.t 0), none⟩,
    ⟨some 16, .move (.t 1), none⟩,
    ⟨some 17, .call 75 [(.t 15), (.t 16)], none⟩,
    ⟨some 6, .move (.t 17), none⟩])
def A_impl_MultiplyPolynomials.r4 : ACode := (.region none [⟨some 18, .move (.t 6), none⟩,
    ⟨some 19, .len (.t 18), none⟩,
    ⟨some 20, .bin .gtr (.t 19) (.c (.int .i64 17)), none⟩])
def A_impl_MultiplyPolynomials.r5 : ACode := (.region none [⟨some 4, .move (.c (.slice none 0 0)), none⟩,
    ⟨some 5, .move (.c (.int .i64 3)), none⟩])
def A_impl_MultiplyPolynomials.r6 : ACode := (.region none [⟨some 21, .move (.t 6), none⟩,
    ⟨some 4, .move (.t 21), none⟩,
    ⟨some 5, .move (.c (.int .i64 0)), none⟩])
def A_impl_MultiplyPolynomials : AFunc := ⟨[.tmp 4, .tmp 5], (.seq A_impl_MultiplyPolynomials.r0 (.seq (.seq A_impl_MultiplyPolynomials.r1 (.cond (.t 14) (.seq A_impl_MultiplyPolynomials.r2 .ret) .skip)) (.seq A_impl_MultiplyPolynomials.r3 (.seq (.seq A_impl_MultiplyPolynomials.r4 (.cond (.t 20) (.seq A_impl_MultiplyPolynomials.r5 .ret) .skip)) (.seq A_impl_MultiplyPolynomials.r6 .ret)))))⟩
/-! spec_ChainPolynomial -/
def A_spec_ChainPolynomial.r0 : ACode := (.region none [⟨some 2, .move (.c (.slice none 0 0)), none⟩,
    ⟨some 3, .move (.c (.int .i64 0)), none⟩])
def A_spec_ChainPolynomial.r1 : ACode := (.region none [⟨some 4, .move (.t 0), none⟩,
    ⟨some 5, .call 58 [(.t 4), (.c (.int .i64 1)), (.c (.int .i64 16))], none⟩,
    ⟨some 6, .not (.t 5), none⟩])
def A_spec_ChainPolynomial.r2 : ACode := (.region none [⟨some 2, .move (.c (.slice none 0 0)), none⟩,
    ⟨some 3, .move (.c (.int .i64 2)), none⟩])
def A_spec_ChainPolynomial.r3 : ACode := (.region none [⟨some 7, .move (.t 0), none⟩,
    ⟨some 8, .call 76 [(.t 7)], none⟩,
    ⟨some 2, .move (.t 8), none⟩,
    ⟨some 3, .move (.c (.int .i64 0)), none⟩])
def A_spec_ChainPolynomial : AFunc := ⟨[.tmp 2, .tmp 3], (.seq A_spec_ChainPolynomial.r0 (.seq (.seq A_spec_ChainPolynomial.r1 (.cond (.t 6) (.seq A_spec_ChainPolynomial.r2 .ret) .skip)) (.seq A_spec_ChainPolynomial.r3 .ret)))⟩
/-! impl_ChainPolynomial -/
def A_impl_ChainPolynomial.r0 : ACode := (.region none [⟨some 2, .move (.c (.slice none 0 0)), none⟩,
    ⟨some 3, .move (.c (.int .i64 0)), none⟩])
def A_impl_ChainPolynomial.r1 : ACode := (.region none [⟨some 7, .move (.t 0), none⟩,
    ⟨some 8, .call 60 [(.t 7)], none⟩,
    ⟨some 9, .not (.t 8), none⟩])
def A_impl_ChainPolynomial.r2 : ACode := (.region none [⟨some 2, .move (.c (.slice none 0 0)), none⟩,
    ⟨some 3, .move (.c (.int .i64 2)), none⟩])
def A_impl_ChainPolynomial.r3 : ACode := (.region none [⟨some 10, .buildSlice 1 1 [.int .i64 0] [(0, 1, (.c (.int .i64 1)))], none⟩,
    ⟨some 11, .buildSlice 1 2 [.int .i64 0] [(0, 1, (.c (.int .i64 0))), (1, 1, (.c (.int .i64 1)))], none⟩,
    ⟨some 4, .move (.t 10), none⟩,
    ⟨some 5, .move (.t 11), none⟩])
def A_impl_ChainPolynomial.r4 : ACode := (.region none [⟨some 12, .move (.t 0), none⟩,
    ⟨some 13, .bin .sub (.t 12) (.c (.int .i64 1)), none⟩,
    ⟨some 14, .move (.c (.int .i64 0)), none⟩])
def A_impl_ChainPolynomial.r5 : ACode := (.region none [⟨some 15, .bin .lss (.t 14) (.t 13), none⟩])
def A_impl_ChainPolynomial.r6 : ACode := (.region none [⟨some 16, .buildSlice 1 2 [.int .i64 0] [(0, 1, (.c (.int .i64 0))), (1, 1, (.c (.int .i64 2)))], none⟩,
    ⟨some 17, .move (.t 5), none⟩,
    ⟨some 18, .call 75 [(.t 16), (.t 17)], none⟩,
    ⟨some 19, .move (.t 4), none⟩,
    ⟨some 20, .buildSlice 1 1 [.int .i64 0] [(0, 1, (.c (.int .i64 10006)))], none⟩,
    ⟨some 21, .call 75 [(.t 19), (.t 20)], none⟩,
    ⟨some 22, .call 73 [(.t 18), (.t 21)], none⟩,
    ⟨some 6, .move (.t 22), none⟩])
def A_impl_ChainPolynomial.r7 : ACode := (.region none [⟨some 23, .move (.t 5), none⟩,
    ⟨some 24, .move (.t 6), none⟩,
    ⟨some 4, .move (.t 23), none⟩,
    ⟨some 5, .move (.t 24), none⟩])
def A_impl_ChainPolynomial.r8 : ACode := (.region none [⟨some 25, .bin .add (.t 14) (.c (.int .i64 1)), none⟩,
    ⟨some 14, .move (.t 25), none⟩])
def A_impl_ChainPolynomial.l0 : ACode := (.seq A_impl_ChainPolynomial.r5 (.seq (.cond (.t 15) .skip (.exit 0)) (.seq (.block 1 (.seq A_impl_ChainPolynomial.r6 A_impl_ChainPolynomial.r7)) A_impl_ChainPolynomial.r8)))
def A_impl_ChainPolynomial.r9 : ACode := (.region none [⟨some 26, .move (.t 5), none⟩,
    ⟨some 2, .move (.t 26), none⟩,
    ⟨some 3, .move (.c (.int .i64 0)), none⟩])
def A_impl_ChainPolynomial : AFunc := ⟨[.tmp 2, .tmp 3], (.seq A_impl_ChainPolynomial.r0 (.seq (.seq A_impl_ChainPolynomial.r1 (.cond (.t 9) (.seq A_impl_ChainPolynomial.r2 .ret) .skip)) (.seq A_impl_ChainPolynomial.r3 (.seq (.seq A_impl_ChainPolynomial.r4 (.block 0 (.loop A_impl_ChainPolynomial.l0))) (.seq A_impl_ChainPolynomial.r9 .ret)))))⟩
/-! laws_szInt64SS -/
def A_laws_szInt64SS.r0 : ACode := (.region none [⟨some 4, .move (.c (.int .i64 0)), none⟩])
def A_laws_szInt64SS.r1 : ACode := (.region none [⟨some 6, .move (.t 1), none⟩,
    ⟨some 7, .move (.t 0), none⟩,
    ⟨some 8, .len (.t 7), none⟩,
    ⟨some 9, .bin .sub (.t 6) (.t 8), none⟩,
    ⟨some 1, .move (.t 9), none⟩])
def A_laws_szInt64SS.r2 : ACode := (.region none [⟨some 10, .move (.t 1), none⟩,
    ⟨some 11, .bin .lss (.t 10) (.c (.int .i64 0)), none⟩])
def A_laws_szInt64SS.r3 : ACode := (.region none [⟨some 4, .move (.c (.int .i64 (-1))), none⟩])
def A_laws_szInt64SS.r4 : ACode := (.region none [⟨some 5, .move (.c (.int .i64 0)), none⟩])
def A_laws_szInt64SS.r5 : ACode := (.region none [⟨some 12, .move (.t 5), none⟩,
    ⟨some 13, .move (.t 0), none⟩,
    ⟨some 14, .len (.t 13), none⟩,
    ⟨some 15, .bin .lss (.t 12) (.t 14), none⟩])
def A_laws_szInt64SS.r7 : ACode := (.region none [⟨some 18, .move (.t 0), none⟩,
    ⟨some 19, .move (.t 5), none⟩,
    ⟨some 20, .indexAddr none 1 (.t 18) (.t 19), none⟩,
    ⟨some 21, .load none (.t 20), none⟩,
    ⟨some 22, .move (.t 1), none⟩,
    ⟨some 23, .call 77 [(.t 21), (.t 22)], none⟩,
    ⟨some 1, .move (.t 23), none⟩])
def A_laws_szInt64SS.r8 : ACode := (.region none [⟨some 24, .move (.t 1), none⟩,
    ⟨some 25, .bin .lss (.t 24) (.c (.int .i64 0)), none⟩])
def A_laws_szInt64SS.r9 : ACode := (.region none [⟨some 4, .move (.c (.int .i64 (-1))), none⟩])
def A_laws_szInt64SS.r6 : ACode := (.region none [⟨some 16, .move (.t 5), none⟩,
    ⟨some 17, .bin .add (.t 16) (.c (.int .i64 1)), none⟩,
    ⟨some 5, .move (.t 17), none⟩])
def A_laws_szInt64SS.l0 : ACode := (.seq (.seq A_laws_szInt64SS.r5 (.cond (.t 15) .skip (.exit 0))) (.seq (.block 1 (.seq A_laws_szInt64SS.r7 (.seq A_laws_szInt64SS.r8 (.cond (.t 25) (.seq A_laws_szInt64SS.r9 .ret) .skip)))) A_laws_szInt64SS.r6))
def A_laws_szInt64SS.r10 : ACode := (.region none [⟨some 26, .move (.t 1), none⟩,
    ⟨some 4, .move (.t 26), none⟩])
def A_laws_szInt64SS : AFunc := ⟨[.tmp 4], (.seq A_laws_szInt64SS.r0 (.seq A_laws_szInt64SS.r1 (.seq (.seq A_laws_szInt64SS.r2 (.cond (.t 11) (.seq A_laws_szInt64SS.r3 .ret) .skip)) (.seq (.seq A_laws_szInt64SS.r4 (.block 0 (.loop A_laws_szInt64SS.l0))) (.seq A_laws_szInt64SS.r10 .ret)))))⟩
/-! spec_EulerOfPassport -/
def A_spec_EulerOfPassport.r0 : ACode := (.region none [⟨some 2, .move (.c (.int .i64 0)), none⟩,
    ⟨some 3, .move (.c (.int .i64 0)), none⟩])
def A_spec_EulerOfPassport.r1 : ACode := (.region none [⟨some 4, .move (.t 0), none⟩,
    ⟨some 5, .call 78 [(.t 4)], none⟩,
    ⟨some 6, .not (.t 5), none⟩])
def A_spec_EulerOfPassport.r2 : ACode := (.region none [⟨some 2, .move (.c (.int .i64 0)), none⟩,
    ⟨some 3, .move (.c (.int .i64 1)), none⟩])
def A_spec_EulerOfPassport.r3 : ACode := (.region (some 21) [⟨some 7, .move (.t 0), none⟩,
    ⟨some 8, .indexAddr none 1 (.t 7) (.c (.int .i64 0)), none⟩,
    ⟨some 9, .load none (.t 8), none⟩,
    ⟨some 10, .len (.t 9), none⟩,
    ⟨some 11, .move (.t 0), none⟩,
    ⟨some 12, .indexAddr none 1 (.t 11) (.c (.int .i64 1)), none⟩,
    ⟨some 13, .load none (.t 12), none⟩,
    ⟨some 14, .len (.t 13), none⟩,
    ⟨some 15, .bin .add (.t 10) (.t 14), none⟩,
    ⟨some 16, .move (.t 0), none⟩,
    ⟨some 17, .indexAddr none 1 (.t 16) (.c (.int .i64 2)), none⟩,
    ⟨some 18, .load none (.t 17), none⟩,
    ⟨some 19, .len (.t 18), none⟩,
    ⟨some 20, .bin .add (.t 15) (.t 19), none⟩,
    ⟨some 21, .move (.t 0), none⟩,
    ⟨some 22, .indexAddr none 1 (.t 21) (.c (.int .i64 0)), none⟩,
    ⟨some 23, .load none (.t 22), none⟩,
    ⟨some 24, .call 79 [(.t 23)], none⟩,
    ⟨some 25, .bin .sub (.t 20) (.t 24), none⟩,
    ⟨some 2, .move (.t 25), none⟩,
    ⟨some 3, .move (.c (.int .i64 0)), none⟩])
def A_spec_EulerOfPassport : AFunc := ⟨[.tmp 2, .tmp 3], (.seq A_spec_EulerOfPassport.r0 (.seq (.seq A_spec_EulerOfPassport.r1 (.cond (.t 6) (.seq A_spec_EulerOfPassport.r2 .ret) .skip)) (.seq A_spec_EulerOfPassport.r3 .ret)))⟩
/-! laws_toInt64SS -/
def A_laws_toInt64SS.r0 : ACode := (.region none [⟨some 2, .move (.c (.slice none 0 0)), none⟩])
def A_laws_toInt64SS.r1 : ACode := (.region none [⟨some 5, .move (.t 0), none⟩,
    ⟨some 6, .len (.t 5), none⟩,
    ⟨some 7, .makeSlice 1 24 [.slice none 0 0] (.t 6) (.t 6), none⟩,
    ⟨some 3, .move (.t 7), none⟩])
def A_laws_toInt64SS.r2 : ACode := (.region none [⟨some 4, .move (.c (.int .i64 0)), none⟩])
def A_laws_toInt64SS.r3 : ACode := (.region none [⟨some 8, .move (.t 4), none⟩,
    ⟨some 9, .move (.t 0), none⟩,
    ⟨some 10, .len (.t 9), none⟩,
    ⟨some 11, .bin .lss (.t 8) (.t 10), none⟩])
def A_laws_toInt64SS.r5 : ACode := (.region none [⟨some 14, .move (.t 3), none⟩,
    ⟨some 15, .move (.t 4), none⟩,
    ⟨some 16, .move (.t 0), none⟩,
    ⟨some 17, .move (.t 4), none⟩,
    ⟨some 18, .indexAddr none 1 (.t 16) (.t 17), none⟩,
    ⟨some 19, .load none (.t 18), none⟩,
    ⟨some 20, .call 0 [(.t 19)], none⟩,
    ⟨some 21, .indexAddr none 1 (.t 14) (.t 15), none⟩,
    ⟨none, .store 1 (.t 21) (.t 20), none⟩])
def A_laws_toInt64SS.r4 : ACode := (.region none [⟨some 12, .move (.t 4), none⟩,
    ⟨some 13, .bin .add (.t 12) (.c (.int .i64 1)), none⟩,
    ⟨some 4, .move (.t 13), none⟩])
def A_laws_toInt64SS.l0 : ACode := (.seq (.seq A_laws_toInt64SS.r3 (.cond (.t 11) .skip (.exit 0))) (.seq (.block 1 A_laws_toInt64SS.r5) A_laws_toInt64SS.r4))
def A_laws_toInt64SS.r6 : ACode := (.region none [⟨some 22, .move (.t 3), none⟩,
    ⟨some 2, .move (.t 22), none⟩])
def A_laws_toInt64SS : AFunc := ⟨[.tmp 2], (.seq A_laws_toInt64SS.r0 (.seq A_laws_toInt64SS.r1 (.seq (.seq A_laws_toInt64SS.r2 (.block 0 (.loop A_laws_toInt64SS.l0))) (.seq A_laws_toInt64SS.r6 .ret))))⟩
/-! impl_EulerOfPassport -/
def A_impl_EulerOfPassport.r0 : ACode := (.region none [⟨some 2, .move (.c (.int .i64 0)), none⟩,
    ⟨some 3, .move (.c (.int .i64 0)), none⟩])
def A_impl_EulerOfPassport.r1 : ACode := (.region none [⟨some 5, .move (.t 0), none⟩,
    ⟨some 6, .call 80 [(.t 5)], none⟩,
    ⟨some 4, .move (.t 6), none⟩])
def A_impl_EulerOfPassport.r2 : ACode := (.region none [⟨some 7, .move (.t 4), none⟩,
    ⟨some 8, .bin .eql (.t 7) (.c (.int .i64 0)), none⟩])
def A_impl_EulerOfPassport.r3 : ACode := (.region none [⟨some 2, .move (.c (.int .i64 0)), none⟩,
    ⟨some 3, .move (.c (.int .i64 1)), none⟩])
def A_impl_EulerOfPassport.r4 : ACode := (.region none [⟨some 9, .move (.t 0), none⟩,
    ⟨some 10, .move (.t 4), none⟩,
    ⟨some 11, .call 81 [(.t 9), (.t 10)], none⟩,
    ⟨some 2, .move (.t 11), none⟩,
    ⟨some 3, .move (.c (.int .i64 0)), none⟩])
def A_impl_EulerOfPassport : AFunc := ⟨[.tmp 2, .tmp 3], (.seq A_impl_EulerOfPassport.r0 (.seq A_impl_EulerOfPassport.r1 (.seq (.seq A_impl_EulerOfPassport.r2 (.cond (.t 8) (.seq A_impl_EulerOfPassport.r3 .ret) .skip)) (.seq A_impl_EulerOfPassport.r4 .ret))))⟩
/-! laws_eqInt64SS -/
def A_laws_eqInt64SS.r0 : ACode := (.region none [⟨some 4, .move (.c (.bool false)), none⟩])
def A_laws_eqInt64SS.r1 : ACode := (.region none [⟨some 6, .move (.t 0), none⟩,
    ⟨some 7, .len (.t 6), none⟩,
    ⟨some 8, .move (.t 1), none⟩,
    ⟨some 9, .len (.t 8), none⟩,
    ⟨some 10, .bin .neq (.t 7) (.t 9), none⟩])
def A_laws_eqInt64SS.r2 : ACode := (.region none [⟨some 4, .move (.c (.bool false)), none⟩])
def A_laws_eqInt64SS.r3 : ACode := (.region none [⟨some 5, .move (.c (.int .i64 0)), none⟩])
def A_laws_eqInt64SS.r4 : ACode := (.region none [⟨some 11, .move (.t 5), none⟩,
    ⟨some 12, .move (.t 0), none⟩,
    ⟨some 13, .len (.t 12), none⟩,
    ⟨some 14, .bin .lss (.t 11) (.t 13), none⟩])
def A_laws_eqInt64SS.r6 : ACode := (.region (some 10) [⟨some 17, .move (.t 0), none⟩,
    ⟨some 18, .move (.t 5), none⟩,
    ⟨some 19, .indexAddr none 1 (.t 17) (.t 18), none⟩,
    ⟨some 20, .load none (.t 19), none⟩,
    ⟨some 21, .move (.t 1), none⟩,
    ⟨some 22, .move (.t 5), none⟩,
    ⟨some 23, .indexAddr none 1 (.t 21) (.t 22), none⟩,
    ⟨some 24, .load none (.t 23), none⟩,
    ⟨some 25, .call 3 [(.t 20), (.t 24)], none⟩,
    ⟨some 26, .not (.t 25), none⟩])
def A_laws_eqInt64SS.r7 : ACode := (.region none [⟨some 4, .move (.c (.bool false)), none⟩])
def A_laws_eqInt64SS.r5 : ACode := (.region none [⟨some 15, .move (.t 5), none⟩,
    ⟨some 16, .bin .add (.t 15) (.c (.int .i64 1)), none⟩,
    ⟨some 5, .move (.t 16), none⟩])
def A_laws_eqInt64SS.l0 : ACode := (.seq (.seq A_laws_eqInt64SS.r4 (.cond (.t 14) .skip (.exit 0))) (.seq (.block 1 (.seq A_laws_eqInt64SS.r6 (.cond (.t 26) (.seq A_laws_eqInt64SS.r7 .ret) .skip))) A_laws_eqInt64SS.r5))
def A_laws_eqInt64SS.r8 : ACode := (.region none [⟨some 4, .move (.c (.bool true)), none⟩])
def A_laws_eqInt64SS : AFunc := ⟨[.tmp 4], (.seq A_laws_eqInt64SS.r0 (.seq (.seq A_laws_eqInt64SS.r1 (.cond (.t 10) (.seq A_laws_eqInt64SS.r2 .ret) .skip)) (.seq (.seq A_laws_eqInt64SS.r3 (.block 0 (.loop A_laws_eqInt64SS.l0))) (.seq A_laws_eqInt64SS.r8 .ret))))⟩
/-! spec_ForkPolynomial -/
def A_spec_ForkPolynomial.r0 : ACode := (.region none [⟨some 4, .move (.c (.slice none 0 0)), none⟩,
    ⟨some 5, .move (.c (.int .i64 0)), none⟩])
def A_spec_ForkPolynomial.r1 : ACode := (.region none [⟨some 6, .move (.t 0), none⟩,
    ⟨some 7, .call 58 [(.t 6), (.c (.int .i64 1)), (.c (.int .i64 16))], none⟩,
    ⟨some 8, .not (.t 7), none⟩,
    ⟨some 9, .move (.t 8), none⟩,
    ⟨some 10, .move (.t 1), some (9, false)⟩,
    ⟨some 11, .call 58 [(.t 10), (.c (.int .i64 1)), (.c (.int .i64 16))], some (9, false)⟩,
    ⟨some 12, .not (.t 11), some (9, false)⟩,
    ⟨some 13, .pick (.t 9) (.c (.bool true)) (.t 12), none⟩,
    ⟨some 14, .move (.t 13), none⟩,
    ⟨some 15, .move (.t 0), some (14, false)⟩,
    ⟨some 16, .move (.t 1), some (14, false)⟩,
    ⟨some 17, .bin .add (.t 15) (.t 16), some (14, false)⟩,
    ⟨some 18, .bin .gtr (.t 17) (.c (.int .i64 16)), some (14, false)⟩,
    ⟨some 19, .pick (.t 14) (.c (.bool true)) (.t 18), none⟩])
def A_spec_ForkPolynomial.r2 : ACode := (.region none [⟨some 4, .move (.c (.slice none 0 0)), none⟩,
    ⟨some 5, .move (.c (.int .i64 2)), none⟩])
def A_spec_ForkPolynomial.r3 : ACode := (.region none [⟨some 20, .move (.t 0), none⟩,
    ⟨some 21, .move (.t 1), none⟩,
    ⟨some 22, .call 82 [(.t 20), (.t 21)], none⟩,
    ⟨some 4, .move (.t 22), none⟩,
    ⟨some 5, .move (.c (.int .i64 0)), none⟩])
def A_spec_ForkPolynomial : AFunc := ⟨[.tmp 4, .tmp 5], (.seq A_spec_ForkPolynomial.r0 (.seq (.seq A_spec_ForkPolynomial.r1 (.cond (.t 19) (.seq A_spec_ForkPolynomial.r2 .ret) .skip)) (.seq A_spec_ForkPolynomial.r3 .ret)))⟩
/-! impl_ForkPolynomial -/
def A_impl_ForkPolynomial.r0 : ACode := (.region none [⟨some 4, .move (.c (.slice none 0 0)), none⟩,
    ⟨some 5, .move (.c (.int .i64 0)), none⟩])
def A_impl_ForkPolynomial.r1 : ACode := (.region none [⟨some 8, .move (.t 0), none⟩,
    ⟨some 9, .bin .lss (.t 8) (.c (.int .i64 1)), none⟩,
    ⟨some 10, .move (.t 9), none⟩,
    ⟨some 11, .move (.t 1), some (10, false)⟩,
    ⟨some 12, .bin .lss (.t 11) (.c (.int .i64 1)), some (10, false)⟩,
    ⟨some 13, .pick (.t 10) (.c (.bool true)) (.t 12), none⟩,
    ⟨some 14, .move (.t 13), none⟩,
    ⟨some 15, .move (.t 0), some (14, false)⟩,
    ⟨some 16, .bin .gtr (.t 15) (.c (.int .i64 16)), some (14, false)⟩,
    ⟨some 17, .pick (.t 14) (.c (.bool true)) (.t 16), none⟩,
    ⟨some 18, .move (.t 17), none⟩,
    ⟨some 19, .move (.t 1), some (18, false)⟩,
    ⟨some 20, .bin .gtr (.t 19) (.c (.int .i64 16)), some (18, false)⟩,
    ⟨some 21, .pick (.t 18) (.c (.bool true)) (.t 20), none⟩,
    ⟨some 22, .move (.t 21), none⟩,
    ⟨some 23, .move (.t 0), some (22, false)⟩,
    ⟨some 24, .move (.t 1), some (22, false)⟩,
    ⟨some 25, .bin .add (.t 23) (.t 24), some (22, false)⟩,
    ⟨some 26, .bin .gtr (.t 25) (.c (.int .i64 16)), some (22, false)⟩,
    ⟨some 27, .pick (.t 22) (.c (.bool true)) (.t 26), none⟩])
def A_impl_ForkPolynomial.r2 : ACode := (.region none [⟨some 4, .move (.c (.slice none 0 0)), none⟩,
    ⟨some 5, .move (.c (.int .i64 2)), none⟩])
def A_impl_ForkPolynomial.r3 : ACode := (.region none [⟨some 28, .buildSlice 1 1 [.int .i64 0] [(0, 1, (.c (.int .i64 1)))], none⟩,
    ⟨some 6, .move (.t 28), none⟩])
def A_impl_ForkPolynomial.r4 : ACode := (.region none [⟨some 29, .move (.t 0), none⟩,
    ⟨some 30, .move (.c (.int .i64 0)), none⟩])
def A_impl_ForkPolynomial.r5 : ACode := (.region none [⟨some 31, .bin .lss (.t 30) (.t 29), none⟩])
def A_impl_ForkPolynomial.r6 : ACode := (.region none [⟨some 32, .move (.t 6), none⟩,
    ⟨some 33, .buildSlice 1 2 [.int .i64 0] [(0, 1, (.c (.int .i64 0))), (1, 1, (.c (.int .i64 1)))], none⟩,
    ⟨some 34, .call 75 [(.t 32), (.t 33)], none⟩,
    ⟨some 6, .move (.t 34), none⟩])
def A_impl_ForkPolynomial.r7 : ACode := (.region none [⟨some 35, .bin .add (.t 30) (.c (.int .i64 1)), none⟩,
    ⟨some 30, .move (.t 35), none⟩])
def A_impl_ForkPolynomial.l0 : ACode := (.seq A_impl_ForkPolynomial.r5 (.seq (.cond (.t 31) .skip (.exit 0)) (.seq (.block 1 A_impl_ForkPolynomial.r6) A_impl_ForkPolynomial.r7)))
def A_impl_ForkPolynomial.r8 : ACode := (.region none [⟨some 36, .move (.t 1), none⟩,
    ⟨some 37, .move (.c (.int .i64 0)), none⟩])
def A_impl_ForkPolynomial.r9 : ACode := (.region none [⟨some 38, .bin .lss (.t 37) (.t 36), none⟩])
def A_impl_ForkPolynomial.r10 : ACode := (.region none [⟨some 39, .move (.t 6), none⟩,
    ⟨some 40, .buildSlice 1 2 [.int .i64 0] [(0, 1, (.c (.int .i64 1))), (1, 1, (.c (.int .i64 10006)))], none⟩,
    ⟨some 41, .call 75 [(.t 39), (.t 40)], none⟩,
    ⟨some 6, .move (.t 41), none⟩])
def A_impl_ForkPolynomial.r11 : ACode := (.region none [⟨some 42, .bin .add (.t 37) (.c (.int .i64 1)), none⟩,
    ⟨some 37, .move (.t 42), none⟩])
def A_impl_ForkPolynomial.l1 : ACode := (.seq A_impl_ForkPolynomial.r9 (.seq (.cond (.t 38) .skip (.exit 2)) (.seq (.block 3 A_impl_ForkPolynomial.r10) A_impl_ForkPolynomial.r11)))
def A_impl_ForkPolynomial.r12 : ACode := (.region none [⟨some 43, .move (.t 0), none⟩,
    ⟨some 44, .move (.t 1), none⟩,
    ⟨some 45, .bin .add (.t 43) (.t 44), none⟩,
    ⟨some 46, .move (.t 0), none⟩,
    ⟨some 47, .move (.t 1), none⟩,
    ⟨some 48, .bin .add (.t 46) (.t 47), none⟩,
    ⟨some 49, .call 83 [(.t 45), (.t 48)], none⟩,
    ⟨some 50, .move (.t 0), none⟩,
    ⟨some 51, .move (.t 0), none⟩,
    ⟨some 52, .call 83 [(.t 50), (.t 51)], none⟩,
    ⟨some 53, .move (.t 1), none⟩,
    ⟨some 54, .move (.t 1), none⟩,
    ⟨some 55, .call 83 [(.t 53), (.t 54)], none⟩,
    ⟨some 56, .bin .mul (.t 52) (.t 55), none⟩,
    ⟨some 57, .bin .rem (.t 56) (.c (.int .i64 10007)), none⟩,
    ⟨some 58, .call 84 [(.t 57)], none⟩,
    ⟨some 59, .bin .mul (.t 49) (.t 58), none⟩,
    ⟨some 60, .bin .rem (.t 59) (.c (.int .i64 10007)), none⟩,
    ⟨some 7, .move (.t 60), none⟩])
def A_impl_ForkPolynomial.r13 : ACode := (.region none [⟨some 61, .move (.t 6), none⟩,
    ⟨some 62, .move (.t 7), none⟩,
    ⟨some 63, .buildSlice 1 1 [.int .i64 0] [(0, 1, (.t 62))], none⟩,
    ⟨some 64, .call 75 [(.t 61), (.t 63)], none⟩,
    ⟨some 4, .move (.t 64), none⟩,
    ⟨some 5, .move (.c (.int .i64 0)), none⟩])
def A_impl_ForkPolynomial : AFunc := ⟨[.tmp 4, .tmp 5], (.seq A_impl_ForkPolynomial.r0 (.seq (.seq A_impl_ForkPolynomial.r1 (.cond (.t 27) (.seq A_impl_ForkPolynomial.r2 .ret) .skip)) (.seq A_impl_ForkPolynomial.r3 (.seq (.seq A_impl_ForkPolynomial.r4 (.block 0 (.loop A_impl_ForkPolynomial.l0))) (.seq (.seq A_impl_ForkPolynomial.r8 (.block 2 (.loop A_impl_ForkPolynomial.l1))) (.seq A_impl_ForkPolynomial.r12 (.seq A_impl_ForkPolynomial.r13 .ret)))))))⟩
/-! spec_ComposePolynomials -/
def A_spec_ComposePolynomials.r0 : ACode := (.region none [⟨some 4, .move (.c (.slice none 0 0)), none⟩,
    ⟨some 5, .move (.c (.int .i64 0)), none⟩])
def A_spec_ComposePolynomials.r1 : ACode := (.region none [⟨some 7, .move (.t 0), none⟩,
    ⟨some 8, .call 56 [(.t 7)], none⟩,
    ⟨some 9, .not (.t 8), none⟩,
    ⟨some 10, .move (.t 9), none⟩,
    ⟨some 11, .move (.t 1), some (10, false)⟩,
    ⟨some 12, .call 56 [(.t 11)], some (10, false)⟩,
    ⟨some 13, .not (.t 12), some (10, false)⟩,
    ⟨some 14, .pick (.t 10) (.c (.bool true)) (.t 13), none⟩,
    ⟨some 6, .move (.t 14), none⟩])
def A_spec_ComposePolynomials.r2 : ACode := (.region none [⟨some 4, .move (.c (.slice none 0 0)), none⟩,
    ⟨some 5, .move (.c (.int .i64 1)), none⟩])
def A_spec_ComposePolynomials.r3 : ACode := (.region none [⟨some 16, .move (.t 0), none⟩,
    ⟨some 17, .len (.t 16), none⟩,
    ⟨some 18, .bin .gtr (.t 17) (.c (.int .i64 1)), none⟩,
    ⟨some 19, .move (.t 18), none⟩,
    ⟨some 20, .move (.t 1), some (19, true)⟩,
    ⟨some 21, .len (.t 20), some (19, true)⟩,
    ⟨some 22, .bin .gtr (.t 21) (.c (.int .i64 1)), some (19, true)⟩,
    ⟨some 23, .pick (.t 19) (.t 22) (.c (.bool false)), none⟩,
    ⟨some 24, .move (.t 23), none⟩,
    ⟨some 25, .move (.t 0), some (24, true)⟩,
    ⟨some 26, .len (.t 25), some (24, true)⟩,
    ⟨some 27, .bin .sub (.t 26) (.c (.int .i64 1)), some (24, true)⟩,
    ⟨some 28, .move (.t 1), some (24, true)⟩,
    ⟨some 29, .len (.t 28), some (24, true)⟩,
    ⟨some 30, .bin .sub (.t 29) (.c (.int .i64 1)), some (24, true)⟩,
    ⟨some 31, .bin .mul (.t 27) (.t 30), some (24, true)⟩,
    ⟨some 32, .bin .gtr (.t 31) (.c (.int .i64 16)), some (24, true)⟩,
    ⟨some 33, .pick (.t 24) (.t 32) (.c (.bool false)), none⟩,
    ⟨some 15, .move (.t 33), none⟩])
def A_spec_ComposePolynomials.r4 : ACode := (.region none [⟨some 4, .move (.c (.slice none 0 0)), none⟩,
    ⟨some 5, .move (.c (.int .i64 3)), none⟩])
def A_spec_ComposePolynomials.r5 : ACode := (.region none [⟨some 34, .move (.t 0), none⟩,
    ⟨some 35, .move (.t 1), none⟩,
    ⟨some 36, .call 85 [(.t 34), (.t 35)], none⟩,
    ⟨some 4, .move (.t 36), none⟩,
    ⟨some 5, .move (.c (.int .i64 0)), none⟩])
def A_spec_ComposePolynomials : AFunc := ⟨[.tmp 4, .tmp 5], (.seq A_spec_ComposePolynomials.r0 (.seq (.block 0 (.seq A_spec_ComposePolynomials.r1 (.cond (.t 6) (.seq A_spec_ComposePolynomials.r2 .ret) (.seq A_spec_ComposePolynomials.r3 (.cond (.t 15) (.seq A_spec_ComposePolynomials.r4 .ret) .skip))))) (.seq A_spec_ComposePolynomials.r5 .ret)))⟩
/-! impl_ComposePolynomials -/
def A_impl_ComposePolynomials.r0 : ACode := (.region none [⟨some 4, .move (.c (.slice none 0 0)), none⟩,
    ⟨some 5, .move (.c (.int .i64 0)), none⟩])
def A_impl_ComposePolynomials.r1 : ACode := (.region none [⟨some 8, .move (.t 0), none⟩,
    ⟨some 9, .call 2 [(.t 8)], none⟩,
    ⟨some 10, .not (.t 9), none⟩,
    ⟨some 11, .move (.t 10), none⟩,
    ⟨some 12, .move (.t 1), some (11, false)⟩,
    ⟨some 13, .call 2 [(.t 12)], some (11, false)⟩,
    ⟨some 14, .not (.t 13), some (11, false)⟩,
    ⟨some 15, .pick (.t 11) (.c (.bool true)) (.t 14), none⟩])
def A_impl_ComposePolynomials.r2 : ACode := (.region none [⟨some 4, .move (.c (.slice none 0 0)), none⟩,
    ⟨some 5, .move (.c (.int .i64 1)), none⟩])
def A_impl_ComposePolynomials.r3 : ACode := (.region none [⟨some 16, .move (.t 0), none⟩,
    ⟨some 17, .len (.t 16), none⟩,
    ⟨some 18, .bin .sub (.t 17) (.c (.int .i64 1)), none⟩,
    ⟨some 19, .move (.t 1), none⟩,
    ⟨some 20, .len (.t 19), none⟩,
    ⟨some 21, .bin .sub (.t 20) (.c (.int .i64 1)), none⟩,
    ⟨some 22, .bin .mul (.t 18) (.t 21), none⟩,
    ⟨some 23, .bin .gtr (.t 22) (.c (.int .i64 16)), none⟩])
def A_impl_ComposePolynomials.r4 : ACode := (.region none [⟨some 4, .move (.c (.slice none 0 0)), none⟩,
    ⟨some 5, .move (.c (.int .i64 3)), none⟩])
def A_impl_ComposePolynomials.r5 : ACode := (.region none [⟨some 24, .buildSlice 1 0 [.int .i64 0] [], none⟩,
    ⟨some 6, .move (.t 24), none⟩])
def A_impl_ComposePolynomials.r6 : ACode := (.region none [⟨some 25, .move (.t 0), none⟩,
    ⟨some 26, .len (.t 25), none⟩,
    ⟨some 27, .bin .sub (.t 26) (.c (.int .i64 1)), none⟩,
    ⟨some 7, .move (.t 27), none⟩])
def A_impl_ComposePolynomials.r7 : ACode := (.region none [⟨some 28, .move (.t 7), none⟩,
    ⟨some 29, .bin .geq (.t 28) (.c (.int .i64 0)), none⟩])
def A_impl_ComposePolynomials.r9 : ACode := (.region (some 10) [⟨some 32, .move (.t 6), none⟩,
    ⟨some 33, .move (.t 1), none⟩,
    ⟨some 34, .call 75 [(.t 32), (.t 33)], none⟩,
    ⟨some 35, .move (.t 0), none⟩,
    ⟨some 36, .move (.t 7), none⟩,
    ⟨some 37, .indexAddr none 1 (.t 35) (.t 36), none⟩,
    ⟨some 38, .load none (.t 37), none⟩,
    ⟨some 39, .buildSlice 1 1 [.int .i64 0] [(0, 1, (.t 38))], none⟩,
    ⟨some 40, .call 73 [(.t 34), (.t 39)], none⟩,
    ⟨some 6, .move (.t 40), none⟩])
def A_impl_ComposePolynomials.r8 : ACode := (.region none [⟨some 30, .move (.t 7), none⟩,
    ⟨some 31, .bin .sub (.t 30) (.c (.int .i64 1)), none⟩,
    ⟨some 7, .move (.t 31), none⟩])
def A_impl_ComposePolynomials.l0 : ACode := (.seq (.seq A_impl_ComposePolynomials.r7 (.cond (.t 29) .skip (.exit 0))) (.seq (.block 1 A_impl_ComposePolynomials.r9) A_impl_ComposePolynomials.r8))
def A_impl_ComposePolynomials.r10 : ACode := (.region none [⟨some 41, .move (.t 6), none⟩,
    ⟨some 4, .move (.t 41), none⟩,
    ⟨some 5, .move (.c (.int .i64 0)), none⟩])
def A_impl_ComposePolynomials : AFunc := ⟨[.tmp 4, .tmp 5], (.seq A_impl_ComposePolynomials.r0 (.seq (.seq A_impl_ComposePolynomials.r1 (.cond (.t 15) (.seq A_impl_ComposePolynomials.r2 .ret) .skip)) (.seq (.seq A_impl_ComposePolynomials.r3 (.cond (.t 23) (.seq A_impl_ComposePolynomials.r4 .ret) .skip)) (.seq A_impl_ComposePolynomials.r5 (.seq (.seq A_impl_ComposePolynomials.r6 (.block 0 (.loop A_impl_ComposePolynomials.l0))) (.seq A_impl_ComposePolynomials.r10 .ret))))))⟩
/-! spec_CommonDivisor -/
def A_spec_CommonDivisor.r0 : ACode := (.region none [⟨some 4, .move (.c (.slice none 0 0)), none⟩,
    ⟨some 5, .move (.c (.int .i64 0)), none⟩])
def A_spec_CommonDivisor.r1 : ACode := (.region none [⟨some 7, .move (.t 0), none⟩,
    ⟨some 8, .move (.t 1), none⟩,
    ⟨some 9, .call 71 [(.t 7), (.t 8)], none⟩,
    ⟨some 6, .move (.t 9), none⟩])
def A_spec_CommonDivisor.r2 : ACode := (.region none [⟨some 10, .move (.t 6), none⟩,
    ⟨some 11, .bin .eql (.t 10) (.c (.int .i64 0)), none⟩,
    ⟨some 12, .move (.t 11), none⟩,
    ⟨some 13, .move (.t 0), some (12, true)⟩,
    ⟨some 14, .len (.t 13), some (12, true)⟩,
    ⟨some 15, .bin .eql (.t 14) (.c (.int .i64 0)), some (12, true)⟩,
    ⟨some 16, .pick (.t 12) (.t 15) (.c (.bool false)), none⟩,
    ⟨some 17, .move (.t 16), none⟩,
    ⟨some 18, .move (.t 1), some (17, true)⟩,
    ⟨some 19, .len (.t 18), some (17, true)⟩,
    ⟨some 20, .bin .eql (.t 19) (.c (.int .i64 0)), some (17, true)⟩,
    ⟨some 21, .pick (.t 17) (.t 20) (.c (.bool false)), none⟩])
def A_spec_CommonDivisor.r3 : ACode := (.region none [⟨some 6, .move (.c (.int .i64 5)), none⟩])
def A_spec_CommonDivisor.r4 : ACode := (.region none [⟨some 22, .move (.t 6), none⟩,
    ⟨some 23, .bin .neq (.t 22) (.c (.int .i64 0)), none⟩])
def A_spec_CommonDivisor.r5 : ACode := (.region none [⟨some 24, .move (.t 6), none⟩,
    ⟨some 4, .move (.c (.slice none 0 0)), none⟩,
    ⟨some 5, .move (.t 24), none⟩])
def A_spec_CommonDivisor.r6 : ACode := (.region none [⟨some 25, .move (.t 0), none⟩,
    ⟨some 26, .move (.t 1), none⟩,
    ⟨some 27, .call 86 [(.t 25), (.t 26)], none⟩,
    ⟨some 4, .move (.t 27), none⟩,
    ⟨some 5, .move (.c (.int .i64 0)), none⟩])
def A_spec_CommonDivisor : AFunc := ⟨[.tmp 4, .tmp 5], (.seq A_spec_CommonDivisor.r0 (.seq A_spec_CommonDivisor.r1 (.seq (.seq A_spec_CommonDivisor.r2 (.cond (.t 21) A_spec_CommonDivisor.r3 .skip)) (.seq (.seq A_spec_CommonDivisor.r4 (.cond (.t 23) (.seq A_spec_CommonDivisor.r5 .ret) .skip)) (.seq A_spec_CommonDivisor.r6 .ret)))))⟩
/-! impl_CommonDivisor -/
def A_impl_CommonDivisor.r0 : ACode := (.region none [⟨some 4, .move (.c (.slice none 0 0)), none⟩,
    ⟨some 5, .move (.c (.int .i64 0)), none⟩])
def A_impl_CommonDivisor.r1 : ACode := (.region none [⟨some 7, .move (.t 0), none⟩,
    ⟨some 8, .call 2 [(.t 7)], none⟩,
    ⟨some 9, .not (.t 8), none⟩,
    ⟨some 10, .move (.t 9), none⟩,
    ⟨some 11, .move (.t 1), some (10, false)⟩,
    ⟨some 12, .call 2 [(.t 11)], some (10, false)⟩,
    ⟨some 13, .not (.t 12), some (10, false)⟩,
    ⟨some 14, .pick (.t 10) (.c (.bool true)) (.t 13), none⟩,
    ⟨some 6, .move (.t 14), none⟩])
def A_impl_CommonDivisor.r2 : ACode := (.region none [⟨some 4, .move (.c (.slice none 0 0)), none⟩,
    ⟨some 5, .move (.c (.int .i64 1)), none⟩])
def A_impl_CommonDivisor.r3 : ACode := (.region none [⟨some 16, .move (.t 0), none⟩,
    ⟨some 17, .len (.t 16), none⟩,
    ⟨some 18, .move (.t 1), none⟩,
    ⟨some 19, .len (.t 18), none⟩,
    ⟨some 20, .bin .add (.t 17) (.t 19), none⟩,
    ⟨some 21, .bin .eql (.t 20) (.c (.int .i64 0)), none⟩,
    ⟨some 15, .move (.t 21), none⟩])
def A_impl_CommonDivisor.r4 : ACode := (.region none [⟨some 4, .move (.c (.slice none 0 0)), none⟩,
    ⟨some 5, .move (.c (.int .i64 5)), none⟩])
def A_impl_CommonDivisor.r5 : ACode := (.region none [⟨some 22, .move (.t 0), none⟩,
    ⟨some 23, .move (.t 1), none⟩,
    ⟨some 24, .call 87 [(.t 22), (.t 23)], none⟩,
    ⟨some 4, .move (.t 24), none⟩,
    ⟨some 5, .move (.c (.int .i64 0)), none⟩])
def A_impl_CommonDivisor : AFunc := ⟨[.tmp 4, .tmp 5], (.seq A_impl_CommonDivisor.r0 (.seq (.block 0 (.seq A_impl_CommonDivisor.r1 (.cond (.t 6) (.seq A_impl_CommonDivisor.r2 .ret) (.seq A_impl_CommonDivisor.r3 (.cond (.t 15) (.seq A_impl_CommonDivisor.r4 .ret) .skip))))) (.seq A_impl_CommonDivisor.r5 .ret)))⟩
/-! spec_IsCritical -/
def A_spec_IsCritical.r0 : ACode := (.region none [⟨some 4, .move (.c (.bool false)), none⟩,
    ⟨some 5, .move (.c (.int .i64 0)), none⟩])
def A_spec_IsCritical.r1 : ACode := (.region none [⟨some 7, .move (.t 0), none⟩,
    ⟨some 8, .move (.t 1), none⟩,
    ⟨some 9, .buildSlice 1 1 [.int .i64 0] [(0, 1, (.t 8))], none⟩,
    ⟨some 10, .call 88 [(.t 7), (.t 9)], none⟩,
    ⟨some 6, .move (.t 10), none⟩])
def A_spec_IsCritical.r2 : ACode := (.region none [⟨some 11, .move (.t 6), none⟩,
    ⟨some 12, .bin .neq (.t 11) (.c (.int .i64 0)), none⟩])
def A_spec_IsCritical.r3 : ACode := (.region none [⟨some 13, .move (.t 6), none⟩,
    ⟨some 4, .move (.c (.bool false)), none⟩,
    ⟨some 5, .move (.t 13), none⟩])
def A_spec_IsCritical.r4 : ACode := (.region none [⟨some 14, .move (.t 0), none⟩,
    ⟨some 15, .move (.t 1), none⟩,
    ⟨some 16, .call 89 [(.t 14), (.t 15)], none⟩,
    ⟨some 17, .indexAddr none 1 (.t 16) (.c (.int .i64 0)), none⟩,
    ⟨some 18, .load none (.t 17), none⟩,
    ⟨some 19, .bin .gtr (.t 18) (.c (.int .i64 1)), none⟩,
    ⟨some 4, .move (.t 19), none⟩,
    ⟨some 5, .move (.c (.int .i64 0)), none⟩])
def A_spec_IsCritical : AFunc := ⟨[.tmp 4, .tmp 5], (.seq A_spec_IsCritical.r0 (.seq (.seq A_spec_IsCritical.r1 (.seq A_spec_IsCritical.r2 (.cond (.t 12) (.seq A_spec_IsCritical.r3 .ret) .skip))) (.seq A_spec_IsCritical.r4 .ret)))⟩
/-! impl_IsCritical -/
def A_impl_IsCritical.r0 : ACode := (.region none [⟨some 4, .move (.c (.bool false)), none⟩,
    ⟨some 5, .move (.c (.int .i64 0)), none⟩])
def A_impl_IsCritical.r1 : ACode := (.region none [⟨some 7, .move (.t 0), none⟩,
    ⟨some 8, .move (.t 1), none⟩,
    ⟨some 9, .buildSlice 1 1 [.int .i64 0] [(0, 1, (.t 8))], none⟩,
    ⟨some 10, .call 90 [(.t 7), (.t 9)], none⟩,
    ⟨some 6, .move (.t 10), none⟩])
def A_impl_IsCritical.r2 : ACode := (.region none [⟨some 11, .move (.t 6), none⟩,
    ⟨some 12, .bin .neq (.t 11) (.c (.int .i64 0)), none⟩])
def A_impl_IsCritical.r3 : ACode := (.region none [⟨some 13, .move (.t 6), none⟩,
    ⟨some 4, .move (.c (.bool false)), none⟩,
    ⟨some 5, .move (.t 13), none⟩])
def A_impl_IsCritical.r4 : ACode := (.region none [⟨some 14, .move (.t 0), none⟩,
    ⟨some 15, .move (.t 1), none⟩,
    ⟨some 16, .call 91 [(.t 14), (.t 15)], none⟩,
    ⟨some 17, .indexAddr none 1 (.t 16) (.c (.int .i64 0)), none⟩,
    ⟨some 18, .load none (.t 17), none⟩,
    ⟨some 19, .bin .gtr (.t 18) (.c (.int .i64 1)), none⟩,
    ⟨some 4, .move (.t 19), none⟩,
    ⟨some 5, .move (.c (.int .i64 0)), none⟩])
def A_impl_IsCritical : AFunc := ⟨[.tmp 4, .tmp 5], (.seq A_impl_IsCritical.r0 (.seq (.seq A_impl_IsCritical.r1 (.seq A_impl_IsCritical.r2 (.cond (.t 12) (.seq A_impl_IsCritical.r3 .ret) .skip))) (.seq A_impl_IsCritical.r4 .ret)))⟩
/-! spec_MultiplicitiesOf -/
def A_spec_MultiplicitiesOf.r0 : ACode := (.region none [⟨some 4, .move (.c (.slice none 0 0)), none⟩,
    ⟨some 5, .move (.c (.int .i64 0)), none⟩])
def A_spec_MultiplicitiesOf.r1 : ACode := (.region none [⟨some 7, .move (.t 0), none⟩,
    ⟨some 8, .move (.t 1), none⟩,
    ⟨some 9, .buildSlice 1 1 [.int .i64 0] [(0, 1, (.t 8))], none⟩,
    ⟨some 10, .call 88 [(.t 7), (.t 9)], none⟩,
    ⟨some 6, .move (.t 10), none⟩])
def A_spec_MultiplicitiesOf.r2 : ACode := (.region none [⟨some 11, .move (.t 6), none⟩,
    ⟨some 12, .bin .neq (.t 11) (.c (.int .i64 0)), none⟩])
def A_spec_MultiplicitiesOf.r3 : ACode := (.region none [⟨some 13, .move (.t 6), none⟩,
    ⟨some 4, .move (.c (.slice none 0 0)), none⟩,
    ⟨some 5, .move (.t 13), none⟩])
def A_spec_MultiplicitiesOf.r4 : ACode := (.region none [⟨some 14, .move (.t 0), none⟩,
    ⟨some 15, .move (.t 1), none⟩,
    ⟨some 16, .call 89 [(.t 14), (.t 15)], none⟩,
    ⟨some 4, .move (.t 16), none⟩,
    ⟨some 5, .move (.c (.int .i64 0)), none⟩])
def A_spec_MultiplicitiesOf : AFunc := ⟨[.tmp 4, .tmp 5], (.seq A_spec_MultiplicitiesOf.r0 (.seq (.seq A_spec_MultiplicitiesOf.r1 (.seq A_spec_MultiplicitiesOf.r2 (.cond (.t 12) (.seq A_spec_MultiplicitiesOf.r3 .ret) .skip))) (.seq A_spec_MultiplicitiesOf.r4 .ret)))⟩
/-! impl_MultiplicitiesOf -/
def A_impl_MultiplicitiesOf.r0 : ACode := (.region none [⟨some 4, .move (.c (.slice none 0 0)), none⟩,
    ⟨some 5, .move (.c (.int .i64 0)), none⟩])
def A_impl_MultiplicitiesOf.r1 : ACode := (.region none [⟨some 7, .move (.t 0), none⟩,
    ⟨some 8, .move (.t 1), none⟩,
    ⟨some 9, .buildSlice 1 1 [.int .i64 0] [(0, 1, (.t 8))], none⟩,
    ⟨some 10, .call 90 [(.t 7), (.t 9)], none⟩,
    ⟨some 6, .move (.t 10), none⟩])
def A_impl_MultiplicitiesOf.r2 : ACode := (.region none [⟨some 11, .move (.t 6), none⟩,
    ⟨some 12, .bin .neq (.t 11) (.c (.int .i64 0)), none⟩])
def A_impl_MultiplicitiesOf.r3 : ACode := (.region none [⟨some 13, .move (.t 6), none⟩,
    ⟨some 4, .move (.c (.slice none 0 0)), none⟩,
    ⟨some 5, .move (.t 13), none⟩])
def A_impl_MultiplicitiesOf.r4 : ACode := (.region none [⟨some 14, .move (.t 0), none⟩,
    ⟨some 15, .move (.t 1), none⟩,
    ⟨some 16, .call 91 [(.t 14), (.t 15)], none⟩,
    ⟨some 4, .move (.t 16), none⟩,
    ⟨some 5, .move (.c (.int .i64 0)), none⟩])
def A_impl_MultiplicitiesOf : AFunc := ⟨[.tmp 4, .tmp 5], (.seq A_impl_MultiplicitiesOf.r0 (.seq (.seq A_impl_MultiplicitiesOf.r1 (.seq A_impl_MultiplicitiesOf.r2 (.cond (.t 12) (.seq A_impl_MultiplicitiesOf.r3 .ret) .skip))) (.seq A_impl_MultiplicitiesOf.r4 .ret)))⟩
/-! spec_IsShabat -/
def A_spec_IsShabat.r0 : ACode := (.region none [⟨some 6, .move (.c (.bool false)), none⟩,
    ⟨some 7, .move (.c (.int .i64 0)), none⟩])
def A_spec_IsShabat.r1 : ACode := (.region none [⟨some 9, .move (.t 0), none⟩,
    ⟨some 10, .move (.t 1), none⟩,
    ⟨some 11, .move (.t 2), none⟩,
    ⟨some 12, .call 92 [(.t 9), (.t 10), (.t 11)], none⟩,
    ⟨some 8, .move (.t 12), none⟩])
def A_spec_IsShabat.r2 : ACode := (.region none [⟨some 13, .move (.t 8), none⟩,
    ⟨some 14, .bin .neq (.t 13) (.c (.int .i64 0)), none⟩])
def A_spec_IsShabat.r3 : ACode := (.region none [⟨some 15, .move (.t 8), none⟩,
    ⟨some 6, .move (.c (.bool false)), none⟩,
    ⟨some 7, .move (.t 15), none⟩])
def A_spec_IsShabat.r4 : ACode := (.region none [⟨some 16, .move (.t 0), none⟩,
    ⟨some 17, .move (.t 1), none⟩,
    ⟨some 18, .move (.t 2), none⟩,
    ⟨some 19, .call 93 [(.t 16), (.t 17), (.t 18)], none⟩,
    ⟨some 6, .move (.t 19), none⟩,
    ⟨some 7, .move (.c (.int .i64 0)), none⟩])
def A_spec_IsShabat : AFunc := ⟨[.tmp 6, .tmp 7], (.seq A_spec_IsShabat.r0 (.seq (.seq A_spec_IsShabat.r1 (.seq A_spec_IsShabat.r2 (.cond (.t 14) (.seq A_spec_IsShabat.r3 .ret) .skip))) (.seq A_spec_IsShabat.r4 .ret)))⟩
/-! impl_IsShabat -/
def A_impl_IsShabat.r0 : ACode := (.region none [⟨some 6, .move (.c (.bool false)), none⟩,
    ⟨some 7, .move (.c (.int .i64 0)), none⟩])
def A_impl_IsShabat.r1 : ACode := (.region none [⟨some 11, .move (.t 0), none⟩,
    ⟨some 12, .move (.t 1), none⟩,
    ⟨some 13, .move (.t 2), none⟩,
    ⟨some 14, .call 94 [(.t 11), (.t 12), (.t 13)], none⟩,
    ⟨some 8, .move (.t 14), none⟩])
def A_impl_IsShabat.r2 : ACode := (.region none [⟨some 15, .move (.t 8), none⟩,
    ⟨some 16, .bin .neq (.t 15) (.c (.int .i64 0)), none⟩])
def A_impl_IsShabat.r3 : ACode := (.region none [⟨some 17, .move (.t 8), none⟩,
    ⟨some 6, .move (.c (.bool false)), none⟩,
    ⟨some 7, .move (.t 17), none⟩])
def A_impl_IsShabat.r4 : ACode := (.region none [⟨some 19, .move (.t 0), none⟩,
    ⟨some 20, .move (.t 1), none⟩,
    ⟨some 21, .move (.t 2), none⟩,
    ⟨some 22, .call 95 [(.t 19), (.t 20), (.t 21)], none⟩,
    ⟨some 18, .move (.t 22), none⟩,
    ⟨some 23, .extract (.t 18) 0, none⟩,
    ⟨some 24, .extract (.t 18) 1, none⟩,
    ⟨some 9, .move (.t 23), none⟩,
    ⟨some 10, .move (.t 24), none⟩])
def A_impl_IsShabat.r5 : ACode := (.region none [⟨some 25, .move (.t 10), none⟩,
    ⟨some 6, .move (.t 25), none⟩,
    ⟨some 7, .move (.c (.int .i64 0)), none⟩])
def A_impl_IsShabat : AFunc := ⟨[.tmp 6, .tmp 7], (.seq A_impl_IsShabat.r0 (.seq (.seq A_impl_IsShabat.r1 (.seq A_impl_IsShabat.r2 (.cond (.t 16) (.seq A_impl_IsShabat.r3 .ret) .skip))) (.seq A_impl_IsShabat.r4 (.seq A_impl_IsShabat.r5 .ret))))⟩
/-! spec_PassportOfShabat -/
def A_spec_PassportOfShabat.r0 : ACode := (.region none [⟨some 6, .move (.c (.slice none 0 0)), none⟩,
    ⟨some 7, .move (.c (.int .i64 0)), none⟩])
def A_spec_PassportOfShabat.r1 : ACode := (.region none [⟨some 9, .move (.t 0), none⟩,
    ⟨some 10, .move (.t 1), none⟩,
    ⟨some 11, .move (.t 2), none⟩,
    ⟨some 12, .call 92 [(.t 9), (.t 10), (.t 11)], none⟩,
    ⟨some 8, .move (.t 12), none⟩])
def A_spec_PassportOfShabat.r2 : ACode := (.region none [⟨some 13, .move (.t 8), none⟩,
    ⟨some 14, .bin .eql (.t 13) (.c (.int .i64 0)), none⟩,
    ⟨some 15, .move (.t 14), none⟩,
    ⟨some 16, .move (.t 0), some (15, true)⟩,
    ⟨some 17, .move (.t 1), some (15, true)⟩,
    ⟨some 18, .move (.t 2), some (15, true)⟩,
    ⟨some 19, .call 93 [(.t 16), (.t 17), (.t 18)], some (15, true)⟩,
    ⟨some 20, .not (.t 19), some (15, true)⟩,
    ⟨some 21, .pick (.t 15) (.t 20) (.c (.bool false)), none⟩])
def A_spec_PassportOfShabat.r3 : ACode := (.region none [⟨some 8, .move (.c (.int .i64 5)), none⟩])
def A_spec_PassportOfShabat.r4 : ACode := (.region none [⟨some 22, .move (.t 8), none⟩,
    ⟨some 23, .bin .neq (.t 22) (.c (.int .i64 0)), none⟩])
def A_spec_PassportOfShabat.r5 : ACode := (.region none [⟨some 24, .move (.t 8), none⟩,
    ⟨some 6, .move (.c (.slice none 0 0)), none⟩,
    ⟨some 7, .move (.t 24), none⟩])
def A_spec_PassportOfShabat.r6 : ACode := (.region none [⟨some 25, .move (.t 0), none⟩,
    ⟨some 26, .move (.t 1), none⟩,
    ⟨some 27, .call 89 [(.t 25), (.t 26)], none⟩,
    ⟨some 28, .move (.t 0), none⟩,
    ⟨some 29, .move (.t 2), none⟩,
    ⟨some 30, .call 89 [(.t 28), (.t 29)], none⟩,
    ⟨some 31, .move (.t 0), none⟩,
    ⟨some 32, .len (.t 31), none⟩,
    ⟨some 33, .bin .sub (.t 32) (.c (.int .i64 1)), none⟩,
    ⟨some 34, .buildSlice 1 1 [.int .i64 0] [(0, 1, (.t 33))], none⟩,
    ⟨some 35, .buildSlice 1 3 [.slice none 0 0] [(0, 1, (.t 27)), (1, 1, (.t 30)), (2, 1, (.t 34))], none⟩,
    ⟨some 6, .move (.t 35), none⟩,
    ⟨some 7, .move (.c (.int .i64 0)), none⟩])
def A_spec_PassportOfShabat : AFunc := ⟨[.tmp 6, .tmp 7], (.seq A_spec_PassportOfShabat.r0 (.seq A_spec_PassportOfShabat.r1 (.seq (.seq A_spec_PassportOfShabat.r2 (.cond (.t 21) A_spec_PassportOfShabat.r3 .skip)) (.seq (.seq A_spec_PassportOfShabat.r4 (.cond (.t 23) (.seq A_spec_PassportOfShabat.r5 .ret) .skip)) (.seq A_spec_PassportOfShabat.r6 .ret)))))⟩
/-! impl_PassportOfShabat -/
def A_impl_PassportOfShabat.r0 : ACode := (.region none [⟨some 6, .move (.c (.slice none 0 0)), none⟩,
    ⟨some 7, .move (.c (.int .i64 0)), none⟩])
def A_impl_PassportOfShabat.r1 : ACode := (.region none [⟨some 11, .move (.t 0), none⟩,
    ⟨some 12, .move (.t 1), none⟩,
    ⟨some 13, .move (.t 2), none⟩,
    ⟨some 14, .call 94 [(.t 11), (.t 12), (.t 13)], none⟩,
    ⟨some 8, .move (.t 14), none⟩])
def A_impl_PassportOfShabat.r2 : ACode := (.region none [⟨some 15, .move (.t 8), none⟩,
    ⟨some 16, .bin .neq (.t 15) (.c (.int .i64 0)), none⟩])
def A_impl_PassportOfShabat.r3 : ACode := (.region none [⟨some 17, .move (.t 8), none⟩,
    ⟨some 6, .move (.c (.slice none 0 0)), none⟩,
    ⟨some 7, .move (.t 17), none⟩])
def A_impl_PassportOfShabat.r4 : ACode := (.region none [⟨some 19, .move (.t 0), none⟩,
    ⟨some 20, .move (.t 1), none⟩,
    ⟨some 21, .move (.t 2), none⟩,
    ⟨some 22, .call 95 [(.t 19), (.t 20), (.t 21)], none⟩,
    ⟨some 18, .move (.t 22), none⟩,
    ⟨some 23, .extract (.t 18) 0, none⟩,
    ⟨some 24, .extract (.t 18) 1, none⟩,
    ⟨some 9, .move (.t 23), none⟩,
    ⟨some 10, .move (.t 24), none⟩])
def A_impl_PassportOfShabat.r5 : ACode := (.region none [⟨some 25, .move (.t 10), none⟩,
    ⟨some 26, .not (.t 25), none⟩])
def A_impl_PassportOfShabat.r6 : ACode := (.region none [⟨some 6, .move (.c (.slice none 0 0)), none⟩,
    ⟨some 7, .move (.c (.int .i64 5)), none⟩])
def A_impl_PassportOfShabat.r7 : ACode := (.region none [⟨some 27, .move (.t 9), none⟩,
    ⟨some 6, .move (.t 27), none⟩,
    ⟨some 7, .move (.c (.int .i64 0)), none⟩])
def A_impl_PassportOfShabat : AFunc := ⟨[.tmp 6, .tmp 7], (.seq A_impl_PassportOfShabat.r0 (.seq (.seq A_impl_PassportOfShabat.r1 (.seq A_impl_PassportOfShabat.r2 (.cond (.t 16) (.seq A_impl_PassportOfShabat.r3 .ret) .skip))) (.seq A_impl_PassportOfShabat.r4 (.seq (.seq A_impl_PassportOfShabat.r5 (.cond (.t 26) (.seq A_impl_PassportOfShabat.r6 .ret) .skip)) (.seq A_impl_PassportOfShabat.r7 .ret)))))⟩
/-! laws_markInt64SS -/
def A_laws_markInt64SS.r0 : ACode := (.region none [⟨some 4, .move (.c (.int .i64 0)), none⟩])
def A_laws_markInt64SS.r1 : ACode := (.region none [⟨some 5, .move (.c (.int .i64 0)), none⟩])
def A_laws_markInt64SS.r2 : ACode := (.region none [⟨some 6, .move (.t 5), none⟩,
    ⟨some 7, .move (.t 0), none⟩,
    ⟨some 8, .len (.t 7), none⟩,
    ⟨some 9, .bin .lss (.t 6) (.t 8), none⟩])
def A_laws_markInt64SS.r4 : ACode := (.region none [⟨some 12, .move (.t 0), none⟩,
    ⟨some 13, .move (.t 5), none⟩,
    ⟨some 14, .indexAddr none 1 (.t 12) (.t 13), none⟩,
    ⟨some 15, .load none (.t 14), none⟩,
    ⟨some 16, .move (.t 1), none⟩,
    ⟨some 17, .call 6 [(.t 15), (.t 16)], none⟩,
    ⟨some 1, .move (.t 17), none⟩])
def A_laws_markInt64SS.r3 : ACode := (.region none [⟨some 10, .move (.t 5), none⟩,
    ⟨some 11, .bin .add (.t 10) (.c (.int .i64 1)), none⟩,
    ⟨some 5, .move (.t 11), none⟩])
def A_laws_markInt64SS.l0 : ACode := (.seq (.seq A_laws_markInt64SS.r2 (.cond (.t 9) .skip (.exit 0))) (.seq (.block 1 A_laws_markInt64SS.r4) A_laws_markInt64SS.r3))
def A_laws_markInt64SS.r5 : ACode := (.region none [⟨some 18, .move (.t 1), none⟩,
    ⟨some 4, .move (.t 18), none⟩])
def A_laws_markInt64SS : AFunc := ⟨[.tmp 4], (.seq A_laws_markInt64SS.r0 (.seq (.seq A_laws_markInt64SS.r1 (.block 0 (.loop A_laws_markInt64SS.l0))) (.seq A_laws_markInt64SS.r5 .ret)))⟩
/-! laws_heldInt64SS -/
def A_laws_heldInt64SS.r0 : ACode := (.region none [⟨some 4, .move (.c (.int .i64 0)), none⟩])
def A_laws_heldInt64SS.r1 : ACode := (.region none [⟨some 5, .move (.c (.int .i64 0)), none⟩])
def A_laws_heldInt64SS.r2 : ACode := (.region none [⟨some 6, .move (.t 5), none⟩,
    ⟨some 7, .move (.t 0), none⟩,
    ⟨some 8, .len (.t 7), none⟩,
    ⟨some 9, .bin .lss (.t 6) (.t 8), none⟩])
def A_laws_heldInt64SS.r4 : ACode := (.region none [⟨some 12, .move (.t 0), none⟩,
    ⟨some 13, .move (.t 5), none⟩,
    ⟨some 14, .indexAddr none 1 (.t 12) (.t 13), none⟩,
    ⟨some 15, .load none (.t 14), none⟩,
    ⟨some 16, .move (.t 1), none⟩,
    ⟨some 17, .call 7 [(.t 15), (.t 16)], none⟩,
    ⟨some 1, .move (.t 17), none⟩])
def A_laws_heldInt64SS.r5 : ACode := (.region none [⟨some 18, .move (.t 1), none⟩,
    ⟨some 19, .bin .lss (.t 18) (.c (.int .i64 0)), none⟩])
def A_laws_heldInt64SS.r6 : ACode := (.region none [⟨some 4, .move (.c (.int .i64 (-1))), none⟩])
def A_laws_heldInt64SS.r3 : ACode := (.region none [⟨some 10, .move (.t 5), none⟩,
    ⟨some 11, .bin .add (.t 10) (.c (.int .i64 1)), none⟩,
    ⟨some 5, .move (.t 11), none⟩])
def A_laws_heldInt64SS.l0 : ACode := (.seq (.seq A_laws_heldInt64SS.r2 (.cond (.t 9) .skip (.exit 0))) (.seq (.block 1 (.seq A_laws_heldInt64SS.r4 (.seq A_laws_heldInt64SS.r5 (.cond (.t 19) (.seq A_laws_heldInt64SS.r6 .ret) .skip)))) A_laws_heldInt64SS.r3))
def A_laws_heldInt64SS.r7 : ACode := (.region none [⟨some 20, .move (.t 1), none⟩,
    ⟨some 4, .move (.t 20), none⟩])
def A_laws_heldInt64SS : AFunc := ⟨[.tmp 4], (.seq A_laws_heldInt64SS.r0 (.seq (.seq A_laws_heldInt64SS.r1 (.block 0 (.loop A_laws_heldInt64SS.l0))) (.seq A_laws_heldInt64SS.r7 .ret)))⟩
/-! laws_big -/
def A_laws_big.r0 : ACode := (.region none [⟨some 2, .move (.c (.bool false)), none⟩])
def A_laws_big.r1 : ACode := (.region none [⟨some 3, .move (.t 0), none⟩,
    ⟨some 4, .len (.t 3), none⟩,
    ⟨some 5, .bin .gtr (.t 4) (.c (.int .i64 4096)), none⟩,
    ⟨some 2, .move (.t 5), none⟩])
def A_laws_big : AFunc := ⟨[.tmp 2], (.seq A_laws_big.r0 (.seq A_laws_big.r1 .ret))⟩
/-! spec_DrawMultiplyPolynomials -/
def A_spec_DrawMultiplyPolynomials.r0 : ACode := (.region none [⟨some 2, .move (.c (.slice none 0 0)), none⟩,
    ⟨some 3, .move (.c (.slice none 0 0)), none⟩])
def A_spec_DrawMultiplyPolynomials.r1 : ACode := (.region none [⟨some 7, .move (.t 0), none⟩,
    ⟨some 8, .call 96 [(.t 7)], none⟩,
    ⟨some 6, .move (.t 8), none⟩,
    ⟨some 9, .extract (.t 6) 0, none⟩,
    ⟨some 10, .extract (.t 6) 1, none⟩,
    ⟨some 4, .move (.t 9), none⟩,
    ⟨some 5, .move (.t 10), none⟩])
def A_spec_DrawMultiplyPolynomials.r2 : ACode := (.region none [⟨some 11, .move (.t 4), none⟩,
    ⟨some 12, .move (.t 5), none⟩,
    ⟨some 2, .move (.t 11), none⟩,
    ⟨some 3, .move (.t 12), none⟩])
def A_spec_DrawMultiplyPolynomials : AFunc := ⟨[.tmp 2, .tmp 3], (.seq A_spec_DrawMultiplyPolynomials.r0 (.seq A_spec_DrawMultiplyPolynomials.r1 (.seq A_spec_DrawMultiplyPolynomials.r2 .ret)))⟩
/-! laws_likeInts -/
def A_laws_likeInts.r0 : ACode := (.region none [⟨some 4, .move (.c (.bool false)), none⟩])
def A_laws_likeInts.r1 : ACode := (.region none [⟨some 6, .move (.t 0), none⟩,
    ⟨some 7, .len (.t 6), none⟩,
    ⟨some 8, .move (.t 1), none⟩,
    ⟨some 9, .len (.t 8), none⟩,
    ⟨some 10, .bin .neq (.t 7) (.t 9), none⟩])
def A_laws_likeInts.r2 : ACode := (.region none [⟨some 4, .move (.c (.bool false)), none⟩])
def A_laws_likeInts.r3 : ACode := (.region none [⟨some 5, .move (.c (.int .i64 0)), none⟩])
def A_laws_likeInts.r4 : ACode := (.region none [⟨some 11, .move (.t 5), none⟩,
    ⟨some 12, .move (.t 0), none⟩,
    ⟨some 13, .len (.t 12), none⟩,
    ⟨some 14, .bin .lss (.t 11) (.t 13), none⟩])
def A_laws_likeInts.r6 : ACode := (.region (some 9) [⟨some 17, .move (.t 0), none⟩,
    ⟨some 18, .move (.t 5), none⟩,
    ⟨some 19, .indexAddr none 1 (.t 17) (.t 18), none⟩,
    ⟨some 20, .load none (.t 19), none⟩,
    ⟨some 21, .move (.t 1), none⟩,
    ⟨some 22, .move (.t 5), none⟩,
    ⟨some 23, .indexAddr none 1 (.t 21) (.t 22), none⟩,
    ⟨some 24, .load none (.t 23), none⟩,
    ⟨some 25, .bin .neq (.t 20) (.t 24), none⟩])
def A_laws_likeInts.r7 : ACode := (.region none [⟨some 4, .move (.c (.bool false)), none⟩])
def A_laws_likeInts.r5 : ACode := (.region none [⟨some 15, .move (.t 5), none⟩,
    ⟨some 16, .bin .add (.t 15) (.c (.int .i64 1)), none⟩,
    ⟨some 5, .move (.t 16), none⟩])
def A_laws_likeInts.l0 : ACode := (.seq (.seq A_laws_likeInts.r4 (.cond (.t 14) .skip (.exit 0))) (.seq (.block 1 (.seq A_laws_likeInts.r6 (.cond (.t 25) (.seq A_laws_likeInts.r7 .ret) .skip))) A_laws_likeInts.r5))
def A_laws_likeInts.r8 : ACode := (.region none [⟨some 4, .move (.c (.bool true)), none⟩])
def A_laws_likeInts : AFunc := ⟨[.tmp 4], (.seq A_laws_likeInts.r0 (.seq (.seq A_laws_likeInts.r1 (.cond (.t 10) (.seq A_laws_likeInts.r2 .ret) .skip)) (.seq (.seq A_laws_likeInts.r3 (.block 0 (.loop A_laws_likeInts.l0))) (.seq A_laws_likeInts.r8 .ret))))⟩
/-! spec_DrawComposePolynomials -/
def A_spec_DrawComposePolynomials.r0 : ACode := (.region none [⟨some 2, .move (.c (.slice none 0 0)), none⟩,
    ⟨some 3, .move (.c (.slice none 0 0)), none⟩])
def A_spec_DrawComposePolynomials.r1 : ACode := (.region none [⟨some 5, .move (.t 0), none⟩,
    ⟨some 6, .call 97 [(.t 5)], none⟩,
    ⟨some 4, .move (.t 6), none⟩])
def A_spec_DrawComposePolynomials.r2 : ACode := (.region none [⟨some 7, .move (.t 4), none⟩,
    ⟨some 8, .move (.t 4), none⟩,
    ⟨some 9, .buildSlice 1 3 [.int .i64 0] [(0, 1, (.c (.int .i64 2))), (1, 1, (.c (.int .i64 4))), (2, 1, (.c (.int .i64 8)))], none⟩,
    ⟨some 10, .call 98 [(.t 8), (.t 9)], none⟩,
    ⟨some 11, .call 99 [(.t 7), (.t 10)], none⟩,
    ⟨some 12, .move (.t 4), none⟩,
    ⟨some 13, .move (.t 4), none⟩,
    ⟨some 14, .buildSlice 1 2 [.int .i64 0] [(0, 1, (.c (.int .i64 2))), (1, 1, (.c (.int .i64 4)))], none⟩,
    ⟨some 15, .call 98 [(.t 13), (.t 14)], none⟩,
    ⟨some 16, .call 99 [(.t 12), (.t 15)], none⟩,
    ⟨some 2, .move (.t 11), none⟩,
    ⟨some 3, .move (.t 16), none⟩])
def A_spec_DrawComposePolynomials : AFunc := ⟨[.tmp 2, .tmp 3], (.seq A_spec_DrawComposePolynomials.r0 (.seq A_spec_DrawComposePolynomials.r1 (.seq A_spec_DrawComposePolynomials.r2 .ret)))⟩
/-! spec_DrawDerivativeOf -/
def A_spec_DrawDerivativeOf.r0 : ACode := (.region none [⟨some 2, .move (.c (.slice none 0 0)), none⟩])
def A_spec_DrawDerivativeOf.r1 : ACode := (.region none [⟨some 3, .move (.t 0), none⟩,
    ⟨some 4, .call 97 [(.t 3)], none⟩,
    ⟨some 5, .call 100 [(.t 4)], none⟩,
    ⟨some 2, .move (.t 5), none⟩])
def A_spec_DrawDerivativeOf : AFunc := ⟨[.tmp 2], (.seq A_spec_DrawDerivativeOf.r0 (.seq A_spec_DrawDerivativeOf.r1 .ret))⟩
/-! spec_DrawValueOf -/
def A_spec_DrawValueOf.r0 : ACode := (.region none [⟨some 2, .move (.c (.slice none 0 0)), none⟩,
    ⟨some 3, .move (.c (.int .i64 0)), none⟩])
def A_spec_DrawValueOf.r1 : ACode := (.region none [⟨some 5, .move (.t 0), none⟩,
    ⟨some 6, .call 97 [(.t 5)], none⟩,
    ⟨some 4, .move (.t 6), none⟩])
def A_spec_DrawValueOf.r2 : ACode := (.region none [⟨some 7, .move (.t 4), none⟩,
    ⟨some 8, .call 100 [(.t 7)], none⟩,
    ⟨some 9, .move (.t 4), none⟩,
    ⟨some 10, .call 101 [(.t 9)], none⟩,
    ⟨some 2, .move (.t 8), none⟩,
    ⟨some 3, .move (.t 10), none⟩])
def A_spec_DrawValueOf : AFunc := ⟨[.tmp 2, .tmp 3], (.seq A_spec_DrawValueOf.r0 (.seq A_spec_DrawValueOf.r1 (.seq A_spec_DrawValueOf.r2 .ret)))⟩
/-! laws_roll -/
def A_laws_roll.r0 : ACode := (.region none [⟨some 4, .move (.c (.pointer none)), none⟩])
def A_laws_roll.r1 : ACode := (.region none [⟨some 7, .move (.t 0), none⟩,
    ⟨some 8, .move (.t 1), none⟩,
    ⟨some 9, .bin .mul (.t 8) (.c (.int .u64 6257)), none⟩,
    ⟨some 10, .move (.t 0), none⟩,
    ⟨some 11, .len (.t 10), none⟩,
    ⟨some 12, .conv .u64 (.t 11), none⟩,
    ⟨some 13, .bin .add (.t 9) (.t 12), none⟩,
    ⟨some 14, .build ([.slice none 0 0] ++ [.int .i64 0] ++ [.int .u64 0]) [(0, 1, (.t 7)), (2, 1, (.t 13))], none⟩,
    ⟨some 15, .box (.t 14), none⟩,
    ⟨some 5, .move (.t 15), none⟩])
def A_laws_roll.r2 : ACode := (.region none [⟨some 6, .move (.c (.int .i64 0)), none⟩])
def A_laws_roll.r3 : ACode := (.region none [⟨some 16, .move (.t 6), none⟩,
    ⟨some 17, .move (.t 0), none⟩,
    ⟨some 18, .len (.t 17), none⟩,
    ⟨some 19, .bin .lss (.t 16) (.t 18), none⟩])
def A_laws_roll.r5 : ACode := (.region (some 15) [⟨some 22, .move (.t 5), none⟩,
    ⟨some 23, .move (.t 5), none⟩,
    ⟨some 24, .nilCheck (.t 23), none⟩,
    ⟨some 25, .fieldAddr 2 (.t 24), none⟩,
    ⟨some 26, .load none (.t 25), none⟩,
    ⟨some 27, .bin .mul (.t 26) (.c (.int .u64 1099511628211)), none⟩,
    ⟨some 28, .move (.t 0), none⟩,
    ⟨some 29, .move (.t 6), none⟩,
    ⟨some 30, .indexAddr none 1 (.t 28) (.t 29), none⟩,
    ⟨some 31, .load none (.t 30), none⟩,
    ⟨some 32, .conv .u64 (.t 31), none⟩,
    ⟨some 33, .bin .add (.t 27) (.t 32), none⟩,
    ⟨some 34, .bin .add (.t 33) (.c (.int .u64 5)), none⟩,
    ⟨some 35, .nilCheck (.t 22), none⟩,
    ⟨some 36, .fieldAddr 2 (.t 35), none⟩,
    ⟨none, .store 1 (.t 36) (.t 34), none⟩])
def A_laws_roll.r4 : ACode := (.region none [⟨some 20, .move (.t 6), none⟩,
    ⟨some 21, .bin .add (.t 20) (.c (.int .i64 1)), none⟩,
    ⟨some 6, .move (.t 21), none⟩])
def A_laws_roll.l0 : ACode := (.seq (.seq A_laws_roll.r3 (.cond (.t 19) .skip (.exit 0))) (.seq (.block 1 A_laws_roll.r5) A_laws_roll.r4))
def A_laws_roll.r6 : ACode := (.region none [⟨some 37, .move (.t 5), none⟩,
    ⟨some 4, .move (.t 37), none⟩])
def A_laws_roll : AFunc := ⟨[.tmp 4], (.seq A_laws_roll.r0 (.seq A_laws_roll.r1 (.seq (.seq A_laws_roll.r2 (.block 0 (.loop A_laws_roll.l0))) (.seq A_laws_roll.r6 .ret))))⟩
/-! laws_dice_below -/
def A_laws_dice_below.r0 : ACode := (.region none [⟨some 4, .move (.c (.int .i64 0)), none⟩])
def A_laws_dice_below.r1 : ACode := (.region none [⟨some 6, .move (.t 1), none⟩,
    ⟨some 7, .bin .lss (.t 6) (.c (.int .i64 1)), none⟩])
def A_laws_dice_below.r2 : ACode := (.region none [⟨some 4, .move (.c (.int .i64 0)), none⟩])
def A_laws_dice_below.r3 : ACode := (.region none [⟨some 8, .move (.t 0), none⟩,
    ⟨some 9, .move (.t 0), none⟩,
    ⟨some 10, .nilCheck (.t 9), none⟩,
    ⟨some 11, .fieldAddr 2 (.t 10), none⟩,
    ⟨some 12, .load none (.t 11), none⟩,
    ⟨some 13, .bin .mul (.t 12) (.c (.int .u64 6364136223846793005)), none⟩,
    ⟨some 14, .bin .add (.t 13) (.c (.int .u64 1442695040888963407)), none⟩,
    ⟨some 15, .nilCheck (.t 8), none⟩,
    ⟨some 16, .fieldAddr 2 (.t 15), none⟩,
    ⟨none, .store 1 (.t 16) (.t 14), none⟩])
def A_laws_dice_below.r4 : ACode := (.region none [⟨some 17, .move (.t 0), none⟩,
    ⟨some 18, .nilCheck (.t 17), none⟩,
    ⟨some 19, .fieldAddr 2 (.t 18), none⟩,
    ⟨some 20, .load none (.t 19), none⟩,
    ⟨some 21, .bin .shr (.t 20) (.c (.int .u64 33)), none⟩,
    ⟨some 22, .bin .and (.t 21) (.c (.int .u64 16777215)), none⟩,
    ⟨some 23, .conv .i64 (.t 22), none⟩,
    ⟨some 5, .move (.t 23), none⟩])
def A_laws_dice_below.r5 : ACode := (.region (some 10) [⟨some 24, .move (.t 0), none⟩,
    ⟨some 25, .nilCheck (.t 24), none⟩,
    ⟨some 26, .fieldAddr 1 (.t 25), none⟩,
    ⟨some 27, .load none (.t 26), none⟩,
    ⟨some 28, .move (.t 0), none⟩,
    ⟨some 29, .nilCheck (.t 28), none⟩,
    ⟨some 30, .fieldAddr 0 (.t 29), none⟩,
    ⟨some 31, .load none (.t 30), none⟩,
    ⟨some 32, .len (.t 31), none⟩,
    ⟨some 33, .bin .lss (.t 27) (.t 32), none⟩])
def A_laws_dice_below.r6 : ACode := (.region (some 14) [⟨some 34, .move (.t 5), none⟩,
    ⟨some 35, .move (.t 0), none⟩,
    ⟨some 36, .nilCheck (.t 35), none⟩,
    ⟨some 37, .fieldAddr 0 (.t 36), none⟩,
    ⟨some 38, .load none (.t 37), none⟩,
    ⟨some 39, .move (.t 0), none⟩,
    ⟨some 40, .nilCheck (.t 39), none⟩,
    ⟨some 41, .fieldAddr 1 (.t 40), none⟩,
    ⟨some 42, .load none (.t 41), none⟩,
    ⟨some 43, .indexAddr none 1 (.t 38) (.t 42), none⟩,
    ⟨some 44, .load none (.t 43), none⟩,
    ⟨some 45, .conv .i64 (.t 44), none⟩,
    ⟨some 46, .bin .add (.t 34) (.t 45), none⟩,
    ⟨some 5, .move (.t 46), none⟩])
def A_laws_dice_below.r7 : ACode := (.region none [⟨some 47, .move (.t 0), none⟩,
    ⟨some 48, .move (.t 0), none⟩,
    ⟨some 49, .nilCheck (.t 48), none⟩,
    ⟨some 50, .fieldAddr 1 (.t 49), none⟩,
    ⟨some 51, .load none (.t 50), none⟩,
    ⟨some 52, .bin .add (.t 51) (.c (.int .i64 1)), none⟩,
    ⟨some 53, .nilCheck (.t 47), none⟩,
    ⟨some 54, .fieldAddr 1 (.t 53), none⟩,
    ⟨none, .store 1 (.t 54) (.t 52), none⟩])
def A_laws_dice_below.r8 : ACode := (.region none [⟨some 55, .move (.t 5), none⟩,
    ⟨some 56, .move (.t 1), none⟩,
    ⟨some 57, .bin .rem (.t 55) (.t 56), none⟩,
    ⟨some 4, .move (.t 57), none⟩])
def A_laws_dice_below : AFunc := ⟨[.tmp 4], (.seq A_laws_dice_below.r0 (.seq (.seq A_laws_dice_below.r1 (.cond (.t 7) (.seq A_laws_dice_below.r2 .ret) .skip)) (.seq A_laws_dice_below.r3 (.seq A_laws_dice_below.r4 (.seq (.seq A_laws_dice_below.r5 (.cond (.t 33) (.seq A_laws_dice_below.r6 A_laws_dice_below.r7) .skip)) (.seq A_laws_dice_below.r8 .ret))))))⟩
/-! spec_DrawMultiplicitiesOf -/
def A_spec_DrawMultiplicitiesOf.r0 : ACode := (.region none [⟨some 2, .move (.c (.slice none 0 0)), none⟩,
    ⟨some 3, .move (.c (.int .i64 0)), none⟩])
def A_spec_DrawMultiplicitiesOf.r1 : ACode := (.region none [⟨some 7, .move (.t 0), none⟩,
    ⟨some 8, .call 46 [(.t 7)], none⟩,
    ⟨some 6, .move (.t 8), none⟩,
    ⟨some 9, .extract (.t 6) 0, none⟩,
    ⟨some 10, .extract (.t 6) 1, none⟩,
    ⟨some 4, .move (.t 9), none⟩,
    ⟨some 5, .move (.t 10), none⟩])
def A_spec_DrawMultiplicitiesOf.r2 : ACode := (.region none [⟨some 11, .move (.t 4), none⟩,
    ⟨some 12, .move (.t 5), none⟩,
    ⟨some 2, .move (.t 11), none⟩,
    ⟨some 3, .move (.t 12), none⟩])
def A_spec_DrawMultiplicitiesOf : AFunc := ⟨[.tmp 2, .tmp 3], (.seq A_spec_DrawMultiplicitiesOf.r0 (.seq A_spec_DrawMultiplicitiesOf.r1 (.seq A_spec_DrawMultiplicitiesOf.r2 .ret)))⟩
/-! spec_DrawIsShabat -/
def A_spec_DrawIsShabat.r0 : ACode := (.region none [⟨some 2, .move (.c (.slice none 0 0)), none⟩,
    ⟨some 3, .move (.c (.int .i64 0)), none⟩,
    ⟨some 4, .move (.c (.int .i64 0)), none⟩])
def A_spec_DrawIsShabat.r1 : ACode := (.region none [⟨some 7, .move (.t 0), none⟩,
    ⟨some 8, .call 97 [(.t 7)], none⟩,
    ⟨some 5, .move (.t 8), none⟩])
def A_spec_DrawIsShabat.r2 : ACode := (.region none [⟨some 9, .move (.t 5), none⟩,
    ⟨some 10, .call 100 [(.t 9)], none⟩,
    ⟨some 6, .move (.t 10), none⟩])
def A_spec_DrawIsShabat.r3 : ACode := (.region none [⟨some 11, .move (.t 5), none⟩,
    ⟨some 12, .call 102 [(.t 11), (.c (.int .i64 3))], none⟩])
def A_spec_DrawIsShabat.r4 : ACode := (.region none [⟨some 14, .bin .eql (.t 12) (.c (.int .i64 0)), none⟩,
    ⟨some 13, .move (.t 14), none⟩])
def A_spec_DrawIsShabat.r5 : ACode := (.region none [⟨some 15, .move (.t 6), none⟩,
    ⟨some 2, .move (.t 15), none⟩,
    ⟨some 3, .move (.c (.int .i64 0)), none⟩,
    ⟨some 4, .move (.c (.int .i64 1)), none⟩])
def A_spec_DrawIsShabat.r6 : ACode := (.region none [⟨some 17, .bin .eql (.t 12) (.c (.int .i64 1)), none⟩,
    ⟨some 16, .move (.t 17), none⟩])
def A_spec_DrawIsShabat.r7 : ACode := (.region none [⟨some 18, .move (.t 6), none⟩,
    ⟨some 2, .move (.t 18), none⟩,
    ⟨some 3, .move (.c (.int .i64 1)), none⟩,
    ⟨some 4, .move (.c (.int .i64 10006)), none⟩])
def A_spec_DrawIsShabat.r8 : ACode := (.region none [⟨some 19, .move (.t 6), none⟩,
    ⟨some 20, .move (.t 5), none⟩,
    ⟨some 21, .call 101 [(.t 20)], none⟩,
    ⟨some 22, .move (.t 5), none⟩,
    ⟨some 23, .call 101 [(.t 22)], none⟩,
    ⟨some 2, .move (.t 19), none⟩,
    ⟨some 3, .move (.t 21), none⟩,
    ⟨some 4, .move (.t 23), none⟩])
def A_spec_DrawIsShabat : AFunc := ⟨[.tmp 2, .tmp 3, .tmp 4], (.seq A_spec_DrawIsShabat.r0 (.seq A_spec_DrawIsShabat.r1 (.seq A_spec_DrawIsShabat.r2 (.seq (.seq A_spec_DrawIsShabat.r3 (.block 0 (.seq A_spec_DrawIsShabat.r4 (.cond (.t 13) (.seq A_spec_DrawIsShabat.r5 .ret) (.seq A_spec_DrawIsShabat.r6 (.cond (.t 16) (.seq A_spec_DrawIsShabat.r7 .ret) .skip)))))) (.seq A_spec_DrawIsShabat.r8 .ret)))))⟩
/-! laws_lists9 -/
def A_laws_lists9.r0 : ACode := (.region none [⟨some 4, .move (.c (.bool false)), none⟩])
def A_laws_lists9.r1 : ACode := (.region none [⟨some 6, .move (.t 0), none⟩,
    ⟨some 7, .len (.t 6), none⟩,
    ⟨some 8, .move (.t 1), none⟩,
    ⟨some 9, .len (.t 8), none⟩,
    ⟨some 10, .bin .neq (.t 7) (.t 9), none⟩])
def A_laws_lists9.r2 : ACode := (.region none [⟨some 4, .move (.c (.bool false)), none⟩])
def A_laws_lists9.r3 : ACode := (.region none [⟨some 5, .move (.c (.int .i64 0)), none⟩])
def A_laws_lists9.r4 : ACode := (.region none [⟨some 11, .move (.t 5), none⟩,
    ⟨some 12, .move (.t 0), none⟩,
    ⟨some 13, .len (.t 12), none⟩,
    ⟨some 14, .bin .lss (.t 11) (.t 13), none⟩])
def A_laws_lists9.r6 : ACode := (.region (some 10) [⟨some 17, .move (.t 0), none⟩,
    ⟨some 18, .move (.t 5), none⟩,
    ⟨some 19, .indexAddr none 1 (.t 17) (.t 18), none⟩,
    ⟨some 20, .load none (.t 19), none⟩,
    ⟨some 21, .move (.t 1), none⟩,
    ⟨some 22, .move (.t 5), none⟩,
    ⟨some 23, .indexAddr none 1 (.t 21) (.t 22), none⟩,
    ⟨some 24, .load none (.t 23), none⟩,
    ⟨some 25, .call 43 [(.t 20), (.t 24)], none⟩,
    ⟨some 26, .not (.t 25), none⟩])
def A_laws_lists9.r7 : ACode := (.region none [⟨some 4, .move (.c (.bool false)), none⟩])
def A_laws_lists9.r5 : ACode := (.region none [⟨some 15, .move (.t 5), none⟩,
    ⟨some 16, .bin .add (.t 15) (.c (.int .i64 1)), none⟩,
    ⟨some 5, .move (.t 16), none⟩])
def A_laws_lists9.l0 : ACode := (.seq (.seq A_laws_lists9.r4 (.cond (.t 14) .skip (.exit 0))) (.seq (.block 1 (.seq A_laws_lists9.r6 (.cond (.t 26) (.seq A_laws_lists9.r7 .ret) .skip))) A_laws_lists9.r5))
def A_laws_lists9.r8 : ACode := (.region none [⟨some 4, .move (.c (.bool true)), none⟩])
def A_laws_lists9 : AFunc := ⟨[.tmp 4], (.seq A_laws_lists9.r0 (.seq (.seq A_laws_lists9.r1 (.cond (.t 10) (.seq A_laws_lists9.r2 .ret) .skip)) (.seq (.seq A_laws_lists9.r3 (.block 0 (.loop A_laws_lists9.l0))) (.seq A_laws_lists9.r8 .ret))))⟩
/-! spec_DrawStarPolynomial -/
def A_spec_DrawStarPolynomial.r0 : ACode := (.region none [⟨some 2, .move (.c (.int .i64 0)), none⟩])
def A_spec_DrawStarPolynomial.r1 : ACode := (.region none [⟨some 3, .move (.t 0), none⟩,
    ⟨some 4, .call 97 [(.t 3)], none⟩,
    ⟨some 5, .call 102 [(.t 4), (.c (.int .i64 18))], none⟩,
    ⟨some 2, .move (.t 5), none⟩])
def A_spec_DrawStarPolynomial : AFunc := ⟨[.tmp 2], (.seq A_spec_DrawStarPolynomial.r0 (.seq A_spec_DrawStarPolynomial.r1 .ret))⟩
/-! spec_DrawChainPolynomial -/
def A_spec_DrawChainPolynomial.r0 : ACode := (.region none [⟨some 2, .move (.c (.int .i64 0)), none⟩])
def A_spec_DrawChainPolynomial.r1 : ACode := (.region none [⟨some 3, .move (.t 0), none⟩,
    ⟨some 4, .call 97 [(.t 3)], none⟩,
    ⟨some 5, .call 102 [(.t 4), (.c (.int .i64 18))], none⟩,
    ⟨some 2, .move (.t 5), none⟩])
def A_spec_DrawChainPolynomial : AFunc := ⟨[.tmp 2], (.seq A_spec_DrawChainPolynomial.r0 (.seq A_spec_DrawChainPolynomial.r1 .ret))⟩
/-! spec_DrawForkPolynomial -/
def A_spec_DrawForkPolynomial.r0 : ACode := (.region none [⟨some 2, .move (.c (.int .i64 0)), none⟩,
    ⟨some 3, .move (.c (.int .i64 0)), none⟩])
def A_spec_DrawForkPolynomial.r1 : ACode := (.region none [⟨some 5, .move (.t 0), none⟩,
    ⟨some 6, .call 97 [(.t 5)], none⟩,
    ⟨some 4, .move (.t 6), none⟩])
def A_spec_DrawForkPolynomial.r2 : ACode := (.region none [⟨some 7, .move (.t 4), none⟩,
    ⟨some 8, .call 102 [(.t 7), (.c (.int .i64 9))], none⟩,
    ⟨some 9, .move (.t 4), none⟩,
    ⟨some 10, .call 102 [(.t 9), (.c (.int .i64 10))], none⟩,
    ⟨some 2, .move (.t 8), none⟩,
    ⟨some 3, .move (.t 10), none⟩])
def A_spec_DrawForkPolynomial : AFunc := ⟨[.tmp 2, .tmp 3], (.seq A_spec_DrawForkPolynomial.r0 (.seq A_spec_DrawForkPolynomial.r1 (.seq A_spec_DrawForkPolynomial.r2 .ret)))⟩
/-! laws_sum -/
def A_laws_sum.r0 : ACode := (.region none [⟨some 2, .move (.c (.int .i64 0)), none⟩])
def A_laws_sum.r1 : ACode := (.region none [⟨some 3, .move (.c (.int .i64 0)), none⟩])
def A_laws_sum.r2 : ACode := (.region none [⟨some 4, .move (.c (.int .i64 0)), none⟩])
def A_laws_sum.r3 : ACode := (.region none [⟨some 5, .move (.t 4), none⟩,
    ⟨some 6, .move (.t 0), none⟩,
    ⟨some 7, .len (.t 6), none⟩,
    ⟨some 8, .bin .lss (.t 5) (.t 7), none⟩])
def A_laws_sum.r5 : ACode := (.region none [⟨some 11, .move (.t 3), none⟩,
    ⟨some 12, .move (.t 0), none⟩,
    ⟨some 13, .move (.t 4), none⟩,
    ⟨some 14, .indexAddr none 1 (.t 12) (.t 13), none⟩,
    ⟨some 15, .load none (.t 14), none⟩,
    ⟨some 16, .bin .add (.t 11) (.t 15), none⟩,
    ⟨some 3, .move (.t 16), none⟩])
def A_laws_sum.r4 : ACode := (.region none [⟨some 9, .move (.t 4), none⟩,
    ⟨some 10, .bin .add (.t 9) (.c (.int .i64 1)), none⟩,
    ⟨some 4, .move (.t 10), none⟩])
def A_laws_sum.l0 : ACode := (.seq (.seq A_laws_sum.r3 (.cond (.t 8) .skip (.exit 0))) (.seq (.block 1 A_laws_sum.r5) A_laws_sum.r4))
def A_laws_sum.r6 : ACode := (.region none [⟨some 17, .move (.t 3), none⟩,
    ⟨some 2, .move (.t 17), none⟩])
def A_laws_sum : AFunc := ⟨[.tmp 2], (.seq A_laws_sum.r0 (.seq A_laws_sum.r1 (.seq (.seq A_laws_sum.r2 (.block 0 (.loop A_laws_sum.l0))) (.seq A_laws_sum.r6 .ret))))⟩
end Go.Am
