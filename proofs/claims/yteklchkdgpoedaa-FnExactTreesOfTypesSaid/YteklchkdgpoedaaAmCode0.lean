/- The code of the functions that the claim reaches, in the small machine's form: written by a program of mine, off the loaded program; the checks compare the two. -/
import Derived.Test.YteklchkdgpoedaaAmCore
set_option linter.unusedVariables false
set_option maxRecDepth 100000
namespace Go.Am
open Go
/-! laws_FnExactTreesOfTypes -/
def A_laws_FnExactTreesOfTypes.r0 : ACode := (.region none [oP 4 (.move (.c (.bool false)))])
def A_laws_FnExactTreesOfTypes.r1 : ACode := (.region none [oM 16 0,
oP 17 (.len (.t 16)),
oP 18 (.bin .gtr (.t 17) (.c (.int .i64 1048576)))])
def A_laws_FnExactTreesOfTypes.r2 : ACode := (.region none [oP 4 (.move (.c (.bool true)))])
def A_laws_FnExactTreesOfTypes.r3 : ACode := (.region none [oM 19 1,
oP 20 (.len (.t 19)),
oP 21 (.bin .gtr (.t 20) (.c (.int .i64 1048576)))])
def A_laws_FnExactTreesOfTypes.r4 : ACode := (.region none [oP 4 (.move (.c (.bool true)))])
def A_laws_FnExactTreesOfTypes.r5 : ACode := (.region none [oM 23 0,
oP 24 (.call 0 [.t 23]),
oM 25 1,
oP 26 (.call 0 [.t 25]),
oP 27 (.call 302 [.t 24, .t 26]),
oM 22 27,
oP 28 (.extract (.t 22) 0),
oP 29 (.extract (.t 22) 1),
oM 5 28,
oM 6 29])
def A_laws_FnExactTreesOfTypes.r6 : ACode := (.region none [oM 30 0,
oP 31 (.call 0 [.t 30]),
oM 7 31])
def A_laws_FnExactTreesOfTypes.r7 : ACode := (.region none [oM 32 1,
oP 33 (.call 0 [.t 32]),
oM 8 33])
def A_laws_FnExactTreesOfTypes.r8 : ACode := (.region none [oM 35 7,
oM 36 8,
oP 37 (.call 303 [.t 35, .t 36]),
oM 34 37,
oP 38 (.extract (.t 34) 0),
oP 39 (.extract (.t 34) 1),
oM 9 38,
oM 10 39])
def A_laws_FnExactTreesOfTypes.r9 : ACode := (.region none [oM 40 9,
oM 41 5,
oP 42 (.call 304 [.t 40, .t 41]),
oP 43 (.not (.t 42)),
oM 44 43,
⟨some 45, .move (.t 10), some (44, false)⟩,
⟨some 46, .move (.t 6), some (44, false)⟩,
⟨some 47, .bin .neq (.t 45) (.t 46), some (44, false)⟩,
oP 48 (.pick (.t 44) (.c (.bool true)) (.t 47))])
def A_laws_FnExactTreesOfTypes.r10 : ACode := (.region none [oP 4 (.move (.c (.bool false)))])
def A_laws_FnExactTreesOfTypes.r11 : ACode := (.region none [oM 49 7,
oM 50 0,
oP 51 (.call 0 [.t 50]),
oP 52 (.call 3 [.t 49, .t 51]),
oP 53 (.not (.t 52))])
def A_laws_FnExactTreesOfTypes.r12 : ACode := (.region none [oP 4 (.move (.c (.bool false)))])
def A_laws_FnExactTreesOfTypes.r13 : ACode := (.region none [oM 54 8,
oM 55 1,
oP 56 (.call 0 [.t 55]),
oP 57 (.call 3 [.t 54, .t 56]),
oP 58 (.not (.t 57))])
def A_laws_FnExactTreesOfTypes.r14 : ACode := (.region none [oP 4 (.move (.c (.bool false)))])
def A_laws_FnExactTreesOfTypes.r15 : ACode := (.region none [oP 11 (.move (.c (.int .i64 1)))])
def A_laws_FnExactTreesOfTypes.r16 : ACode := (.region none [oM 59 7,
oM 60 11,
oP 61 (.call 6 [.t 59, .t 60]),
oM 11 61])
def A_laws_FnExactTreesOfTypes.r17 : ACode := (.region none [oM 62 8,
oM 63 11,
oP 64 (.call 6 [.t 62, .t 63]),
oM 11 64])
def A_laws_FnExactTreesOfTypes.r18 : ACode := (.region none [oM 65 11,
oP 66 (.bin .lss (.t 65) (.c (.int .i64 0))),
oM 67 66,
⟨some 68, .move (.t 9), some (67, false)⟩,
⟨some 69, .move (.t 5), some (67, false)⟩,
⟨some 70, .call 304 [.t 68, .t 69], some (67, false)⟩,
⟨some 71, .not (.t 70), some (67, false)⟩,
oP 72 (.pick (.t 67) (.c (.bool true)) (.t 71)),
oM 73 72,
⟨some 74, .move (.t 10), some (73, false)⟩,
⟨some 75, .move (.t 6), some (73, false)⟩,
⟨some 76, .bin .neq (.t 74) (.t 75), some (73, false)⟩,
oP 77 (.pick (.t 73) (.c (.bool true)) (.t 76))])
def A_laws_FnExactTreesOfTypes.r19 : ACode := (.region none [oP 4 (.move (.c (.bool false)))])
def A_laws_FnExactTreesOfTypes.r20 : ACode := (.region none [oP 12 (.move (.c (.int .i64 1)))])
def A_laws_FnExactTreesOfTypes.r21 : ACode := (.region none [oM 78 9,
oM 79 12,
oP 80 (.call 305 [.t 78, .t 79]),
oM 12 80])
def A_laws_FnExactTreesOfTypes.r22 : ACode := (.region none [oP 13 (.move (.c (.int .i64 1)))])
def A_laws_FnExactTreesOfTypes.r23 : ACode := (.region none [oM 81 9,
oM 82 13,
oP 83 (.call 306 [.t 81, .t 82]),
oM 13 83])
def A_laws_FnExactTreesOfTypes.r24 : ACode := (.region none [oM 84 13,
oP 85 (.bin .lss (.t 84) (.c (.int .i64 0)))])
def A_laws_FnExactTreesOfTypes.r25 : ACode := (.region none [oP 4 (.move (.c (.bool false)))])
def A_laws_FnExactTreesOfTypes.r26 : ACode := (.region none [oM 86 13,
oM 87 12,
oP 88 (.bin .neq (.t 86) (.t 87))])
def A_laws_FnExactTreesOfTypes.r27 : ACode := (.region none [oP 4 (.move (.c (.bool false)))])
def A_laws_FnExactTreesOfTypes.r28 : ACode := (.region none [oM 90 0,
oP 91 (.call 0 [.t 90]),
oM 92 1,
oP 93 (.call 0 [.t 92]),
oP 94 (.call 303 [.t 91, .t 93]),
oM 89 94,
oP 95 (.extract (.t 89) 0),
oP 96 (.extract (.t 89) 1),
oM 14 95,
oM 15 96])
def A_laws_FnExactTreesOfTypes.r29 : ACode := (.region none [oM 97 14,
oM 98 5,
oP 99 (.call 304 [.t 97, .t 98]),
oP 100 (.not (.t 99)),
oM 101 100,
⟨some 102, .move (.t 15), some (101, false)⟩,
⟨some 103, .move (.t 6), some (101, false)⟩,
⟨some 104, .bin .neq (.t 102) (.t 103), some (101, false)⟩,
oP 105 (.pick (.t 101) (.c (.bool true)) (.t 104))])
def A_laws_FnExactTreesOfTypes.r30 : ACode := (.region none [oP 4 (.move (.c (.bool false)))])
def A_laws_FnExactTreesOfTypes.r31 : ACode := (.region none [oP 13 (.move (.c (.int .i64 1)))])
def A_laws_FnExactTreesOfTypes.r32 : ACode := (.region none [oM 106 9,
oM 107 13,
oP 108 (.call 306 [.t 106, .t 107]),
oM 13 108])
def A_laws_FnExactTreesOfTypes.r33 : ACode := (.region none [oM 109 13,
oP 110 (.bin .lss (.t 109) (.c (.int .i64 0)))])
def A_laws_FnExactTreesOfTypes.r34 : ACode := (.region none [oP 4 (.move (.c (.bool false)))])
def A_laws_FnExactTreesOfTypes.r35 : ACode := (.region none [oM 111 13,
oM 112 12,
oP 113 (.bin .neq (.t 111) (.t 112))])
def A_laws_FnExactTreesOfTypes.r36 : ACode := (.region none [oP 4 (.move (.c (.bool false)))])
def A_laws_FnExactTreesOfTypes.r37 : ACode := (.region none [oP 4 (.move (.c (.bool true)))])
def A_laws_FnExactTreesOfTypes : AFunc := ⟨[.tmp 4], (.seq A_laws_FnExactTreesOfTypes.r0 (.seq (.seq A_laws_FnExactTreesOfTypes.r1 (.cond (.t 18) (.seq A_laws_FnExactTreesOfTypes.r2 .ret) .skip)) (.seq (.seq A_laws_FnExactTreesOfTypes.r3 (.cond (.t 21) (.seq A_laws_FnExactTreesOfTypes.r4 .ret) .skip)) (.seq A_laws_FnExactTreesOfTypes.r5 (.seq A_laws_FnExactTreesOfTypes.r6 (.seq A_laws_FnExactTreesOfTypes.r7 (.seq A_laws_FnExactTreesOfTypes.r8 (.seq (.seq A_laws_FnExactTreesOfTypes.r9 (.cond (.t 48) (.seq A_laws_FnExactTreesOfTypes.r10 .ret) .skip)) (.seq (.seq A_laws_FnExactTreesOfTypes.r11 (.cond (.t 53) (.seq A_laws_FnExactTreesOfTypes.r12 .ret) .skip)) (.seq (.seq A_laws_FnExactTreesOfTypes.r13 (.cond (.t 58) (.seq A_laws_FnExactTreesOfTypes.r14 .ret) .skip)) (.seq A_laws_FnExactTreesOfTypes.r15 (.seq A_laws_FnExactTreesOfTypes.r16 (.seq A_laws_FnExactTreesOfTypes.r17 (.seq (.seq A_laws_FnExactTreesOfTypes.r18 (.cond (.t 77) (.seq A_laws_FnExactTreesOfTypes.r19 .ret) .skip)) (.seq A_laws_FnExactTreesOfTypes.r20 (.seq A_laws_FnExactTreesOfTypes.r21 (.seq A_laws_FnExactTreesOfTypes.r22 (.seq A_laws_FnExactTreesOfTypes.r23 (.seq (.seq A_laws_FnExactTreesOfTypes.r24 (.cond (.t 85) (.seq A_laws_FnExactTreesOfTypes.r25 .ret) .skip)) (.seq (.seq A_laws_FnExactTreesOfTypes.r26 (.cond (.t 88) (.seq A_laws_FnExactTreesOfTypes.r27 .ret) .skip)) (.seq A_laws_FnExactTreesOfTypes.r28 (.seq (.seq A_laws_FnExactTreesOfTypes.r29 (.cond (.t 105) (.seq A_laws_FnExactTreesOfTypes.r30 .ret) .skip)) (.seq A_laws_FnExactTreesOfTypes.r31 (.seq A_laws_FnExactTreesOfTypes.r32 (.seq (.seq A_laws_FnExactTreesOfTypes.r33 (.cond (.t 110) (.seq A_laws_FnExactTreesOfTypes.r34 .ret) .skip)) (.seq (.seq A_laws_FnExactTreesOfTypes.r35 (.cond (.t 113) (.seq A_laws_FnExactTreesOfTypes.r36 .ret) .skip)) (.seq A_laws_FnExactTreesOfTypes.r37 .ret)))))))))))))))))))))))))))⟩
/-! spec_TreesOfTypes -/
def A_spec_TreesOfTypes.r0 : ACode := (.region none [oP 4 (.move (.c (.slice none 0 0))),
oP 5 (.move (.c (.int .i64 0)))])
def A_spec_TreesOfTypes.r1 : ACode := (.region none [oM 15 0,
oM 16 1,
oP 17 (.call 64 [.t 15, .t 16]),
oM 14 17,
oP 18 (.extract (.t 14) 0),
oP 19 (.extract (.t 14) 1),
oM 6 18,
oM 7 19])
def A_spec_TreesOfTypes.r2 : ACode := (.region none [oM 20 7,
oP 21 (.not (.t 20)),
oM 22 21,
⟨some 23, .move (.t 6), some (22, false)⟩,
⟨some 24, .bin .gtr (.t 23) (.c (.int .i64 8)), some (22, false)⟩,
oP 25 (.pick (.t 22) (.c (.bool true)) (.t 24))])
def A_spec_TreesOfTypes.r3 : ACode := (.region none [oP 4 (.move (.c (.slice none 0 0))),
oP 5 (.move (.c (.int .i64 2)))])
def A_spec_TreesOfTypes.r4 : ACode := (.region none [oM 26 6,
oP 27 (.call 343 [(.c (.string ⟨#[]⟩)), .t 26, (.c (.int .i64 0)), (.c (.slice none 0 0))]),
oP 28 (.buildSlice 1 0 [.string ⟨#[]⟩] []),
oM 8 27,
oM 9 28])
def A_spec_TreesOfTypes.r5 : ACode := (.region none [oP 10 (.move (.c (.int .i64 0)))])
def A_spec_TreesOfTypes.r6 : ACode := (.region none [oM 29 10,
oM 30 8,
oP 31 (.len (.t 30)),
oP 32 (.bin .lss (.t 29) (.t 31))])
def A_spec_TreesOfTypes.r8 : ACode := (.region none [oM 35 8,
oM 36 10,
oP 37 (.indexAddr none 1 (.t 35) (.t 36)),
oP 38 (.load none (.t 37)),
oP 39 (.call 267 [.t 38]),
oP 11 (.alloc ([.int .i64 0] ++ List.replicate 32 (.int .u8 0))),
⟨none, .store 33 (.t 11) (.t 39), none⟩])
def A_spec_TreesOfTypes.r9 : ACode := (.region none [oP 40 (.fieldAddr 1 (.t 11)),
oP 41 (.load (some 16) (.t 40)),
oM 42 6,
oP 43 (.call 284 [.t 41, .t 42]),
oM 44 0,
oP 45 (.call 344 [.t 43, .t 44]),
oP 46 (.not (.t 45)),
oM 47 46,
⟨some 48, .fieldAddr 17 (.t 11), some (47, false)⟩,
⟨some 49, .load (some 16) (.t 48), some (47, false)⟩,
⟨some 50, .move (.t 6), some (47, false)⟩,
⟨some 51, .call 284 [.t 49, .t 50], some (47, false)⟩,
⟨some 52, .move (.t 1), some (47, false)⟩,
⟨some 53, .call 344 [.t 51, .t 52], some (47, false)⟩,
⟨some 54, .not (.t 53), some (47, false)⟩,
oP 55 (.pick (.t 47) (.c (.bool true)) (.t 54))])
def A_spec_TreesOfTypes.r10 : ACode := (.region none [oP 57 (.load (some 33) (.t 11)),
oP 58 (.call 276 [.t 57]),
oM 56 58,
oP 59 (.extract (.t 56) 0),
oP 60 (.extract (.t 56) 1),
oM 12 59,
oM 13 60])
def A_spec_TreesOfTypes.r11 : ACode := (.region none [oM 61 12,
oM 62 8,
oM 63 10,
oP 64 (.indexAddr none 1 (.t 62) (.t 63)),
oP 65 (.load none (.t 64)),
oP 66 (.sbin .eql (.t 61) (.t 65))])
def A_spec_TreesOfTypes.r12 : ACode := (.region none [oM 67 9,
oM 68 12,
oP 69 (.buildSlice 1 1 [.string ⟨#[]⟩] [(0, 1, .t 68)]),
oP 70 (.append 1 16 (.t 67) (.t 69)),
oM 9 70])
def A_spec_TreesOfTypes.r7 : ACode := (.region none [oM 33 10,
oP 34 (.bin .add (.t 33) (.c (.int .i64 1))),
oM 10 34])
def A_spec_TreesOfTypes.l0 : ACode := (.seq (.seq A_spec_TreesOfTypes.r6 (.cond (.t 32) .skip (.exit 0))) (.seq (.block 1 (.seq A_spec_TreesOfTypes.r8 (.seq (.seq A_spec_TreesOfTypes.r9 (.cond (.t 55) (.exit 1) .skip)) (.seq A_spec_TreesOfTypes.r10 (.seq A_spec_TreesOfTypes.r11 (.cond (.t 66) A_spec_TreesOfTypes.r12 .skip)))))) A_spec_TreesOfTypes.r7))
def A_spec_TreesOfTypes.r13 : ACode := (.region none [oM 71 9,
oM 4 71,
oP 5 (.move (.c (.int .i64 0)))])
def A_spec_TreesOfTypes : AFunc := ⟨[.tmp 4, .tmp 5], (.seq A_spec_TreesOfTypes.r0 (.seq A_spec_TreesOfTypes.r1 (.seq (.seq A_spec_TreesOfTypes.r2 (.cond (.t 25) (.seq A_spec_TreesOfTypes.r3 .ret) .skip)) (.seq A_spec_TreesOfTypes.r4 (.seq (.seq A_spec_TreesOfTypes.r5 (.block 0 (.loop A_spec_TreesOfTypes.l0))) (.seq A_spec_TreesOfTypes.r13 .ret))))))⟩
/-! laws_toInt64S -/
def A_laws_toInt64S.r0 : ACode := (.region none [oP 2 (.move (.c (.slice none 0 0)))])
def A_laws_toInt64S.r1 : ACode := (.region none [oM 5 0,
oP 6 (.len (.t 5)),
oP 7 (.makeSlice 1 8 [.int .i64 0] (.t 6) (.t 6)),
oM 3 7])
def A_laws_toInt64S.r2 : ACode := (.region none [oP 4 (.move (.c (.int .i64 0)))])
def A_laws_toInt64S.r3 : ACode := (.region none [oM 8 4,
oM 9 0,
oP 10 (.len (.t 9)),
oP 11 (.bin .lss (.t 8) (.t 10))])
def A_laws_toInt64S.r5 : ACode := (.region none [oM 14 3,
oM 15 4,
oM 16 0,
oM 17 4,
oP 18 (.indexAddr none 1 (.t 16) (.t 17)),
oP 19 (.load none (.t 18)),
oP 20 (.indexAddr none 1 (.t 14) (.t 15)),
⟨none, .store 1 (.t 20) (.t 19), none⟩])
def A_laws_toInt64S.r4 : ACode := (.region none [oM 12 4,
oP 13 (.bin .add (.t 12) (.c (.int .i64 1))),
oM 4 13])
def A_laws_toInt64S.l0 : ACode := (.seq (.seq A_laws_toInt64S.r3 (.cond (.t 11) .skip (.exit 0))) (.seq (.block 1 A_laws_toInt64S.r5) A_laws_toInt64S.r4))
def A_laws_toInt64S.r6 : ACode := (.region none [oM 21 3,
oM 2 21])
def A_laws_toInt64S : AFunc := ⟨[.tmp 2], (.seq A_laws_toInt64S.r0 (.seq A_laws_toInt64S.r1 (.seq (.seq A_laws_toInt64S.r2 (.block 0 (.loop A_laws_toInt64S.l0))) (.seq A_laws_toInt64S.r6 .ret))))⟩
/-! impl_TreesOfTypes -/
def A_impl_TreesOfTypes.r0 : ACode := (.region none [oP 4 (.move (.c (.slice none 0 0))),
oP 5 (.move (.c (.int .i64 0)))])
def A_impl_TreesOfTypes.r1 : ACode := (.region none [oM 13 0,
oM 14 1,
oP 15 (.call 67 [.t 13, .t 14, (.c (.int .i64 8))]),
oP 16 (.not (.t 15))])
def A_impl_TreesOfTypes.r2 : ACode := (.region none [oP 4 (.move (.c (.slice none 0 0))),
oP 5 (.move (.c (.int .i64 2)))])
def A_impl_TreesOfTypes.r3 : ACode := (.region none [oP 17 (.buildSlice 1 0 [.string ⟨#[]⟩] []),
oM 6 17])
def A_impl_TreesOfTypes.r4 : ACode := (.region none [oM 18 0,
oP 19 (.call 68 [.t 18]),
oP 20 (.call 345 [(.c (.int .i64 0)), .t 19]),
oP 21 (.len (.t 20)),
oP 22 (.move (.c (.int .i64 0)))])
def A_impl_TreesOfTypes.r5 : ACode := (.region none [oP 23 (.bin .lss (.t 22) (.t 21))])
def A_impl_TreesOfTypes.r6 : ACode := (.region none [oP 24 (.indexAddr none 1 (.t 20) (.t 22)),
oP 25 (.load none (.t 24)),
oM 8 25])
def A_impl_TreesOfTypes.r7 : ACode := (.region none [oM 26 8,
oP 27 (.call 269 [.t 26]),
oP 9 (.alloc ([.int .i64 0] ++ List.replicate 32 (.int .u8 0))),
⟨none, .store 33 (.t 9) (.t 27), none⟩])
def A_impl_TreesOfTypes.r8 : ACode := (.region none [oP 28 (.load (some 33) (.t 9)),
oP 29 (.call 280 [.t 28]),
oM 10 29])
def A_impl_TreesOfTypes.r9 : ACode := (.region none [oP 31 (.load (some 33) (.t 9)),
oP 32 (.call 277 [.t 31]),
oM 30 32,
oP 33 (.extract (.t 30) 0),
oP 34 (.extract (.t 30) 1),
oM 11 33,
oM 12 34])
def A_impl_TreesOfTypes.r10 : ACode := (.region none [oM 35 11,
oM 36 8,
oP 37 (.sbin .eql (.t 35) (.t 36)),
oM 38 37,
⟨some 39, .move (.t 10), some (38, true)⟩,
⟨some 40, .indexAddr none 1 (.t 39) (.c (.int .i64 0)), some (38, true)⟩,
⟨some 41, .load none (.t 40), some (38, true)⟩,
⟨some 42, .move (.t 0), some (38, true)⟩,
⟨some 43, .call 346 [.t 41, .t 42], some (38, true)⟩,
oP 44 (.pick (.t 38) (.t 43) (.c (.bool false))),
oM 45 44,
⟨some 46, .move (.t 10), some (45, true)⟩,
⟨some 47, .indexAddr none 1 (.t 46) (.c (.int .i64 1)), some (45, true)⟩,
⟨some 48, .load none (.t 47), some (45, true)⟩,
⟨some 49, .move (.t 1), some (45, true)⟩,
⟨some 50, .call 346 [.t 48, .t 49], some (45, true)⟩,
oP 51 (.pick (.t 45) (.t 50) (.c (.bool false)))])
def A_impl_TreesOfTypes.r11 : ACode := (.region none [oM 52 6,
oM 53 8,
oP 54 (.buildSlice 1 1 [.string ⟨#[]⟩] [(0, 1, .t 53)]),
oP 55 (.append 1 16 (.t 52) (.t 54)),
oM 6 55])
def A_impl_TreesOfTypes.r12 : ACode := (.region none [oP 56 (.bin .add (.t 22) (.c (.int .i64 1))),
oM 22 56])
def A_impl_TreesOfTypes.l0 : ACode := (.seq A_impl_TreesOfTypes.r5 (.seq (.cond (.t 23) .skip (.exit 0)) (.seq (.block 1 (.seq A_impl_TreesOfTypes.r6 (.seq A_impl_TreesOfTypes.r7 (.seq A_impl_TreesOfTypes.r8 (.seq A_impl_TreesOfTypes.r9 (.seq A_impl_TreesOfTypes.r10 (.cond (.t 51) A_impl_TreesOfTypes.r11 .skip))))))) A_impl_TreesOfTypes.r12)))
def A_impl_TreesOfTypes.r13 : ACode := (.region none [oM 57 6,
oP 58 (.call 347 [.t 57])])
def A_impl_TreesOfTypes.r14 : ACode := (.region none [oM 59 6,
oP 60 (.call 348 [.t 59]),
oM 4 60,
oP 5 (.move (.c (.int .i64 0)))])
def A_impl_TreesOfTypes : AFunc := ⟨[.tmp 4, .tmp 5], (.seq A_impl_TreesOfTypes.r0 (.seq (.seq A_impl_TreesOfTypes.r1 (.cond (.t 16) (.seq A_impl_TreesOfTypes.r2 .ret) .skip)) (.seq A_impl_TreesOfTypes.r3 (.seq (.seq A_impl_TreesOfTypes.r4 (.block 0 (.loop A_impl_TreesOfTypes.l0))) (.seq A_impl_TreesOfTypes.r13 (.seq A_impl_TreesOfTypes.r14 .ret))))))⟩
/-! laws_eqStringS -/
def A_laws_eqStringS.r0 : ACode := (.region none [oP 4 (.move (.c (.bool false)))])
def A_laws_eqStringS.r1 : ACode := (.region none [oM 6 0,
oP 7 (.len (.t 6)),
oM 8 1,
oP 9 (.len (.t 8)),
oP 10 (.bin .neq (.t 7) (.t 9))])
def A_laws_eqStringS.r2 : ACode := (.region none [oP 4 (.move (.c (.bool false)))])
def A_laws_eqStringS.r3 : ACode := (.region none [oP 5 (.move (.c (.int .i64 0)))])
def A_laws_eqStringS.r4 : ACode := (.region none [oM 11 5,
oM 12 0,
oP 13 (.len (.t 12)),
oP 14 (.bin .lss (.t 11) (.t 13))])
def A_laws_eqStringS.r6 : ACode := (.region (some 9) [oM 17 0,
oM 18 5,
oP 19 (.indexAddr none 1 (.t 17) (.t 18)),
oP 20 (.load none (.t 19)),
oM 21 1,
oM 22 5,
oP 23 (.indexAddr none 1 (.t 21) (.t 22)),
oP 24 (.load none (.t 23)),
oP 25 (.sbin .neq (.t 20) (.t 24))])
def A_laws_eqStringS.r7 : ACode := (.region none [oP 4 (.move (.c (.bool false)))])
def A_laws_eqStringS.r5 : ACode := (.region none [oM 15 5,
oP 16 (.bin .add (.t 15) (.c (.int .i64 1))),
oM 5 16])
def A_laws_eqStringS.l0 : ACode := (.seq (.seq A_laws_eqStringS.r4 (.cond (.t 14) .skip (.exit 0))) (.seq (.block 1 (.seq A_laws_eqStringS.r6 (.cond (.t 25) (.seq A_laws_eqStringS.r7 .ret) .skip))) A_laws_eqStringS.r5))
def A_laws_eqStringS.r8 : ACode := (.region none [oP 4 (.move (.c (.bool true)))])
def A_laws_eqStringS : AFunc := ⟨[.tmp 4], (.seq A_laws_eqStringS.r0 (.seq (.seq A_laws_eqStringS.r1 (.cond (.t 10) (.seq A_laws_eqStringS.r2 .ret) .skip)) (.seq (.seq A_laws_eqStringS.r3 (.block 0 (.loop A_laws_eqStringS.l0))) (.seq A_laws_eqStringS.r8 .ret))))⟩
/-! laws_eqInt64S -/
def A_laws_eqInt64S.r0 : ACode := (.region none [oP 4 (.move (.c (.bool false)))])
def A_laws_eqInt64S.r1 : ACode := (.region none [oM 6 0,
oP 7 (.len (.t 6)),
oM 8 1,
oP 9 (.len (.t 8)),
oP 10 (.bin .neq (.t 7) (.t 9))])
def A_laws_eqInt64S.r2 : ACode := (.region none [oP 4 (.move (.c (.bool false)))])
def A_laws_eqInt64S.r3 : ACode := (.region none [oP 5 (.move (.c (.int .i64 0)))])
def A_laws_eqInt64S.r4 : ACode := (.region none [oM 11 5,
oM 12 0,
oP 13 (.len (.t 12)),
oP 14 (.bin .lss (.t 11) (.t 13))])
def A_laws_eqInt64S.r6 : ACode := (.region (some 9) [oM 17 0,
oM 18 5,
oP 19 (.indexAddr none 1 (.t 17) (.t 18)),
oP 20 (.load none (.t 19)),
oM 21 1,
oM 22 5,
oP 23 (.indexAddr none 1 (.t 21) (.t 22)),
oP 24 (.load none (.t 23)),
oP 25 (.bin .neq (.t 20) (.t 24))])
def A_laws_eqInt64S.r7 : ACode := (.region none [oP 4 (.move (.c (.bool false)))])
def A_laws_eqInt64S.r5 : ACode := (.region none [oM 15 5,
oP 16 (.bin .add (.t 15) (.c (.int .i64 1))),
oM 5 16])
def A_laws_eqInt64S.l0 : ACode := (.seq (.seq A_laws_eqInt64S.r4 (.cond (.t 14) .skip (.exit 0))) (.seq (.block 1 (.seq A_laws_eqInt64S.r6 (.cond (.t 25) (.seq A_laws_eqInt64S.r7 .ret) .skip))) A_laws_eqInt64S.r5))
def A_laws_eqInt64S.r8 : ACode := (.region none [oP 4 (.move (.c (.bool true)))])
def A_laws_eqInt64S : AFunc := ⟨[.tmp 4], (.seq A_laws_eqInt64S.r0 (.seq (.seq A_laws_eqInt64S.r1 (.cond (.t 10) (.seq A_laws_eqInt64S.r2 .ret) .skip)) (.seq (.seq A_laws_eqInt64S.r3 (.block 0 (.loop A_laws_eqInt64S.l0))) (.seq A_laws_eqInt64S.r8 .ret))))⟩
/-! laws_markInt64S -/
def A_laws_markInt64S.r0 : ACode := (.region none [oP 4 (.move (.c (.int .i64 0)))])
def A_laws_markInt64S.r1 : ACode := (.region none [oP 5 (.move (.c (.int .i64 0)))])
def A_laws_markInt64S.r2 : ACode := (.region none [oM 6 5,
oM 7 0,
oP 8 (.len (.t 7)),
oP 9 (.bin .lss (.t 6) (.t 8))])
def A_laws_markInt64S.r4 : ACode := (.region none [oM 12 0,
oM 13 5,
oM 14 1,
oP 15 (.indexAddr none 1 (.t 12) (.t 13)),
⟨none, .store 1 (.t 15) (.t 14), none⟩])
def A_laws_markInt64S.r5 : ACode := (.region none [oM 16 1,
oP 17 (.bin .add (.t 16) (.c (.int .i64 1))),
oM 1 17])
def A_laws_markInt64S.r3 : ACode := (.region none [oM 10 5,
oP 11 (.bin .add (.t 10) (.c (.int .i64 1))),
oM 5 11])
def A_laws_markInt64S.l0 : ACode := (.seq (.seq A_laws_markInt64S.r2 (.cond (.t 9) .skip (.exit 0))) (.seq (.block 1 (.seq A_laws_markInt64S.r4 A_laws_markInt64S.r5)) A_laws_markInt64S.r3))
def A_laws_markInt64S.r6 : ACode := (.region none [oM 18 1,
oM 4 18])
def A_laws_markInt64S : AFunc := ⟨[.tmp 4], (.seq A_laws_markInt64S.r0 (.seq (.seq A_laws_markInt64S.r1 (.block 0 (.loop A_laws_markInt64S.l0))) (.seq A_laws_markInt64S.r6 .ret)))⟩
/-! laws_markStringS -/
def A_laws_markStringS.r0 : ACode := (.region none [oP 4 (.move (.c (.int .i64 0)))])
def A_laws_markStringS.r1 : ACode := (.region none [oP 5 (.move (.c (.int .i64 0)))])
def A_laws_markStringS.r2 : ACode := (.region none [oM 6 5,
oM 7 0,
oP 8 (.len (.t 7)),
oP 9 (.bin .lss (.t 6) (.t 8))])
def A_laws_markStringS.r4 : ACode := (.region none [oM 12 0,
oM 13 5,
oM 14 1,
oP 15 (.call 349 [.t 14]),
oP 16 (.indexAddr none 1 (.t 12) (.t 13)),
⟨none, .store 1 (.t 16) (.t 15), none⟩])
def A_laws_markStringS.r5 : ACode := (.region none [oM 17 1,
oP 18 (.bin .add (.t 17) (.c (.int .i64 1))),
oM 1 18])
def A_laws_markStringS.r3 : ACode := (.region none [oM 10 5,
oP 11 (.bin .add (.t 10) (.c (.int .i64 1))),
oM 5 11])
def A_laws_markStringS.l0 : ACode := (.seq (.seq A_laws_markStringS.r2 (.cond (.t 9) .skip (.exit 0))) (.seq (.block 1 (.seq A_laws_markStringS.r4 A_laws_markStringS.r5)) A_laws_markStringS.r3))
def A_laws_markStringS.r6 : ACode := (.region none [oM 19 1,
oM 4 19])
def A_laws_markStringS : AFunc := ⟨[.tmp 4], (.seq A_laws_markStringS.r0 (.seq (.seq A_laws_markStringS.r1 (.block 0 (.loop A_laws_markStringS.l0))) (.seq A_laws_markStringS.r6 .ret)))⟩
/-! laws_heldStringS -/
def A_laws_heldStringS.r0 : ACode := (.region none [oP 4 (.move (.c (.int .i64 0)))])
def A_laws_heldStringS.r1 : ACode := (.region none [oP 5 (.move (.c (.int .i64 0)))])
def A_laws_heldStringS.r2 : ACode := (.region none [oM 6 5,
oM 7 0,
oP 8 (.len (.t 7)),
oP 9 (.bin .lss (.t 6) (.t 8))])
def A_laws_heldStringS.r4 : ACode := (.region (some 7) [oM 12 0,
oM 13 5,
oP 14 (.indexAddr none 1 (.t 12) (.t 13)),
oP 15 (.load none (.t 14)),
oM 16 1,
oP 17 (.call 349 [.t 16]),
oP 18 (.sbin .neq (.t 15) (.t 17))])
def A_laws_heldStringS.r5 : ACode := (.region none [oP 4 (.move (.c (.int .i64 (-1))))])
def A_laws_heldStringS.r6 : ACode := (.region none [oM 19 1,
oP 20 (.bin .add (.t 19) (.c (.int .i64 1))),
oM 1 20])
def A_laws_heldStringS.r3 : ACode := (.region none [oM 10 5,
oP 11 (.bin .add (.t 10) (.c (.int .i64 1))),
oM 5 11])
def A_laws_heldStringS.l0 : ACode := (.seq (.seq A_laws_heldStringS.r2 (.cond (.t 9) .skip (.exit 0))) (.seq (.block 1 (.seq (.seq A_laws_heldStringS.r4 (.cond (.t 18) (.seq A_laws_heldStringS.r5 .ret) .skip)) A_laws_heldStringS.r6)) A_laws_heldStringS.r3))
def A_laws_heldStringS.r7 : ACode := (.region none [oM 21 1,
oM 4 21])
def A_laws_heldStringS : AFunc := ⟨[.tmp 4], (.seq A_laws_heldStringS.r0 (.seq (.seq A_laws_heldStringS.r1 (.block 0 (.loop A_laws_heldStringS.l0))) (.seq A_laws_heldStringS.r7 .ret)))⟩
/-! impl_passport -/
def A_impl_passport.r0 : ACode := (.region none [oP 1 (.box (.t 0)),
oP 2 (.move (.c (.slice none 0 0)))])
def A_impl_passport.r1 : ACode := (.region (some 17) [oP 3 (.fieldAddr 1 (.t 1)),
oP 4 (.load (some 16) (.t 3)),
oP 5 (.fieldAddr 0 (.t 1)),
oP 6 (.load none (.t 5)),
oP 7 (.call 218 [.t 4, .t 6]),
oP 8 (.fieldAddr 17 (.t 1)),
oP 9 (.load (some 16) (.t 8)),
oP 10 (.fieldAddr 0 (.t 1)),
oP 11 (.load none (.t 10)),
oP 12 (.call 218 [.t 9, .t 11]),
oP 13 (.load (some 33) (.t 1)),
oP 14 (.call 193 [.t 13]),
oP 15 (.fieldAddr 0 (.t 1)),
oP 16 (.load none (.t 15)),
oP 17 (.call 218 [.t 14, .t 16]),
oP 18 (.buildSlice 1 3 [.slice none 0 0] [(0, 1, .t 7), (1, 1, .t 12), (2, 1, .t 17)]),
oM 2 18])
def A_impl_passport : AFunc := ⟨[.tmp 2], (.seq A_impl_passport.r0 (.seq A_impl_passport.r1 .ret))⟩
/-! impl_face -/
def A_impl_face.r0 : ACode := (.region none [oP 1 (.box (.t 0)),
oP 2 (.alloc (List.replicate 16 (.int .u8 0)))])
def A_impl_face.r1 : ACode := (.region (some 10) [oP 3 (.fieldAddr 1 (.t 1)),
oP 4 (.load (some 16) (.t 3)),
oP 5 (.fieldAddr 17 (.t 1)),
oP 6 (.load (some 16) (.t 5)),
oP 7 (.fieldAddr 0 (.t 1)),
oP 8 (.load none (.t 7)),
oP 9 (.call 213 [.t 4, .t 6, .t 8]),
oP 10 (.fieldAddr 0 (.t 1)),
oP 11 (.load none (.t 10)),
oP 12 (.call 211 [.t 9, .t 11]),
⟨none, .store 16 (.t 2) (.t 12), none⟩])
def A_impl_face : AFunc := ⟨[.cell 2 (some 16)], (.seq A_impl_face.r0 (.seq A_impl_face.r1 .ret))⟩
/-! spec_l01In -/
def A_spec_l01In.r0 : ACode := (.region none [oP 6 (.move (.c (.bool false)))])
def A_spec_l01In.r1 : ACode := (.region none [oM 7 0,
oM 8 1,
oP 9 (.bin .geq (.t 7) (.t 8)),
oM 10 9,
⟨some 11, .move (.t 0), some (10, true)⟩,
⟨some 12, .move (.t 2), some (10, true)⟩,
⟨some 13, .bin .leq (.t 11) (.t 12), some (10, true)⟩,
oP 14 (.pick (.t 10) (.t 13) (.c (.bool false))),
oM 6 14])
def A_spec_l01In : AFunc := ⟨[.tmp 6], (.seq A_spec_l01In.r0 (.seq A_spec_l01In.r1 .ret))⟩
/-! impl_areTypes -/
def A_impl_areTypes.r0 : ACode := (.region none [oP 6 (.move (.c (.bool false)))])
def A_impl_areTypes.r1 : ACode := (.region none [oM 8 0,
oP 9 (.call 68 [.t 8]),
oM 7 9])
def A_impl_areTypes.r2 : ACode := (.region none [oM 10 7,
oP 11 (.bin .gtr (.t 10) (.c (.int .i64 0))),
oM 12 11,
⟨some 13, .move (.t 7), some (12, true)⟩,
⟨some 14, .move (.t 2), some (12, true)⟩,
⟨some 15, .bin .leq (.t 13) (.t 14), some (12, true)⟩,
oP 16 (.pick (.t 12) (.t 15) (.c (.bool false))),
oM 17 16,
⟨some 18, .move (.t 1), some (17, true)⟩,
⟨some 19, .call 68 [.t 18], some (17, true)⟩,
⟨some 20, .move (.t 7), some (17, true)⟩,
⟨some 21, .bin .eql (.t 19) (.t 20), some (17, true)⟩,
oP 22 (.pick (.t 17) (.t 21) (.c (.bool false))),
oM 6 22])
def A_impl_areTypes : AFunc := ⟨[.tmp 6], (.seq A_impl_areTypes.r0 (.seq A_impl_areTypes.r1 (.seq A_impl_areTypes.r2 .ret)))⟩
/-! impl_sumOfType -/
def A_impl_sumOfType.r0 : ACode := (.region none [oP 2 (.move (.c (.int .i64 0)))])
def A_impl_sumOfType.r1 : ACode := (.region none [oP 3 (.move (.c (.int .i64 0)))])
def A_impl_sumOfType.r2 : ACode := (.region none [oM 6 0,
oP 7 (.len (.t 6)),
oP 8 (.move (.c (.int .i64 0)))])
def A_impl_sumOfType.r3 : ACode := (.region none [oP 9 (.bin .lss (.t 8) (.t 7))])
def A_impl_sumOfType.r4 : ACode := (.region none [oM 10 8,
oP 11 (.indexAddr none 1 (.t 6) (.t 8)),
oP 12 (.load none (.t 11)),
oM 4 10,
oM 5 12])
def A_impl_sumOfType.r5 : ACode := (.region none [oM 13 5,
oP 14 (.bin .lss (.t 13) (.c (.int .i64 1))),
oM 15 14,
⟨some 16, .move (.t 5), some (15, false)⟩,
⟨some 17, .bin .gtr (.t 16) (.c (.int .i64 16)), some (15, false)⟩,
oP 18 (.pick (.t 15) (.c (.bool true)) (.t 17)),
oM 19 18,
⟨some 20, .move (.t 4), some (19, false)⟩,
⟨some 21, .bin .gtr (.t 20) (.c (.int .i64 0)), some (19, false)⟩,
⟨some 22, .move (.t 21), some (19, false)⟩,
⟨some 23, .move (.t 5), some (22, true)⟩,
⟨some 24, .move (.t 0), some (22, true)⟩,
⟨some 25, .move (.t 4), some (22, true)⟩,
⟨some 26, .bin .sub (.t 25) (.c (.int .i64 1)), some (22, true)⟩,
⟨some 27, .indexAddr none 1 (.t 24) (.t 26), some (22, true)⟩,
⟨some 28, .load none (.t 27), some (22, true)⟩,
⟨some 29, .bin .gtr (.t 23) (.t 28), some (22, true)⟩,
⟨some 30, .pick (.t 22) (.t 29) (.c (.bool false)), some (19, false)⟩,
oP 31 (.pick (.t 19) (.c (.bool true)) (.t 30))])
def A_impl_sumOfType.r6 : ACode := (.region none [oP 2 (.move (.c (.int .i64 0)))])
def A_impl_sumOfType.r7 : ACode := (.region none [oM 32 3,
oM 33 5,
oP 34 (.bin .add (.t 32) (.t 33)),
oM 3 34])
def A_impl_sumOfType.r8 : ACode := (.region none [oM 35 3,
oP 36 (.bin .gtr (.t 35) (.c (.int .i64 16)))])
def A_impl_sumOfType.r9 : ACode := (.region none [oP 2 (.move (.c (.int .i64 0)))])
def A_impl_sumOfType.r10 : ACode := (.region none [oP 37 (.bin .add (.t 8) (.c (.int .i64 1))),
oM 8 37])
def A_impl_sumOfType.l0 : ACode := (.seq A_impl_sumOfType.r3 (.seq (.cond (.t 9) .skip (.exit 0)) (.seq (.block 1 (.seq A_impl_sumOfType.r4 (.seq (.seq A_impl_sumOfType.r5 (.cond (.t 31) (.seq A_impl_sumOfType.r6 .ret) .skip)) (.seq A_impl_sumOfType.r7 (.seq A_impl_sumOfType.r8 (.cond (.t 36) (.seq A_impl_sumOfType.r9 .ret) .skip)))))) A_impl_sumOfType.r10)))
def A_impl_sumOfType.r11 : ACode := (.region none [oM 38 3,
oM 2 38])
def A_impl_sumOfType : AFunc := ⟨[.tmp 2], (.seq A_impl_sumOfType.r0 (.seq A_impl_sumOfType.r1 (.seq (.seq A_impl_sumOfType.r2 (.block 0 (.loop A_impl_sumOfType.l0))) (.seq A_impl_sumOfType.r11 .ret))))⟩
/-! spec_l05Types -/
def A_spec_l05Types.r0 : ACode := (.region none [oP 4 (.move (.c (.int .i64 0))),
oP 5 (.move (.c (.bool false)))])
def A_spec_l05Types.r1 : ACode := (.region none [oM 10 0,
oM 11 1,
oP 12 (.buildSlice 1 2 [.slice none 0 0] [(0, 1, .t 10), (1, 1, .t 11)]),
oP 13 (.build [.int .i64 0, .int .i64 0] []),
oP 7 (.alloc [.int .i64 0, .int .i64 0]),
oM 6 12,
⟨none, .store 2 (.t 7) (.t 13), none⟩])
def A_spec_l05Types.r2 : ACode := (.region none [oP 8 (.move (.c (.int .i64 0)))])
def A_spec_l05Types.r3 : ACode := (.region none [oM 14 8,
oP 15 (.bin .lss (.t 14) (.c (.int .i64 2)))])
def A_spec_l05Types.r5 : ACode := (.region none [oP 9 (.move (.c (.int .i64 0)))])
def A_spec_l05Types.r6 : ACode := (.region none [oM 18 9,
oM 19 6,
oM 20 8,
oP 21 (.indexAddr none 1 (.t 19) (.t 20)),
oP 22 (.load none (.t 21)),
oP 23 (.len (.t 22)),
oP 24 (.bin .lss (.t 18) (.t 23))])
def A_spec_l05Types.r8 : ACode := (.region (some 35) [oM 27 6,
oM 28 8,
oP 29 (.indexAddr none 1 (.t 27) (.t 28)),
oP 30 (.load none (.t 29)),
oM 31 9,
oP 32 (.indexAddr none 1 (.t 30) (.t 31)),
oP 33 (.load none (.t 32)),
oP 34 (.call 58 [.t 33, (.c (.int .i64 1)), (.c (.int .i64 16))]),
oP 35 (.not (.t 34)),
oM 36 35,
⟨some 37, .move (.t 9), some (36, false)⟩,
⟨some 38, .bin .gtr (.t 37) (.c (.int .i64 0)), some (36, false)⟩,
⟨some 39, .move (.t 38), some (36, false)⟩,
⟨some 40, .move (.t 6), some (39, true)⟩,
⟨some 41, .move (.t 8), some (39, true)⟩,
⟨some 42, .indexAddr none 1 (.t 40) (.t 41), some (39, true)⟩,
⟨some 43, .load none (.t 42), some (39, true)⟩,
⟨some 44, .move (.t 9), some (39, true)⟩,
⟨some 45, .indexAddr none 1 (.t 43) (.t 44), some (39, true)⟩,
⟨some 46, .load none (.t 45), some (39, true)⟩,
⟨some 47, .move (.t 6), some (39, true)⟩,
⟨some 48, .move (.t 8), some (39, true)⟩,
⟨some 49, .indexAddr none 1 (.t 47) (.t 48), some (39, true)⟩,
⟨some 50, .load none (.t 49), some (39, true)⟩,
⟨some 51, .move (.t 9), some (39, true)⟩,
⟨some 52, .bin .sub (.t 51) (.c (.int .i64 1)), some (39, true)⟩,
⟨some 53, .indexAddr none 1 (.t 50) (.t 52), some (39, true)⟩,
⟨some 54, .load none (.t 53), some (39, true)⟩,
⟨some 55, .bin .gtr (.t 46) (.t 54), some (39, true)⟩,
⟨some 56, .pick (.t 39) (.t 55) (.c (.bool false)), some (36, false)⟩,
oP 57 (.pick (.t 36) (.c (.bool true)) (.t 56)),
oM 58 57,
⟨some 59, .move (.t 9), some (58, false)⟩,
⟨some 60, .bin .geq (.t 59) (.c (.int .i64 16)), some (58, false)⟩,
oP 61 (.pick (.t 58) (.c (.bool true)) (.t 60))])
def A_spec_l05Types.r9 : ACode := (.region none [oP 4 (.move (.c (.int .i64 0))),
oP 5 (.move (.c (.bool false)))])
def A_spec_l05Types.r10 : ACode := (.region (some 13) [oM 62 8,
oM 63 8,
oP 64 (.indexAddr (some 2) 1 (.t 7) (.t 63)),
oP 65 (.load none (.t 64)),
oM 66 6,
oM 67 8,
oP 68 (.indexAddr none 1 (.t 66) (.t 67)),
oP 69 (.load none (.t 68)),
oM 70 9,
oP 71 (.indexAddr none 1 (.t 69) (.t 70)),
oP 72 (.load none (.t 71)),
oP 73 (.bin .add (.t 65) (.t 72)),
oP 74 (.indexAddr (some 2) 1 (.t 7) (.t 62)),
⟨none, .store 1 (.t 74) (.t 73), none⟩])
def A_spec_l05Types.r7 : ACode := (.region none [oM 25 9,
oP 26 (.bin .add (.t 25) (.c (.int .i64 1))),
oM 9 26])
def A_spec_l05Types.l0 : ACode := (.seq (.seq A_spec_l05Types.r6 (.cond (.t 24) .skip (.exit 2))) (.seq (.block 3 (.seq (.seq A_spec_l05Types.r8 (.cond (.t 61) (.seq A_spec_l05Types.r9 .ret) .skip)) A_spec_l05Types.r10)) A_spec_l05Types.r7))
def A_spec_l05Types.r4 : ACode := (.region none [oM 16 8,
oP 17 (.bin .add (.t 16) (.c (.int .i64 1))),
oM 8 17])
def A_spec_l05Types.l1 : ACode := (.seq (.seq A_spec_l05Types.r3 (.cond (.t 15) .skip (.exit 0))) (.seq (.block 1 (.seq A_spec_l05Types.r5 (.block 2 (.loop A_spec_l05Types.l0)))) A_spec_l05Types.r4))
def A_spec_l05Types.r11 : ACode := (.region (some 14) [oP 75 (.indexAddr (some 2) 1 (.t 7) (.c (.int .i64 0))),
oP 76 (.load none (.t 75)),
oP 77 (.indexAddr (some 2) 1 (.t 7) (.c (.int .i64 0))),
oP 78 (.load none (.t 77)),
oP 79 (.indexAddr (some 2) 1 (.t 7) (.c (.int .i64 1))),
oP 80 (.load none (.t 79)),
oP 81 (.bin .eql (.t 78) (.t 80)),
oM 82 81,
⟨some 83, .indexAddr (some 2) 1 (.t 7) (.c (.int .i64 0)), some (82, true)⟩,
⟨some 84, .load none (.t 83), some (82, true)⟩,
⟨some 85, .call 58 [.t 84, (.c (.int .i64 1)), (.c (.int .i64 16))], some (82, true)⟩,
oP 86 (.pick (.t 82) (.t 85) (.c (.bool false))),
oM 4 76,
oM 5 86])
def A_spec_l05Types : AFunc := ⟨[.tmp 4, .tmp 5], (.seq A_spec_l05Types.r0 (.seq A_spec_l05Types.r1 (.seq (.seq A_spec_l05Types.r2 (.block 0 (.loop A_spec_l05Types.l1))) (.seq A_spec_l05Types.r11 .ret))))⟩
/-! spec_l05All -/
def A_spec_l05All.r0 : ACode := (.region none [oP 8 (.move (.c (.slice none 0 0)))])
def A_spec_l05All.r1 : ACode := (.region none [oM 9 1,
oP 10 (.bin .eql (.t 9) (.c (.int .i64 0))),
oM 11 10,
⟨some 12, .move (.t 2), some (11, true)⟩,
⟨some 13, .bin .eql (.t 12) (.c (.int .i64 0)), some (11, true)⟩,
oP 14 (.pick (.t 11) (.t 13) (.c (.bool false)))])
def A_spec_l05All.r2 : ACode := (.region none [oM 15 3,
oM 16 0,
oP 17 (.buildSlice 1 1 [.string ⟨#[]⟩] [(0, 1, .t 16)]),
oP 18 (.append 1 16 (.t 15) (.t 17)),
oM 8 18])
def A_spec_l05All.r3 : ACode := (.region none [oM 19 1,
oP 20 (.bin .gtr (.t 19) (.c (.int .i64 0)))])
def A_spec_l05All.r4 : ACode := (.region none [oM 21 0,
oP 22 (.sbin .add (.t 21) (.c (.string ⟨#[40]⟩))),
oM 23 1,
oP 24 (.bin .sub (.t 23) (.c (.int .i64 1))),
oM 25 2,
oP 26 (.bin .add (.t 25) (.c (.int .i64 1))),
oM 27 3,
oP 28 (.call 343 [.t 22, .t 24, .t 26, .t 27]),
oM 3 28])
def A_spec_l05All.r5 : ACode := (.region none [oM 29 2,
oP 30 (.bin .gtr (.t 29) (.c (.int .i64 0)))])
def A_spec_l05All.r6 : ACode := (.region none [oM 31 0,
oP 32 (.sbin .add (.t 31) (.c (.string ⟨#[41]⟩))),
oM 33 1,
oM 34 2,
oP 35 (.bin .sub (.t 34) (.c (.int .i64 1))),
oM 36 3,
oP 37 (.call 343 [.t 32, .t 33, .t 35, .t 36]),
oM 3 37])
def A_spec_l05All.r7 : ACode := (.region none [oM 38 3,
oM 8 38])
def A_spec_l05All : AFunc := ⟨[.tmp 8], (.seq A_spec_l05All.r0 (.seq (.seq A_spec_l05All.r1 (.cond (.t 14) (.seq A_spec_l05All.r2 .ret) .skip)) (.seq (.seq A_spec_l05All.r3 (.cond (.t 20) A_spec_l05All.r4 .skip)) (.seq (.seq A_spec_l05All.r5 (.cond (.t 30) A_spec_l05All.r6 .skip)) (.seq A_spec_l05All.r7 .ret)))))⟩
/-! spec_l05Made -/
def A_spec_l05Made.r0 : ACode := (.region none [oP 2 (.alloc ([.int .i64 0] ++ List.replicate 32 (.int .u8 0)))])
def A_spec_l05Made.r1 : ACode := (.region none [oP 13 (.buildSlice 1 1 [.int .i64 0] [(0, 1, (.c (.int .i64 (-1))))]),
oP 14 (.buildSlice 1 1 [.int .i64 0] [(0, 1, (.c (.int .i64 (-1))))]),
oM 3 13,
oM 4 14,
oP 5 (.move (.c (.int .i64 0)))])
def A_spec_l05Made.r2 : ACode := (.region none [oP 6 (.move (.c (.int .i64 0)))])
def A_spec_l05Made.r3 : ACode := (.region none [oM 15 0,
oP 16 (.lenStr (.t 15)),
oP 17 (.bin .quo (.t 16) (.c (.int .i64 2))),
oP 18 (.build ([.int .i64 0] ++ List.replicate 32 (.int .u8 0)) [(0, 1, .t 17)]),
oP 7 (.alloc ([.int .i64 0] ++ List.replicate 32 (.int .u8 0))),
⟨none, .store 33 (.t 7) (.t 18), none⟩])
def A_spec_l05Made.r4 : ACode := (.region none [oP 8 (.move (.c (.int .i64 0)))])
def A_spec_l05Made.r5 : ACode := (.region none [oM 19 8,
oM 20 0,
oP 21 (.lenStr (.t 20)),
oP 22 (.bin .lss (.t 19) (.t 21))])
def A_spec_l05Made.r7 : ACode := (.region none [oM 25 3,
oP 26 (.len (.t 25)),
oP 27 (.bin .sub (.t 26) (.c (.int .i64 1))),
oM 9 27])
def A_spec_l05Made.r8 : ACode := (.region none [oM 28 0,
oM 29 8,
oP 30 (.indexStr (.t 28) (.t 29)),
oP 31 (.bin .eql (.t 30) (.c (.int .u8 40)))])
def A_spec_l05Made.r9 : ACode := (.region none [oM 32 5,
oM 10 32])
def A_spec_l05Made.r10 : ACode := (.region none [oM 33 5,
oP 34 (.bin .add (.t 33) (.c (.int .i64 1))),
oM 5 34])
def A_spec_l05Made.r11 : ACode := (.region none [oM 35 4,
oM 36 9,
oP 37 (.indexAddr none 1 (.t 35) (.t 36)),
oP 38 (.load none (.t 37)),
oM 11 38])
def A_spec_l05Made.r12 : ACode := (.region none [oM 39 11,
oP 40 (.bin .lss (.t 39) (.c (.int .i64 0)))])
def A_spec_l05Made.r13 : ACode := (.region none [oM 41 3,
oM 42 9,
oP 43 (.indexAddr none 1 (.t 41) (.t 42)),
oP 44 (.load none (.t 43)),
oM 11 44])
def A_spec_l05Made.r14 : ACode := (.region none [oM 45 11,
oP 46 (.bin .lss (.t 45) (.c (.int .i64 0)))])
def A_spec_l05Made.r15 : ACode := (.region none [oM 47 10,
oM 6 47])
def A_spec_l05Made.r16 : ACode := (.region none [oM 48 9,
oP 49 (.bin .rem (.t 48) (.c (.int .i64 2))),
oP 50 (.bin .eql (.t 49) (.c (.int .i64 0)))])
def A_spec_l05Made.r17 : ACode := (.region none [oM 51 11,
oM 52 10,
oP 53 (.conv .u8 (.t 52)),
oP 54 (.fieldAddr 1 (.t 7)),
oP 55 (.indexAddr (some 16) 1 (.t 54) (.t 51)),
⟨none, .store 1 (.t 55) (.t 53), none⟩])
def A_spec_l05Made.r18 : ACode := (.region none [oM 56 11,
oM 57 10,
oP 58 (.conv .u8 (.t 57)),
oP 59 (.fieldAddr 17 (.t 7)),
oP 60 (.indexAddr (some 16) 1 (.t 59) (.t 56)),
⟨none, .store 1 (.t 60) (.t 58), none⟩])
def A_spec_l05Made.r19 : ACode := (.region none [oM 61 4,
oM 62 9,
oM 63 10,
oP 64 (.indexAddr none 1 (.t 61) (.t 62)),
⟨none, .store 1 (.t 64) (.t 63), none⟩])
def A_spec_l05Made.r20 : ACode := (.region none [oM 65 3,
oM 66 10,
oP 67 (.buildSlice 1 1 [.int .i64 0] [(0, 1, .t 66)]),
oP 68 (.append 1 8 (.t 65) (.t 67)),
oM 3 68])
def A_spec_l05Made.r21 : ACode := (.region none [oM 69 4,
oP 70 (.buildSlice 1 1 [.int .i64 0] [(0, 1, (.c (.int .i64 (-1))))]),
oP 71 (.append 1 8 (.t 69) (.t 70)),
oM 4 71])
def A_spec_l05Made.r22 : ACode := (.region none [oM 72 4,
oM 73 9,
oP 74 (.indexAddr none 1 (.t 72) (.t 73)),
oP 75 (.load none (.t 74)),
oM 12 75])
def A_spec_l05Made.r23 : ACode := (.region none [oM 76 12,
oP 77 (.bin .lss (.t 76) (.c (.int .i64 0)))])
def A_spec_l05Made.r24 : ACode := (.region none [oM 78 3,
oM 79 9,
oP 80 (.indexAddr none 1 (.t 78) (.t 79)),
oP 81 (.load none (.t 80)),
oM 12 81])
def A_spec_l05Made.r25 : ACode := (.region none [oM 82 9,
oP 83 (.bin .rem (.t 82) (.c (.int .i64 2))),
oP 84 (.bin .eql (.t 83) (.c (.int .i64 0)))])
def A_spec_l05Made.r26 : ACode := (.region none [oM 85 12,
oM 86 3,
oM 87 9,
oP 88 (.indexAddr none 1 (.t 86) (.t 87)),
oP 89 (.load none (.t 88)),
oP 90 (.conv .u8 (.t 89)),
oP 91 (.fieldAddr 1 (.t 7)),
oP 92 (.indexAddr (some 16) 1 (.t 91) (.t 85)),
⟨none, .store 1 (.t 92) (.t 90), none⟩])
def A_spec_l05Made.r27 : ACode := (.region none [oM 93 12,
oM 94 3,
oM 95 9,
oP 96 (.indexAddr none 1 (.t 94) (.t 95)),
oP 97 (.load none (.t 96)),
oP 98 (.conv .u8 (.t 97)),
oP 99 (.fieldAddr 17 (.t 7)),
oP 100 (.indexAddr (some 16) 1 (.t 99) (.t 93)),
⟨none, .store 1 (.t 100) (.t 98), none⟩])
def A_spec_l05Made.r28 : ACode := (.region none [oM 101 3,
oM 102 9,
oP 103 (.slice 1 (.t 101) none (some (.t 102))),
oM 3 103])
def A_spec_l05Made.r29 : ACode := (.region none [oM 104 4,
oM 105 9,
oP 106 (.slice 1 (.t 104) none (some (.t 105))),
oM 4 106])
def A_spec_l05Made.r6 : ACode := (.region none [oM 23 8,
oP 24 (.bin .add (.t 23) (.c (.int .i64 1))),
oM 8 24])
def A_spec_l05Made.l0 : ACode := (.seq (.seq A_spec_l05Made.r5 (.cond (.t 22) .skip (.exit 0))) (.seq (.block 1 (.seq A_spec_l05Made.r7 (.seq (.seq A_spec_l05Made.r8 (.cond (.t 31) (.seq A_spec_l05Made.r9 (.seq A_spec_l05Made.r10 (.seq A_spec_l05Made.r11 (.seq (.seq A_spec_l05Made.r12 (.cond (.t 40) A_spec_l05Made.r13 .skip)) (.seq (.seq A_spec_l05Made.r14 (.cond (.t 46) A_spec_l05Made.r15 (.seq A_spec_l05Made.r16 (.cond (.t 50) A_spec_l05Made.r17 A_spec_l05Made.r18)))) (.seq A_spec_l05Made.r19 (.seq A_spec_l05Made.r20 (.seq A_spec_l05Made.r21 (.exit 1))))))))) .skip)) (.seq A_spec_l05Made.r22 (.seq (.seq A_spec_l05Made.r23 (.cond (.t 77) A_spec_l05Made.r24 .skip)) (.seq (.seq A_spec_l05Made.r25 (.cond (.t 84) A_spec_l05Made.r26 A_spec_l05Made.r27)) (.seq A_spec_l05Made.r28 A_spec_l05Made.r29))))))) A_spec_l05Made.r6))
def A_spec_l05Made.r30 : ACode := (.region none [oM 107 4,
oP 108 (.indexAddr none 1 (.t 107) (.c (.int .i64 0))),
oP 109 (.load none (.t 108)),
oM 110 6,
oP 111 (.conv .u8 (.t 110)),
oP 112 (.fieldAddr 1 (.t 7)),
oP 113 (.indexAddr (some 16) 1 (.t 112) (.t 109)),
⟨none, .store 1 (.t 113) (.t 111), none⟩])
def A_spec_l05Made.r31 : ACode := (.region none [oP 114 (.load (some 33) (.t 7)),
⟨none, .store 33 (.t 2) (.t 114), none⟩])
def A_spec_l05Made : AFunc := ⟨[.cell 2 (some 33)], (.seq A_spec_l05Made.r0 (.seq A_spec_l05Made.r1 (.seq A_spec_l05Made.r2 (.seq A_spec_l05Made.r3 (.seq (.seq A_spec_l05Made.r4 (.block 0 (.loop A_spec_l05Made.l0))) (.seq A_spec_l05Made.r30 (.seq A_spec_l05Made.r31 .ret)))))))⟩
/-! spec_l05Same -/
def A_spec_l05Same.r0 : ACode := (.region none [oP 4 (.move (.c (.bool false)))])
def A_spec_l05Same.r1 : ACode := (.region none [oM 5 0,
oM 6 1,
oP 7 (.call 370 [.t 5, .t 6]),
oP 8 (.bin .eql (.t 7) (.c (.int .i64 0))),
oM 4 8])
def A_spec_l05Same : AFunc := ⟨[.tmp 4], (.seq A_spec_l05Same.r0 (.seq A_spec_l05Same.r1 .ret))⟩
/-! spec_l01Type -/
def A_spec_l01Type.r0 : ACode := (.region none [oP 2 (.box (.t 0)),
oP 4 (.move (.c (.slice none 0 0)))])
def A_spec_l01Type.r1 : ACode := (.region none [oP 11 (.build (List.replicate 17 (.int .i64 0)) []),
oP 12 (.load (some 16) (.t 2)),
oM 13 1,
oP 14 (.call 285 [.t 12, .t 13]),
oP 15 (.buildSlice 1 0 [.int .i64 0] []),
oP 5 (.alloc (List.replicate 17 (.int .i64 0))),
⟨none, .store 17 (.t 5) (.t 11), none⟩,
oM 6 14,
oM 7 15])
def A_spec_l01Type.r2 : ACode := (.region none [oP 8 (.move (.c (.int .i64 0)))])
def A_spec_l01Type.r3 : ACode := (.region none [oM 16 8,
oM 17 6,
oP 18 (.len (.t 17)),
oP 19 (.bin .lss (.t 16) (.t 18))])
def A_spec_l01Type.r5 : ACode := (.region none [oM 22 6,
oM 23 8,
oP 24 (.indexAddr none 1 (.t 22) (.t 23)),
oP 25 (.load none (.t 24)),
oP 26 (.len (.t 25)),
oP 27 (.indexAddr (some 17) 1 (.t 5) (.t 26)),
oP 28 (.load none (.t 27)),
oP 29 (.bin .add (.t 28) (.c (.int .i64 1))),
oP 30 (.indexAddr (some 17) 1 (.t 5) (.t 26)),
⟨none, .store 1 (.t 30) (.t 29), none⟩])
def A_spec_l01Type.r4 : ACode := (.region none [oM 20 8,
oP 21 (.bin .add (.t 20) (.c (.int .i64 1))),
oM 8 21])
def A_spec_l01Type.l0 : ACode := (.seq (.seq A_spec_l01Type.r3 (.cond (.t 19) .skip (.exit 0))) (.seq (.block 1 A_spec_l01Type.r5) A_spec_l01Type.r4))
def A_spec_l01Type.r6 : ACode := (.region none [oM 31 1,
oM 9 31])
def A_spec_l01Type.r7 : ACode := (.region none [oM 32 9,
oP 33 (.bin .gtr (.t 32) (.c (.int .i64 0)))])
def A_spec_l01Type.r9 : ACode := (.region none [oM 36 9,
oP 37 (.indexAddr (some 17) 1 (.t 5) (.t 36)),
oP 38 (.load none (.t 37)),
oM 10 38])
def A_spec_l01Type.r10 : ACode := (.region none [oM 39 10,
oP 40 (.bin .gtr (.t 39) (.c (.int .i64 0)))])
def A_spec_l01Type.r12 : ACode := (.region none [oM 43 7,
oM 44 9,
oP 45 (.buildSlice 1 1 [.int .i64 0] [(0, 1, .t 44)]),
oP 46 (.append 1 8 (.t 43) (.t 45)),
oM 7 46])
def A_spec_l01Type.r11 : ACode := (.region none [oM 41 10,
oP 42 (.bin .sub (.t 41) (.c (.int .i64 1))),
oM 10 42])
def A_spec_l01Type.l1 : ACode := (.seq (.seq A_spec_l01Type.r10 (.cond (.t 40) .skip (.exit 4))) (.seq (.block 5 A_spec_l01Type.r12) A_spec_l01Type.r11))
def A_spec_l01Type.r8 : ACode := (.region none [oM 34 9,
oP 35 (.bin .sub (.t 34) (.c (.int .i64 1))),
oM 9 35])
def A_spec_l01Type.l2 : ACode := (.seq (.seq A_spec_l01Type.r7 (.cond (.t 33) .skip (.exit 2))) (.seq (.block 3 (.seq A_spec_l01Type.r9 (.block 4 (.loop A_spec_l01Type.l1)))) A_spec_l01Type.r8))
def A_spec_l01Type.r13 : ACode := (.region none [oM 47 7,
oM 4 47])
def A_spec_l01Type : AFunc := ⟨[.tmp 4], (.seq A_spec_l01Type.r0 (.seq A_spec_l01Type.r1 (.seq (.seq A_spec_l01Type.r2 (.block 0 (.loop A_spec_l01Type.l0))) (.seq (.seq A_spec_l01Type.r6 (.block 2 (.loop A_spec_l01Type.l2))) (.seq A_spec_l01Type.r13 .ret)))))⟩
/-! spec_l05Canonical -/
def A_spec_l05Canonical.r0 : ACode := (.region none [oP 1 (.box (.t 0)),
oP 2 (.move (.c (.string ⟨#[]⟩))),
oP 3 (.move (.c (.int .i64 0)))])
def A_spec_l05Canonical.r1 : ACode := (.region none [oP 8 (.load (some 33) (.t 1)),
oP 9 (.call 272 [.t 8, (.c (.int .i64 0))]),
oM 4 9,
oP 5 (.move (.c (.int .i64 1)))])
def A_spec_l05Canonical.r2 : ACode := (.region none [oP 6 (.move (.c (.int .i64 1)))])
def A_spec_l05Canonical.r3 : ACode := (.region none [oM 10 6,
oP 11 (.fieldAddr 0 (.t 1)),
oP 12 (.load none (.t 11)),
oP 13 (.bin .lss (.t 10) (.t 12))])
def A_spec_l05Canonical.r5 : ACode := (.region none [oP 16 (.load (some 33) (.t 1)),
oM 17 6,
oP 18 (.call 272 [.t 16, .t 17]),
oM 7 18])
def A_spec_l05Canonical.r6 : ACode := (.region none [oM 20 7,
oM 21 4,
oP 22 (.sbin .eql (.t 20) (.t 21)),
oM 19 22])
def A_spec_l05Canonical.r7 : ACode := (.region none [oM 23 5,
oP 24 (.bin .add (.t 23) (.c (.int .i64 1))),
oM 5 24])
def A_spec_l05Canonical.r8 : ACode := (.region none [oM 26 7,
oM 27 4,
oP 28 (.sbin .lss (.t 26) (.t 27)),
oM 25 28])
def A_spec_l05Canonical.r9 : ACode := (.region none [oM 29 7,
oM 4 29])
def A_spec_l05Canonical.r10 : ACode := (.region none [oP 5 (.move (.c (.int .i64 1)))])
def A_spec_l05Canonical.r4 : ACode := (.region none [oM 14 6,
oP 15 (.bin .add (.t 14) (.c (.int .i64 1))),
oM 6 15])
def A_spec_l05Canonical.l0 : ACode := (.seq (.seq A_spec_l05Canonical.r3 (.cond (.t 13) .skip (.exit 0))) (.seq (.block 1 (.seq A_spec_l05Canonical.r5 (.block 2 (.seq A_spec_l05Canonical.r6 (.cond (.t 19) A_spec_l05Canonical.r7 (.seq A_spec_l05Canonical.r8 (.cond (.t 25) (.seq A_spec_l05Canonical.r9 A_spec_l05Canonical.r10) .skip))))))) A_spec_l05Canonical.r4))
def A_spec_l05Canonical.r11 : ACode := (.region none [oM 30 4,
oM 31 5,
oM 2 30,
oM 3 31])
def A_spec_l05Canonical : AFunc := ⟨[.tmp 2, .tmp 3], (.seq A_spec_l05Canonical.r0 (.seq A_spec_l05Canonical.r1 (.seq (.seq A_spec_l05Canonical.r2 (.block 0 (.loop A_spec_l05Canonical.l0))) (.seq A_spec_l05Canonical.r11 .ret))))⟩
/-! impl_words -/
def A_impl_words.r0 : ACode := (.region none [oP 4 (.move (.c (.slice none 0 0)))])
def A_impl_words.r1 : ACode := (.region none [oM 10 0,
oP 11 (.bin .eql (.t 10) (.c (.int .i64 0))),
oM 12 11,
⟨some 13, .move (.t 1), some (12, true)⟩,
⟨some 14, .bin .eql (.t 13) (.c (.int .i64 0)), some (12, true)⟩,
oP 15 (.pick (.t 12) (.t 14) (.c (.bool false)))])
def A_impl_words.r2 : ACode := (.region none [oP 16 (.buildSlice 1 1 [.string ⟨#[]⟩] [(0, 1, (.c (.string ⟨#[]⟩)))]),
oM 4 16])
def A_impl_words.r3 : ACode := (.region none [oP 17 (.buildSlice 1 0 [.string ⟨#[]⟩] []),
oM 5 17])
def A_impl_words.r4 : ACode := (.region none [oM 18 1,
oP 19 (.bin .gtr (.t 18) (.c (.int .i64 0)))])
def A_impl_words.r5 : ACode := (.region none [oM 20 0,
oP 21 (.bin .add (.t 20) (.c (.int .i64 1))),
oM 22 1,
oP 23 (.bin .sub (.t 22) (.c (.int .i64 1))),
oP 24 (.call 345 [.t 21, .t 23]),
oP 25 (.len (.t 24)),
oP 26 (.move (.c (.int .i64 0)))])
def A_impl_words.r6 : ACode := (.region none [oP 27 (.bin .lss (.t 26) (.t 25))])
def A_impl_words.r7 : ACode := (.region none [oP 28 (.indexAddr none 1 (.t 24) (.t 26)),
oP 29 (.load none (.t 28)),
oM 7 29])
def A_impl_words.r8 : ACode := (.region none [oM 30 5,
oM 31 7,
oP 32 (.sbin .add (.c (.string ⟨#[40]⟩)) (.t 31)),
oP 33 (.buildSlice 1 1 [.string ⟨#[]⟩] [(0, 1, .t 32)]),
oP 34 (.append 1 16 (.t 30) (.t 33)),
oM 5 34])
def A_impl_words.r9 : ACode := (.region none [oP 35 (.bin .add (.t 26) (.c (.int .i64 1))),
oM 26 35])
def A_impl_words.l0 : ACode := (.seq A_impl_words.r6 (.seq (.cond (.t 27) .skip (.exit 0)) (.seq (.block 1 (.seq A_impl_words.r7 A_impl_words.r8)) A_impl_words.r9)))
def A_impl_words.r10 : ACode := (.region none [oM 36 0,
oP 37 (.bin .gtr (.t 36) (.c (.int .i64 0)))])
def A_impl_words.r11 : ACode := (.region none [oM 38 0,
oP 39 (.bin .sub (.t 38) (.c (.int .i64 1))),
oM 40 1,
oP 41 (.call 345 [.t 39, .t 40]),
oP 42 (.len (.t 41)),
oP 43 (.move (.c (.int .i64 0)))])
def A_impl_words.r12 : ACode := (.region none [oP 44 (.bin .lss (.t 43) (.t 42))])
def A_impl_words.r13 : ACode := (.region none [oP 45 (.indexAddr none 1 (.t 41) (.t 43)),
oP 46 (.load none (.t 45)),
oM 9 46])
def A_impl_words.r14 : ACode := (.region none [oM 47 5,
oM 48 9,
oP 49 (.sbin .add (.c (.string ⟨#[41]⟩)) (.t 48)),
oP 50 (.buildSlice 1 1 [.string ⟨#[]⟩] [(0, 1, .t 49)]),
oP 51 (.append 1 16 (.t 47) (.t 50)),
oM 5 51])
def A_impl_words.r15 : ACode := (.region none [oP 52 (.bin .add (.t 43) (.c (.int .i64 1))),
oM 43 52])
def A_impl_words.l1 : ACode := (.seq A_impl_words.r12 (.seq (.cond (.t 44) .skip (.exit 2)) (.seq (.block 3 (.seq A_impl_words.r13 A_impl_words.r14)) A_impl_words.r15)))
def A_impl_words.r16 : ACode := (.region none [oM 53 5,
oM 4 53])
def A_impl_words : AFunc := ⟨[.tmp 4], (.seq A_impl_words.r0 (.seq (.seq A_impl_words.r1 (.cond (.t 15) (.seq A_impl_words.r2 .ret) .skip)) (.seq A_impl_words.r3 (.seq (.seq A_impl_words.r4 (.cond (.t 19) (.seq A_impl_words.r5 (.block 0 (.loop A_impl_words.l0))) .skip)) (.seq (.seq A_impl_words.r10 (.cond (.t 37) (.seq A_impl_words.r11 (.block 2 (.loop A_impl_words.l1))) .skip)) (.seq A_impl_words.r16 .ret))))))⟩
/-! impl_treeOfWord -/
def A_impl_treeOfWord.r0 : ACode := (.region none [oP 2 (.alloc ([.int .i64 0] ++ List.replicate 32 (.int .u8 0)))])
def A_impl_treeOfWord.r1 : ACode := (.region none [oM 9 0,
oP 10 (.lenStr (.t 9)),
oP 11 (.bin .quo (.t 10) (.c (.int .i64 2))),
oP 12 (.build ([.int .i64 0] ++ List.replicate 32 (.int .u8 0)) [(0, 1, .t 11)]),
oP 3 (.alloc ([.int .i64 0] ++ List.replicate 32 (.int .u8 0))),
⟨none, .store 33 (.t 3) (.t 12), none⟩])
def A_impl_treeOfWord.r2 : ACode := (.region none [oP 13 (.buildSlice 1 0 [.int .u8 0] []),
oP 14 (.buildSlice 1 1 [.slice none 0 0] [(0, 1, .t 13)]),
oP 4 (.alloc [.slice none 0 0]),
⟨none, .store 1 (.t 4) (.t 14), none⟩])
def A_impl_treeOfWord.r3 : ACode := (.region none [oP 5 (.move (.c (.int .u8 0)))])
def A_impl_treeOfWord.r4 : ACode := (.region none [oP 15 (.makeFunc 278 [.t 4, .t 3]),
oM 6 15])
def A_impl_treeOfWord.r5 : ACode := (.region none [oM 16 0,
oP 17 (.lenStr (.t 16)),
oP 18 (.move (.c (.int .i64 0)))])
def A_impl_treeOfWord.r6 : ACode := (.region none [oP 19 (.bin .lss (.t 18) (.t 17))])
def A_impl_treeOfWord.r7 : ACode := (.region none [oM 20 18,
oM 7 20])
def A_impl_treeOfWord.r8 : ACode := (.region none [oM 21 0,
oM 22 7,
oP 23 (.indexStr (.t 21) (.t 22)),
oP 24 (.bin .eql (.t 23) (.c (.int .u8 41)))])
def A_impl_treeOfWord.r9 : ACode := (.region none [oM 25 6,
oP 26 (.callv (.t 25) [])])
def A_impl_treeOfWord.r10 : ACode := (.region none [oP 27 (.load none (.t 4)),
oP 28 (.len (.t 27)),
oP 29 (.bin .sub (.t 28) (.c (.int .i64 1))),
oM 8 29])
def A_impl_treeOfWord.r11 : ACode := (.region (some 8) [oP 30 (.load none (.t 4)),
oM 31 8,
oP 32 (.load none (.t 4)),
oM 33 8,
oP 34 (.indexAddr none 1 (.t 32) (.t 33)),
oP 35 (.load none (.t 34)),
oM 36 5,
oP 37 (.buildSlice 1 1 [.int .u8 0] [(0, 1, .t 36)]),
oP 38 (.appendF 1 1 (.t 35) (.t 37) [.t 4]),
oP 39 (.indexAddr none 1 (.t 30) (.t 31)),
⟨none, .store 1 (.t 39) (.t 38), none⟩])
def A_impl_treeOfWord.r12 : ACode := (.region none [oP 40 (.load none (.t 4)),
oM 41 5,
oP 42 (.buildSlice 1 1 [.int .u8 0] [(0, 1, .t 41)]),
oP 43 (.buildSlice 1 1 [.slice none 0 0] [(0, 1, .t 42)]),
oP 44 (.append 1 24 (.t 40) (.t 43)),
⟨none, .store 1 (.t 4) (.t 44), none⟩])
def A_impl_treeOfWord.r13 : ACode := (.region none [oM 45 5,
oP 46 (.bin .add (.t 45) (.c (.int .u8 1))),
oM 5 46])
def A_impl_treeOfWord.r14 : ACode := (.region none [oP 47 (.bin .add (.t 18) (.c (.int .i64 1))),
oM 18 47])
def A_impl_treeOfWord.l0 : ACode := (.seq A_impl_treeOfWord.r6 (.seq (.cond (.t 19) .skip (.exit 0)) (.seq (.block 1 (.seq A_impl_treeOfWord.r7 (.seq (.seq A_impl_treeOfWord.r8 (.cond (.t 24) (.seq A_impl_treeOfWord.r9 (.exit 1)) .skip)) (.seq A_impl_treeOfWord.r10 (.seq A_impl_treeOfWord.r11 (.seq A_impl_treeOfWord.r12 A_impl_treeOfWord.r13)))))) A_impl_treeOfWord.r14)))
def A_impl_treeOfWord.r15 : ACode := (.region none [oM 48 6,
oP 49 (.callv (.t 48) [])])
def A_impl_treeOfWord.r16 : ACode := (.region none [oP 50 (.load (some 33) (.t 3)),
⟨none, .store 33 (.t 2) (.t 50), none⟩])
def A_impl_treeOfWord : AFunc := ⟨[.cell 2 (some 33)], (.seq A_impl_treeOfWord.r0 (.seq A_impl_treeOfWord.r1 (.seq A_impl_treeOfWord.r2 (.seq A_impl_treeOfWord.r3 (.seq A_impl_treeOfWord.r4 (.seq (.seq A_impl_treeOfWord.r5 (.block 0 (.loop A_impl_treeOfWord.l0))) (.seq A_impl_treeOfWord.r15 (.seq A_impl_treeOfWord.r16 .ret))))))))⟩
/-! impl_leastWord -/
def A_impl_leastWord.r0 : ACode := (.region none [oP 1 (.box (.t 0)),
oP 2 (.move (.c (.string ⟨#[]⟩))),
oP 3 (.move (.c (.int .i64 0)))])
def A_impl_leastWord.r1 : ACode := (.region none [oP 8 (.load (some 33) (.t 1)),
oP 9 (.call 274 [.t 8, (.c (.int .i64 0))]),
oM 4 9,
oP 5 (.move (.c (.int .i64 0)))])
def A_impl_leastWord.r2 : ACode := (.region none [oP 10 (.fieldAddr 0 (.t 1)),
oP 11 (.load none (.t 10)),
oP 12 (.move (.c (.int .i64 0)))])
def A_impl_leastWord.r3 : ACode := (.region none [oP 13 (.bin .lss (.t 12) (.t 11))])
def A_impl_leastWord.r4 : ACode := (.region none [oM 14 12,
oM 6 14])
def A_impl_leastWord.r5 : ACode := (.region none [oP 15 (.load (some 33) (.t 1)),
oM 16 6,
oP 17 (.call 274 [.t 15, .t 16]),
oM 7 17])
def A_impl_leastWord.r6 : ACode := (.region none [oM 19 7,
oM 20 4,
oP 21 (.sbin .lss (.t 19) (.t 20)),
oM 18 21])
def A_impl_leastWord.r7 : ACode := (.region none [oM 22 7,
oM 4 22,
oP 5 (.move (.c (.int .i64 1)))])
def A_impl_leastWord.r8 : ACode := (.region none [oM 24 7,
oM 25 4,
oP 26 (.sbin .eql (.t 24) (.t 25)),
oM 23 26])
def A_impl_leastWord.r9 : ACode := (.region none [oM 27 5,
oP 28 (.bin .add (.t 27) (.c (.int .i64 1))),
oM 5 28])
def A_impl_leastWord.r10 : ACode := (.region none [oP 29 (.bin .add (.t 12) (.c (.int .i64 1))),
oM 12 29])
def A_impl_leastWord.l0 : ACode := (.seq A_impl_leastWord.r3 (.seq (.cond (.t 13) .skip (.exit 0)) (.seq (.block 1 (.seq A_impl_leastWord.r4 (.seq A_impl_leastWord.r5 (.block 2 (.seq A_impl_leastWord.r6 (.cond (.t 18) A_impl_leastWord.r7 (.seq A_impl_leastWord.r8 (.cond (.t 23) A_impl_leastWord.r9 .skip)))))))) A_impl_leastWord.r10)))
def A_impl_leastWord.r11 : ACode := (.region none [oM 30 4,
oM 31 5,
oM 2 30,
oM 3 31])
def A_impl_leastWord : AFunc := ⟨[.tmp 2, .tmp 3], (.seq A_impl_leastWord.r0 (.seq A_impl_leastWord.r1 (.seq (.seq A_impl_leastWord.r2 (.block 0 (.loop A_impl_leastWord.l0))) (.seq A_impl_leastWord.r11 .ret))))⟩
/-! slices_Equal_int64_int64 -/
def A_slices_Equal_int64_int64.r0 : ACode := (.region none [oP 4 (.move (.c (.bool false)))])
def A_slices_Equal_int64_int64.r1 : ACode := (.region none [oM 6 0,
oP 7 (.len (.t 6)),
oM 8 1,
oP 9 (.len (.t 8)),
oP 10 (.bin .neq (.t 7) (.t 9))])
def A_slices_Equal_int64_int64.r2 : ACode := (.region none [oP 4 (.move (.c (.bool false)))])
def A_slices_Equal_int64_int64.r3 : ACode := (.region none [oM 11 0,
oP 12 (.len (.t 11)),
oP 13 (.move (.c (.int .i64 0)))])
def A_slices_Equal_int64_int64.r4 : ACode := (.region none [oP 14 (.bin .lss (.t 13) (.t 12))])
def A_slices_Equal_int64_int64.r5 : ACode := (.region none [oM 15 13,
oM 5 15])
def A_slices_Equal_int64_int64.r6 : ACode := (.region (some 9) [oM 16 0,
oM 17 5,
oP 18 (.indexAddr none 1 (.t 16) (.t 17)),
oP 19 (.load none (.t 18)),
oM 20 1,
oM 21 5,
oP 22 (.indexAddr none 1 (.t 20) (.t 21)),
oP 23 (.load none (.t 22)),
oP 24 (.bin .neq (.t 19) (.t 23))])
def A_slices_Equal_int64_int64.r7 : ACode := (.region none [oP 4 (.move (.c (.bool false)))])
def A_slices_Equal_int64_int64.r8 : ACode := (.region none [oP 25 (.bin .add (.t 13) (.c (.int .i64 1))),
oM 13 25])
def A_slices_Equal_int64_int64.l0 : ACode := (.seq A_slices_Equal_int64_int64.r4 (.seq (.cond (.t 14) .skip (.exit 0)) (.seq (.block 1 (.seq A_slices_Equal_int64_int64.r5 (.seq A_slices_Equal_int64_int64.r6 (.cond (.t 24) (.seq A_slices_Equal_int64_int64.r7 .ret) .skip)))) A_slices_Equal_int64_int64.r8)))
def A_slices_Equal_int64_int64.r9 : ACode := (.region none [oP 4 (.move (.c (.bool true)))])
def A_slices_Equal_int64_int64 : AFunc := ⟨[.tmp 4], (.seq A_slices_Equal_int64_int64.r0 (.seq (.seq A_slices_Equal_int64_int64.r1 (.cond (.t 10) (.seq A_slices_Equal_int64_int64.r2 .ret) .skip)) (.seq (.seq A_slices_Equal_int64_int64.r3 (.block 0 (.loop A_slices_Equal_int64_int64.l0))) (.seq A_slices_Equal_int64_int64.r9 .ret))))⟩
/-! slices_Sort_string_string -/
def A_slices_Sort_string_string.r0 : ACode := (.region none [oM 3 0,
oP 4 (.len (.t 3)),
oM 2 4])
def A_slices_Sort_string_string.r1 : ACode := (.region none [oM 5 0,
oM 6 2,
oM 7 2,
oP 8 (.conv .u64 (.t 7)),
oP 9 (.call 227 [.t 8]),
oP 10 (.call 371 [.t 5, (.c (.int .i64 0)), .t 6, .t 9])])
def A_slices_Sort_string_string : AFunc := ⟨[], (.seq A_slices_Sort_string_string.r0 A_slices_Sort_string_string.r1)⟩
/-! slices_Compact_string_string -/
def A_slices_Compact_string_string.r0 : ACode := (.region none [oP 2 (.move (.c (.slice none 0 0)))])
def A_slices_Compact_string_string.r1 : ACode := (.region none [oM 6 0,
oP 7 (.len (.t 6)),
oP 8 (.bin .lss (.t 7) (.c (.int .i64 2)))])
def A_slices_Compact_string_string.r2 : ACode := (.region none [oM 9 0,
oM 2 9])
def A_slices_Compact_string_string.r3 : ACode := (.region none [oP 3 (.move (.c (.int .i64 1)))])
def A_slices_Compact_string_string.r4 : ACode := (.region none [oM 10 3,
oM 11 0,
oP 12 (.len (.t 11)),
oP 13 (.bin .lss (.t 10) (.t 12))])
def A_slices_Compact_string_string.r6 : ACode := (.region (some 10) [oM 16 0,
oM 17 3,
oP 18 (.indexAddr none 1 (.t 16) (.t 17)),
oP 19 (.load none (.t 18)),
oM 20 0,
oM 21 3,
oP 22 (.bin .sub (.t 21) (.c (.int .i64 1))),
oP 23 (.indexAddr none 1 (.t 20) (.t 22)),
oP 24 (.load none (.t 23)),
oP 25 (.sbin .eql (.t 19) (.t 24))])
def A_slices_Compact_string_string.r7 : ACode := (.region none [oM 26 0,
oM 27 3,
oP 28 (.slice 1 (.t 26) (some (.t 27)) none),
oM 4 28])
def A_slices_Compact_string_string.r8 : ACode := (.region none [oP 5 (.move (.c (.int .i64 1)))])
def A_slices_Compact_string_string.r9 : ACode := (.region none [oM 29 5,
oM 30 4,
oP 31 (.len (.t 30)),
oP 32 (.bin .lss (.t 29) (.t 31))])
def A_slices_Compact_string_string.r11 : ACode := (.region (some 10) [oM 35 4,
oM 36 5,
oP 37 (.indexAddr none 1 (.t 35) (.t 36)),
oP 38 (.load none (.t 37)),
oM 39 4,
oM 40 5,
oP 41 (.bin .sub (.t 40) (.c (.int .i64 1))),
oP 42 (.indexAddr none 1 (.t 39) (.t 41)),
oP 43 (.load none (.t 42)),
oP 44 (.sbin .neq (.t 38) (.t 43))])
def A_slices_Compact_string_string.r12 : ACode := (.region none [oM 45 0,
oM 46 3,
oM 47 4,
oM 48 5,
oP 49 (.indexAddr none 1 (.t 47) (.t 48)),
oP 50 (.load none (.t 49)),
oP 51 (.indexAddr none 1 (.t 45) (.t 46)),
⟨none, .store 1 (.t 51) (.t 50), none⟩])
def A_slices_Compact_string_string.r13 : ACode := (.region none [oM 52 3,
oP 53 (.bin .add (.t 52) (.c (.int .i64 1))),
oM 3 53])
def A_slices_Compact_string_string.r10 : ACode := (.region none [oM 33 5,
oP 34 (.bin .add (.t 33) (.c (.int .i64 1))),
oM 5 34])
def A_slices_Compact_string_string.l0 : ACode := (.seq (.seq A_slices_Compact_string_string.r9 (.cond (.t 32) .skip (.exit 2))) (.seq (.block 3 (.seq A_slices_Compact_string_string.r11 (.cond (.t 44) (.seq A_slices_Compact_string_string.r12 A_slices_Compact_string_string.r13) .skip))) A_slices_Compact_string_string.r10))
def A_slices_Compact_string_string.r14 : ACode := (.region none [oM 54 0,
oM 55 3,
oP 56 (.slice 1 (.t 54) (some (.t 55)) none),
⟨none, .max [], none⟩])
def A_slices_Compact_string_string.r15 : ACode := (.region none [oM 57 0,
oM 58 3,
oP 59 (.slice 1 (.t 57) none (some (.t 58))),
oM 2 59])
def A_slices_Compact_string_string.r5 : ACode := (.region none [oM 14 3,
oP 15 (.bin .add (.t 14) (.c (.int .i64 1))),
oM 3 15])
def A_slices_Compact_string_string.l1 : ACode := (.seq (.seq A_slices_Compact_string_string.r4 (.cond (.t 13) .skip (.exit 0))) (.seq (.block 1 (.seq A_slices_Compact_string_string.r6 (.cond (.t 25) (.seq A_slices_Compact_string_string.r7 (.seq (.seq A_slices_Compact_string_string.r8 (.block 2 (.loop A_slices_Compact_string_string.l0))) (.seq A_slices_Compact_string_string.r14 (.seq A_slices_Compact_string_string.r15 .ret)))) .skip))) A_slices_Compact_string_string.r5))
def A_slices_Compact_string_string.r16 : ACode := (.region none [oM 60 0,
oM 2 60])
def A_slices_Compact_string_string : AFunc := ⟨[.tmp 2], (.seq A_slices_Compact_string_string.r0 (.seq (.seq A_slices_Compact_string_string.r1 (.cond (.t 8) (.seq A_slices_Compact_string_string.r2 .ret) .skip)) (.seq (.seq A_slices_Compact_string_string.r3 (.block 0 (.loop A_slices_Compact_string_string.l1))) (.seq A_slices_Compact_string_string.r16 .ret))))⟩
/-! laws_markText -/
def A_laws_markText.r0 : ACode := (.region none [oP 2 (.move (.c (.string ⟨#[]⟩)))])
def A_laws_markText.r1 : ACode := (.region none [oM 4 0,
oP 5 (.bin .leq (.t 4) (.c (.int .i64 0)))])
def A_laws_markText.r2 : ACode := (.region none [oP 2 (.move (.c (.string ⟨#[109, 48]⟩)))])
def A_laws_markText.r3 : ACode := (.region none [oP 3 (.move (.c (.string ⟨#[]⟩)))])
def A_laws_markText.r4 : ACode := (.region none [oM 6 0,
oP 7 (.bin .gtr (.t 6) (.c (.int .i64 0)))])
def A_laws_markText.r5 : ACode := (.region none [oM 8 0,
oP 9 (.bin .rem (.t 8) (.c (.int .i64 10))),
oP 10 (.bin .add (.c (.int .i64 48)) (.t 9)),
oP 11 (.conv .u8 (.t 10)),
oP 12 (.buildSlice 1 1 [.int .u8 0] [(0, 1, .t 11)]),
oP 13 (.strOf (.t 12)),
oM 14 3,
oP 15 (.sbin .add (.t 13) (.t 14)),
oM 3 15])
def A_laws_markText.r6 : ACode := (.region none [oM 16 0,
oP 17 (.bin .quo (.t 16) (.c (.int .i64 10))),
oM 0 17])
def A_laws_markText.l0 : ACode := (.seq (.seq A_laws_markText.r4 (.cond (.t 7) .skip (.exit 0))) (.block 1 (.seq A_laws_markText.r5 A_laws_markText.r6)))
def A_laws_markText.r7 : ACode := (.region none [oM 18 3,
oP 19 (.sbin .add (.c (.string ⟨#[109]⟩)) (.t 18)),
oM 2 19])
def A_laws_markText : AFunc := ⟨[.tmp 2], (.seq A_laws_markText.r0 (.seq (.seq A_laws_markText.r1 (.cond (.t 5) (.seq A_laws_markText.r2 .ret) .skip)) (.seq A_laws_markText.r3 (.seq (.block 0 (.loop A_laws_markText.l0)) (.seq A_laws_markText.r7 .ret)))))⟩
/-! impl_typeOf -/
def A_impl_typeOf.r0 : ACode := (.region none [oP 2 (.box (.t 0)),
oP 4 (.move (.c (.slice none 0 0)))])
def A_impl_typeOf.r1 : ACode := (.region none [oP 8 (.buildSlice 1 0 [.int .i64 0] []),
oM 5 8])
def A_impl_typeOf.r2 : ACode := (.region none [oP 9 (.load (some 16) (.t 2)),
oM 10 1,
oP 11 (.call 223 [.t 9, .t 10]),
oP 12 (.len (.t 11)),
oP 13 (.move (.c (.int .i64 0)))])
def A_impl_typeOf.r3 : ACode := (.region none [oP 14 (.bin .lss (.t 13) (.t 12))])
def A_impl_typeOf.r4 : ACode := (.region none [oP 15 (.indexAddr none 1 (.t 11) (.t 13)),
oP 16 (.load none (.t 15)),
oM 7 16])
def A_impl_typeOf.r5 : ACode := (.region none [oM 17 5,
oM 18 7,
oP 19 (.len (.t 18)),
oP 20 (.buildSlice 1 1 [.int .i64 0] [(0, 1, .t 19)]),
oP 21 (.append 1 8 (.t 17) (.t 20)),
oM 5 21])
def A_impl_typeOf.r6 : ACode := (.region none [oP 22 (.bin .add (.t 13) (.c (.int .i64 1))),
oM 13 22])
def A_impl_typeOf.l0 : ACode := (.seq A_impl_typeOf.r3 (.seq (.cond (.t 14) .skip (.exit 0)) (.seq (.block 1 (.seq A_impl_typeOf.r4 A_impl_typeOf.r5)) A_impl_typeOf.r6)))
def A_impl_typeOf.r7 : ACode := (.region none [oM 23 5,
oP 24 (.call 219 [.t 23]),
oM 4 24])
def A_impl_typeOf : AFunc := ⟨[.tmp 4], (.seq A_impl_typeOf.r0 (.seq A_impl_typeOf.r1 (.seq (.seq A_impl_typeOf.r2 (.block 0 (.loop A_impl_typeOf.l0))) (.seq A_impl_typeOf.r7 .ret))))⟩
/-! impl_back -/
def A_impl_back.r0 : ACode := (.region none [oP 2 (.box (.t 0)),
oP 4 (.alloc (List.replicate 16 (.int .u8 0)))])
def A_impl_back.r1 : ACode := (.region none [oP 7 (.build (List.replicate 16 (.int .u8 0)) []),
oP 5 (.alloc (List.replicate 16 (.int .u8 0))),
⟨none, .store 16 (.t 5) (.t 7), none⟩])
def A_impl_back.r2 : ACode := (.region none [oM 8 1,
oP 9 (.move (.c (.int .i64 0)))])
def A_impl_back.r3 : ACode := (.region none [oP 10 (.bin .lss (.t 9) (.t 8))])
def A_impl_back.r4 : ACode := (.region none [oM 11 9,
oM 6 11])
def A_impl_back.r5 : ACode := (.region none [oM 12 6,
oP 13 (.indexAddr (some 16) 1 (.t 2) (.t 12)),
oP 14 (.load none (.t 13)),
oM 15 6,
oP 16 (.conv .u8 (.t 15)),
oP 17 (.indexAddr (some 16) 1 (.t 5) (.t 14)),
⟨none, .store 1 (.t 17) (.t 16), none⟩])
def A_impl_back.r6 : ACode := (.region none [oP 18 (.bin .add (.t 9) (.c (.int .i64 1))),
oM 9 18])
def A_impl_back.l0 : ACode := (.seq A_impl_back.r3 (.seq (.cond (.t 10) .skip (.exit 0)) (.seq (.block 1 (.seq A_impl_back.r4 A_impl_back.r5)) A_impl_back.r6)))
def A_impl_back.r7 : ACode := (.region none [oP 19 (.load (some 16) (.t 5)),
⟨none, .store 16 (.t 4) (.t 19), none⟩])
def A_impl_back : AFunc := ⟨[.cell 4 (some 16)], (.seq A_impl_back.r0 (.seq A_impl_back.r1 (.seq (.seq A_impl_back.r2 (.block 0 (.loop A_impl_back.l0))) (.seq A_impl_back.r7 .ret))))⟩
/-! impl_then -/
def A_impl_then.r0 : ACode := (.region none [oP 3 (.box (.t 0)),
oP 4 (.box (.t 1)),
oP 6 (.alloc (List.replicate 16 (.int .u8 0)))])
def A_impl_then.r1 : ACode := (.region none [oP 9 (.build (List.replicate 16 (.int .u8 0)) []),
oP 7 (.alloc (List.replicate 16 (.int .u8 0))),
⟨none, .store 16 (.t 7) (.t 9), none⟩])
def A_impl_then.r2 : ACode := (.region none [oM 10 2,
oP 11 (.move (.c (.int .i64 0)))])
def A_impl_then.r3 : ACode := (.region none [oP 12 (.bin .lss (.t 11) (.t 10))])
def A_impl_then.r4 : ACode := (.region none [oM 13 11,
oM 8 13])
def A_impl_then.r5 : ACode := (.region none [oM 14 8,
oM 15 8,
oP 16 (.indexAddr (some 16) 1 (.t 3) (.t 15)),
oP 17 (.load none (.t 16)),
oP 18 (.indexAddr (some 16) 1 (.t 4) (.t 17)),
oP 19 (.load none (.t 18)),
oP 20 (.indexAddr (some 16) 1 (.t 7) (.t 14)),
⟨none, .store 1 (.t 20) (.t 19), none⟩])
def A_impl_then.r6 : ACode := (.region none [oP 21 (.bin .add (.t 11) (.c (.int .i64 1))),
oM 11 21])
def A_impl_then.l0 : ACode := (.seq A_impl_then.r3 (.seq (.cond (.t 12) .skip (.exit 0)) (.seq (.block 1 (.seq A_impl_then.r4 A_impl_then.r5)) A_impl_then.r6)))
def A_impl_then.r7 : ACode := (.region none [oP 22 (.load (some 16) (.t 7)),
⟨none, .store 16 (.t 6) (.t 22), none⟩])
def A_impl_then : AFunc := ⟨[.cell 6 (some 16)], (.seq A_impl_then.r0 (.seq A_impl_then.r1 (.seq (.seq A_impl_then.r2 (.block 0 (.loop A_impl_then.l0))) (.seq A_impl_then.r7 .ret))))⟩
/-! spec_l03Less -/
def A_spec_l03Less.r0 : ACode := (.region none [oP 4 (.move (.c (.int .i64 0)))])
def A_spec_l03Less.r1 : ACode := (.region none [oP 5 (.move (.c (.int .i64 0)))])
def A_spec_l03Less.r2 : ACode := (.region none [oM 6 5,
oM 7 0,
oP 8 (.len (.t 7)),
oP 9 (.bin .lss (.t 6) (.t 8)),
oM 10 9,
⟨some 11, .move (.t 5), some (10, true)⟩,
⟨some 12, .move (.t 1), some (10, true)⟩,
⟨some 13, .len (.t 12), some (10, true)⟩,
⟨some 14, .bin .lss (.t 11) (.t 13), some (10, true)⟩,
oP 15 (.pick (.t 10) (.t 14) (.c (.bool false)))])
def A_spec_l03Less.r4 : ACode := (.region (some 9) [oM 18 0,
oM 19 5,
oP 20 (.indexAddr none 1 (.t 18) (.t 19)),
oP 21 (.load none (.t 20)),
oM 22 1,
oM 23 5,
oP 24 (.indexAddr none 1 (.t 22) (.t 23)),
oP 25 (.load none (.t 24)),
oP 26 (.bin .lss (.t 21) (.t 25))])
def A_spec_l03Less.r5 : ACode := (.region none [oP 4 (.move (.c (.int .i64 (-1))))])
def A_spec_l03Less.r6 : ACode := (.region (some 9) [oM 27 0,
oM 28 5,
oP 29 (.indexAddr none 1 (.t 27) (.t 28)),
oP 30 (.load none (.t 29)),
oM 31 1,
oM 32 5,
oP 33 (.indexAddr none 1 (.t 31) (.t 32)),
oP 34 (.load none (.t 33)),
oP 35 (.bin .gtr (.t 30) (.t 34))])
def A_spec_l03Less.r7 : ACode := (.region none [oP 4 (.move (.c (.int .i64 1)))])
def A_spec_l03Less.r3 : ACode := (.region none [oM 16 5,
oP 17 (.bin .add (.t 16) (.c (.int .i64 1))),
oM 5 17])
def A_spec_l03Less.l0 : ACode := (.seq (.seq A_spec_l03Less.r2 (.cond (.t 15) .skip (.exit 0))) (.seq (.block 1 (.seq (.seq A_spec_l03Less.r4 (.cond (.t 26) (.seq A_spec_l03Less.r5 .ret) .skip)) (.seq A_spec_l03Less.r6 (.cond (.t 35) (.seq A_spec_l03Less.r7 .ret) .skip)))) A_spec_l03Less.r3))
def A_spec_l03Less.r8 : ACode := (.region none [oM 37 0,
oP 38 (.len (.t 37)),
oM 39 1,
oP 40 (.len (.t 39)),
oP 41 (.bin .lss (.t 38) (.t 40)),
oM 36 41])
def A_spec_l03Less.r9 : ACode := (.region none [oP 4 (.move (.c (.int .i64 (-1))))])
def A_spec_l03Less.r10 : ACode := (.region none [oM 43 0,
oP 44 (.len (.t 43)),
oM 45 1,
oP 46 (.len (.t 45)),
oP 47 (.bin .gtr (.t 44) (.t 46)),
oM 42 47])
def A_spec_l03Less.r11 : ACode := (.region none [oP 4 (.move (.c (.int .i64 1)))])
def A_spec_l03Less.r12 : ACode := (.region none [oP 4 (.move (.c (.int .i64 0)))])
def A_spec_l03Less : AFunc := ⟨[.tmp 4], (.seq A_spec_l03Less.r0 (.seq (.seq A_spec_l03Less.r1 (.block 0 (.loop A_spec_l03Less.l0))) (.seq (.block 2 (.seq A_spec_l03Less.r8 (.cond (.t 36) (.seq A_spec_l03Less.r9 .ret) (.seq A_spec_l03Less.r10 (.cond (.t 42) (.seq A_spec_l03Less.r11 .ret) .skip))))) (.seq A_spec_l03Less.r12 .ret))))⟩
/-! spec_l01Cycles -/
def A_spec_l01Cycles.r0 : ACode := (.region none [oP 2 (.box (.t 0)),
oP 4 (.move (.c (.slice none 0 0)))])
def A_spec_l01Cycles.r1 : ACode := (.region none [oP 10 (.buildSlice 1 0 [.slice none 0 0] []),
oP 11 (.build (List.replicate 16 (.bool false)) []),
oP 6 (.alloc (List.replicate 16 (.bool false))),
oM 5 10,
⟨none, .store 16 (.t 6) (.t 11), none⟩])
def A_spec_l01Cycles.r2 : ACode := (.region none [oP 7 (.move (.c (.int .i64 0)))])
def A_spec_l01Cycles.r3 : ACode := (.region none [oM 12 7,
oM 13 1,
oP 14 (.bin .lss (.t 12) (.t 13))])
def A_spec_l01Cycles.r5 : ACode := (.region none [oP 17 (.buildSlice 1 0 [.int .i64 0] []),
oM 8 17])
def A_spec_l01Cycles.r6 : ACode := (.region none [oM 18 7,
oM 9 18])
def A_spec_l01Cycles.r7 : ACode := (.region none [oM 19 9,
oP 20 (.indexAddr (some 16) 1 (.t 6) (.t 19)),
oP 21 (.load none (.t 20)),
oP 22 (.not (.t 21))])
def A_spec_l01Cycles.r9 : ACode := (.region none [oM 27 9,
oP 28 (.indexAddr (some 16) 1 (.t 6) (.t 27)),
⟨none, .store 1 (.t 28) (.c (.bool true)), none⟩])
def A_spec_l01Cycles.r10 : ACode := (.region none [oM 29 8,
oM 30 9,
oP 31 (.buildSlice 1 1 [.int .i64 0] [(0, 1, .t 30)]),
oP 32 (.append 1 8 (.t 29) (.t 31)),
oM 8 32])
def A_spec_l01Cycles.r8 : ACode := (.region none [oM 23 9,
oP 24 (.indexAddr (some 16) 1 (.t 2) (.t 23)),
oP 25 (.load none (.t 24)),
oP 26 (.conv .i64 (.t 25)),
oM 9 26])
def A_spec_l01Cycles.l0 : ACode := (.seq (.seq A_spec_l01Cycles.r7 (.cond (.t 22) .skip (.exit 2))) (.seq (.block 3 (.seq A_spec_l01Cycles.r9 A_spec_l01Cycles.r10)) A_spec_l01Cycles.r8))
def A_spec_l01Cycles.r11 : ACode := (.region none [oM 33 8,
oP 34 (.len (.t 33)),
oP 35 (.bin .gtr (.t 34) (.c (.int .i64 0)))])
def A_spec_l01Cycles.r12 : ACode := (.region none [oM 36 5,
oM 37 8,
oP 38 (.buildSlice 1 1 [.slice none 0 0] [(0, 1, .t 37)]),
oP 39 (.append 1 24 (.t 36) (.t 38)),
oM 5 39])
def A_spec_l01Cycles.r4 : ACode := (.region none [oM 15 7,
oP 16 (.bin .add (.t 15) (.c (.int .i64 1))),
oM 7 16])
def A_spec_l01Cycles.l1 : ACode := (.seq (.seq A_spec_l01Cycles.r3 (.cond (.t 14) .skip (.exit 0))) (.seq (.block 1 (.seq A_spec_l01Cycles.r5 (.seq (.seq A_spec_l01Cycles.r6 (.block 2 (.loop A_spec_l01Cycles.l0))) (.seq A_spec_l01Cycles.r11 (.cond (.t 35) A_spec_l01Cycles.r12 .skip))))) A_spec_l01Cycles.r4))
def A_spec_l01Cycles.r13 : ACode := (.region none [oM 40 5,
oM 4 40])
def A_spec_l01Cycles : AFunc := ⟨[.tmp 4], (.seq A_spec_l01Cycles.r0 (.seq A_spec_l01Cycles.r1 (.seq (.seq A_spec_l01Cycles.r2 (.block 0 (.loop A_spec_l01Cycles.l1))) (.seq A_spec_l01Cycles.r13 .ret))))⟩
/-! spec_l05At -/
def A_spec_l05At.r0 : ACode := (.region none [oP 2 (.box (.t 0)),
oP 4 (.move (.c (.string ⟨#[]⟩)))])
def A_spec_l05At.r1 : ACode := (.region none [oP 7 (.load (some 33) (.t 2)),
oM 8 1,
oP 9 (.call 281 [.t 7, .t 8, (.c (.bool true))]),
oP 10 (.sbin .add (.c (.string ⟨#[40]⟩)) (.t 9)),
oP 11 (.sbin .add (.t 10) (.c (.string ⟨#[41]⟩))),
oM 5 11])
def A_spec_l05At.r2 : ACode := (.region none [oM 12 1,
oP 13 (.fieldAddr 1 (.t 2)),
oP 14 (.indexAddr (some 16) 1 (.t 13) (.t 12)),
oP 15 (.load none (.t 14)),
oP 16 (.conv .i64 (.t 15)),
oM 6 16])
def A_spec_l05At.r3 : ACode := (.region none [oM 17 6,
oM 18 1,
oP 19 (.bin .neq (.t 17) (.t 18))])
def A_spec_l05At.r5 : ACode := (.region none [oM 25 5,
oP 26 (.sbin .add (.t 25) (.c (.string ⟨#[40]⟩))),
oP 27 (.load (some 33) (.t 2)),
oM 28 6,
oP 29 (.call 281 [.t 27, .t 28, (.c (.bool true))]),
oP 30 (.sbin .add (.t 26) (.t 29)),
oP 31 (.sbin .add (.t 30) (.c (.string ⟨#[41]⟩))),
oM 5 31])
def A_spec_l05At.r4 : ACode := (.region none [oM 20 6,
oP 21 (.fieldAddr 1 (.t 2)),
oP 22 (.indexAddr (some 16) 1 (.t 21) (.t 20)),
oP 23 (.load none (.t 22)),
oP 24 (.conv .i64 (.t 23)),
oM 6 24])
def A_spec_l05At.l0 : ACode := (.seq (.seq A_spec_l05At.r3 (.cond (.t 19) .skip (.exit 0))) (.seq (.block 1 A_spec_l05At.r5) A_spec_l05At.r4))
def A_spec_l05At.r6 : ACode := (.region none [oM 32 5,
oM 4 32])
def A_spec_l05At : AFunc := ⟨[.tmp 4], (.seq A_spec_l05At.r0 (.seq A_spec_l05At.r1 (.seq (.seq A_spec_l05At.r2 (.block 0 (.loop A_spec_l05At.l0))) (.seq A_spec_l05At.r6 .ret))))⟩
/-! impl_treeOfWord_1 -/
def A_impl_treeOfWord_1.r0 : ACode := (.region none [oP 7 (.load none (.t 0)),
oP 8 (.len (.t 7)),
oP 9 (.bin .sub (.t 8) (.c (.int .i64 1))),
oM 2 9])
def A_impl_treeOfWord_1.r1 : ACode := (.region none [oP 10 (.load none (.t 0)),
oM 11 2,
oP 12 (.indexAddr none 1 (.t 10) (.t 11)),
oP 13 (.load none (.t 12)),
oM 3 13])
def A_impl_treeOfWord_1.r2 : ACode := (.region none [oP 14 (.fieldAddr 1 (.t 1)),
oM 4 14])
def A_impl_treeOfWord_1.r3 : ACode := (.region none [oM 15 2,
oP 16 (.bin .rem (.t 15) (.c (.int .i64 2))),
oP 17 (.bin .eql (.t 16) (.c (.int .i64 1)))])
def A_impl_treeOfWord_1.r4 : ACode := (.region none [oP 18 (.fieldAddr 17 (.t 1)),
oM 4 18])
def A_impl_treeOfWord_1.r5 : ACode := (.region none [oM 19 3,
oP 20 (.len (.t 19)),
oP 21 (.move (.c (.int .i64 0)))])
def A_impl_treeOfWord_1.r6 : ACode := (.region none [oP 22 (.bin .lss (.t 21) (.t 20))])
def A_impl_treeOfWord_1.r7 : ACode := (.region none [oM 23 21,
oP 24 (.indexAddr none 1 (.t 19) (.t 21)),
oP 25 (.load none (.t 24)),
oM 5 23,
oM 6 25])
def A_impl_treeOfWord_1.r8 : ACode := (.region (some 12) [oM 26 4,
oM 27 6,
oM 28 3,
oM 29 5,
oP 30 (.bin .add (.t 29) (.c (.int .i64 1))),
oM 31 3,
oP 32 (.len (.t 31)),
oP 33 (.bin .rem (.t 30) (.t 32)),
oP 34 (.indexAddr none 1 (.t 28) (.t 33)),
oP 35 (.load none (.t 34)),
oP 36 (.nilCheck (.t 26)),
oP 37 (.indexAddr (some 16) 1 (.t 36) (.t 27)),
⟨none, .store 1 (.t 37) (.t 35), none⟩])
def A_impl_treeOfWord_1.r9 : ACode := (.region none [oP 38 (.bin .add (.t 21) (.c (.int .i64 1))),
oM 21 38])
def A_impl_treeOfWord_1.l0 : ACode := (.seq A_impl_treeOfWord_1.r6 (.seq (.cond (.t 22) .skip (.exit 0)) (.seq (.block 1 (.seq A_impl_treeOfWord_1.r7 A_impl_treeOfWord_1.r8)) A_impl_treeOfWord_1.r9)))
def A_impl_treeOfWord_1.r10 : ACode := (.region none [oP 39 (.load none (.t 0)),
oM 40 2,
oP 41 (.slice 1 (.t 39) none (some (.t 40))),
⟨none, .store 1 (.t 0) (.t 41), none⟩])
def A_impl_treeOfWord_1 : AFunc := ⟨[], (.seq A_impl_treeOfWord_1.r0 (.seq A_impl_treeOfWord_1.r1 (.seq A_impl_treeOfWord_1.r2 (.seq (.seq A_impl_treeOfWord_1.r3 (.cond (.t 17) A_impl_treeOfWord_1.r4 .skip)) (.seq (.seq A_impl_treeOfWord_1.r5 (.block 0 (.loop A_impl_treeOfWord_1.l0))) A_impl_treeOfWord_1.r10)))))⟩
/-! impl_wordOfTree -/
def A_impl_wordOfTree.r0 : ACode := (.region none [oP 2 (.box (.t 0)),
oP 4 (.move (.c (.string ⟨#[]⟩)))])
def A_impl_wordOfTree.r1 : ACode := (.region none [oP 5 (.fieldAddr 1 (.t 2)),
oP 6 (.load (some 16) (.t 5)),
oP 7 (.fieldAddr 17 (.t 2)),
oP 8 (.load (some 16) (.t 7)),
oM 9 1,
oP 10 (.call 283 [.t 6, .t 8, .t 9, (.c (.bool true))]),
oM 4 10])
def A_impl_wordOfTree : AFunc := ⟨[.tmp 4], (.seq A_impl_wordOfTree.r0 (.seq A_impl_wordOfTree.r1 .ret))⟩
/-! slices_pdqsortOrdered_string -/
def A_slices_pdqsortOrdered_string.r0 : ACode := (.region none [oP 8 (.move (.c (.bool true)))])
def A_slices_pdqsortOrdered_string.r1 : ACode := (.region none [oP 9 (.move (.c (.bool true)))])
def A_slices_pdqsortOrdered_string.r2 : ACode := (.region none [oM 19 2,
oM 20 1,
oP 21 (.bin .sub (.t 19) (.t 20)),
oM 10 21])
def A_slices_pdqsortOrdered_string.r3 : ACode := (.region none [oM 22 10,
oP 23 (.bin .leq (.t 22) (.c (.int .i64 12)))])
def A_slices_pdqsortOrdered_string.r4 : ACode := (.region none [oM 24 0,
oM 25 1,
oM 26 2,
oP 27 (.call 378 [.t 24, .t 25, .t 26])])
def A_slices_pdqsortOrdered_string.r5 : ACode := (.region none [oM 28 3,
oP 29 (.bin .eql (.t 28) (.c (.int .i64 0)))])
def A_slices_pdqsortOrdered_string.r6 : ACode := (.region none [oM 30 0,
oM 31 1,
oM 32 2,
oP 33 (.call 379 [.t 30, .t 31, .t 32])])
def A_slices_pdqsortOrdered_string.r7 : ACode := (.region none [oM 34 8,
oP 35 (.not (.t 34))])
def A_slices_pdqsortOrdered_string.r8 : ACode := (.region none [oM 36 0,
oM 37 1,
oM 38 2,
oP 39 (.call 380 [.t 36, .t 37, .t 38])])
def A_slices_pdqsortOrdered_string.r9 : ACode := (.region none [oM 40 3,
oP 41 (.bin .sub (.t 40) (.c (.int .i64 1))),
oM 3 41])
def A_slices_pdqsortOrdered_string.r10 : ACode := (.region none [oM 43 0,
oM 44 1,
oM 45 2,
oP 46 (.call 381 [.t 43, .t 44, .t 45]),
oM 42 46,
oP 47 (.extract (.t 42) 0),
oP 48 (.extract (.t 42) 1),
oM 11 47,
oM 12 48])
def A_slices_pdqsortOrdered_string.r11 : ACode := (.region none [oM 49 12,
oP 50 (.bin .eql (.t 49) (.c (.int .i64 2)))])
def A_slices_pdqsortOrdered_string.r12 : ACode := (.region none [oM 51 0,
oM 52 1,
oM 53 2,
oP 54 (.call 382 [.t 51, .t 52, .t 53])])
def A_slices_pdqsortOrdered_string.r13 : ACode := (.region none [oM 55 2,
oP 56 (.bin .sub (.t 55) (.c (.int .i64 1))),
oM 57 11,
oM 58 1,
oP 59 (.bin .sub (.t 57) (.t 58)),
oP 60 (.bin .sub (.t 56) (.t 59)),
oM 11 60])
def A_slices_pdqsortOrdered_string.r14 : ACode := (.region none [oP 12 (.move (.c (.int .i64 1)))])
def A_slices_pdqsortOrdered_string.r15 : ACode := (.region none [oM 61 8,
oM 62 61,
⟨some 63, .move (.t 9), some (62, true)⟩,
oP 64 (.pick (.t 62) (.t 63) (.c (.bool false))),
oM 65 64,
⟨some 66, .move (.t 12), some (65, true)⟩,
⟨some 67, .bin .eql (.t 66) (.c (.int .i64 1)), some (65, true)⟩,
oP 68 (.pick (.t 65) (.t 67) (.c (.bool false)))])
def A_slices_pdqsortOrdered_string.r16 : ACode := (.region none [oM 69 0,
oM 70 1,
oM 71 2,
oP 72 (.call 383 [.t 69, .t 70, .t 71])])
def A_slices_pdqsortOrdered_string.r17 : ACode := (.region (some 15) [oM 73 1,
oP 74 (.bin .gtr (.t 73) (.c (.int .i64 0))),
oM 75 74,
⟨some 76, .move (.t 0), some (75, true)⟩,
⟨some 77, .move (.t 1), some (75, true)⟩,
⟨some 78, .bin .sub (.t 77) (.c (.int .i64 1)), some (75, true)⟩,
⟨some 79, .indexAddr none 1 (.t 76) (.t 78), some (75, true)⟩,
⟨some 80, .load none (.t 79), some (75, true)⟩,
⟨some 81, .move (.t 0), some (75, true)⟩,
⟨some 82, .move (.t 11), some (75, true)⟩,
⟨some 83, .indexAddr none 1 (.t 81) (.t 82), some (75, true)⟩,
⟨some 84, .load none (.t 83), some (75, true)⟩,
⟨some 85, .call 384 [.t 80, .t 84], some (75, true)⟩,
⟨some 86, .not (.t 85), some (75, true)⟩,
oP 87 (.pick (.t 75) (.t 86) (.c (.bool false)))])
def A_slices_pdqsortOrdered_string.r18 : ACode := (.region none [oM 88 0,
oM 89 1,
oM 90 2,
oM 91 11,
oP 92 (.call 385 [.t 88, .t 89, .t 90, .t 91]),
oM 13 92])
def A_slices_pdqsortOrdered_string.r19 : ACode := (.region none [oM 93 13,
oM 1 93])
def A_slices_pdqsortOrdered_string.r20 : ACode := (.region none [oM 95 0,
oM 96 1,
oM 97 2,
oM 98 11,
oP 99 (.call 386 [.t 95, .t 96, .t 97, .t 98]),
oM 94 99,
oP 100 (.extract (.t 94) 0),
oP 101 (.extract (.t 94) 1),
oM 14 100,
oM 15 101])
def A_slices_pdqsortOrdered_string.r21 : ACode := (.region none [oM 102 15,
oM 9 102])
def A_slices_pdqsortOrdered_string.r22 : ACode := (.region none [oM 103 14,
oM 104 1,
oP 105 (.bin .sub (.t 103) (.t 104)),
oM 106 2,
oM 107 14,
oP 108 (.bin .sub (.t 106) (.t 107)),
oM 16 105,
oM 17 108])
def A_slices_pdqsortOrdered_string.r23 : ACode := (.region none [oM 109 10,
oP 110 (.bin .quo (.t 109) (.c (.int .i64 8))),
oM 18 110])
def A_slices_pdqsortOrdered_string.r24 : ACode := (.region none [oM 111 16,
oM 112 17,
oP 113 (.bin .lss (.t 111) (.t 112))])
def A_slices_pdqsortOrdered_string.r25 : ACode := (.region none [oM 114 16,
oM 115 18,
oP 116 (.bin .geq (.t 114) (.t 115)),
oM 8 116])
def A_slices_pdqsortOrdered_string.r26 : ACode := (.region none [oM 117 0,
oM 118 1,
oM 119 14,
oM 120 3,
oP 121 (.call 371 [.t 117, .t 118, .t 119, .t 120])])
def A_slices_pdqsortOrdered_string.r27 : ACode := (.region none [oM 122 14,
oP 123 (.bin .add (.t 122) (.c (.int .i64 1))),
oM 1 123])
def A_slices_pdqsortOrdered_string.r28 : ACode := (.region none [oM 124 17,
oM 125 18,
oP 126 (.bin .geq (.t 124) (.t 125)),
oM 8 126])
def A_slices_pdqsortOrdered_string.r29 : ACode := (.region none [oM 127 0,
oM 128 14,
oP 129 (.bin .add (.t 128) (.c (.int .i64 1))),
oM 130 2,
oM 131 3,
oP 132 (.call 371 [.t 127, .t 129, .t 130, .t 131])])
def A_slices_pdqsortOrdered_string.r30 : ACode := (.region none [oM 133 14,
oM 2 133])
def A_slices_pdqsortOrdered_string.l0 : ACode := (.block 1 (.seq A_slices_pdqsortOrdered_string.r2 (.seq (.seq A_slices_pdqsortOrdered_string.r3 (.cond (.t 23) (.seq A_slices_pdqsortOrdered_string.r4 .ret) .skip)) (.seq (.seq A_slices_pdqsortOrdered_string.r5 (.cond (.t 29) (.seq A_slices_pdqsortOrdered_string.r6 .ret) .skip)) (.seq (.seq A_slices_pdqsortOrdered_string.r7 (.cond (.t 35) (.seq A_slices_pdqsortOrdered_string.r8 A_slices_pdqsortOrdered_string.r9) .skip)) (.seq A_slices_pdqsortOrdered_string.r10 (.seq (.seq A_slices_pdqsortOrdered_string.r11 (.cond (.t 50) (.seq A_slices_pdqsortOrdered_string.r12 (.seq A_slices_pdqsortOrdered_string.r13 A_slices_pdqsortOrdered_string.r14)) .skip)) (.seq (.seq A_slices_pdqsortOrdered_string.r15 (.cond (.t 68) (.seq A_slices_pdqsortOrdered_string.r16 (.cond (.t 72) .ret .skip)) .skip)) (.seq (.seq A_slices_pdqsortOrdered_string.r17 (.cond (.t 87) (.seq A_slices_pdqsortOrdered_string.r18 (.seq A_slices_pdqsortOrdered_string.r19 (.exit 1))) .skip)) (.seq A_slices_pdqsortOrdered_string.r20 (.seq A_slices_pdqsortOrdered_string.r21 (.seq A_slices_pdqsortOrdered_string.r22 (.seq A_slices_pdqsortOrdered_string.r23 (.seq A_slices_pdqsortOrdered_string.r24 (.cond (.t 113) (.seq A_slices_pdqsortOrdered_string.r25 (.seq A_slices_pdqsortOrdered_string.r26 A_slices_pdqsortOrdered_string.r27)) (.seq A_slices_pdqsortOrdered_string.r28 (.seq A_slices_pdqsortOrdered_string.r29 A_slices_pdqsortOrdered_string.r30)))))))))))))))))
def A_slices_pdqsortOrdered_string : AFunc := ⟨[], (.seq A_slices_pdqsortOrdered_string.r0 (.seq A_slices_pdqsortOrdered_string.r1 (.block 0 (.loop A_slices_pdqsortOrdered_string.l0))))⟩
/-! math_bits_Len -/
def A_math_bits_Len.r0 : ACode := (.region none [oP 2 (.move (.c (.int .i64 0)))])
def A_math_bits_Len.r1 : ACode := (.region none [oM 3 0,
oP 4 (.conv .u32 (.t 3)),
oP 5 (.call 244 [.t 4]),
oM 2 5])
def A_math_bits_Len.r2 : ACode := (.region none [oM 6 0,
oP 7 (.call 245 [.t 6]),
oM 2 7])
def A_math_bits_Len : AFunc := ⟨[.tmp 2], (.seq A_math_bits_Len.r0 (.seq (.cond (.c (.bool false)) (.seq A_math_bits_Len.r1 .ret) .skip) (.seq A_math_bits_Len.r2 .ret)))⟩
/-! impl_cycles -/
def A_impl_cycles.r0 : ACode := (.region none [oP 2 (.box (.t 0)),
oP 4 (.move (.c (.slice none 0 0)))])
def A_impl_cycles.r1 : ACode := (.region none [oP 10 (.buildSlice 1 0 [.slice none 0 0] []),
oM 5 10])
def A_impl_cycles.r2 : ACode := (.region none [oP 11 (.build (List.replicate 16 (.bool false)) []),
oP 6 (.alloc (List.replicate 16 (.bool false))),
⟨none, .store 16 (.t 6) (.t 11), none⟩])
def A_impl_cycles.r3 : ACode := (.region none [oM 12 1,
oP 13 (.move (.c (.int .i64 0)))])
def A_impl_cycles.r4 : ACode := (.region none [oP 14 (.bin .lss (.t 13) (.t 12))])
def A_impl_cycles.r5 : ACode := (.region none [oM 15 13,
oM 7 15])
def A_impl_cycles.r6 : ACode := (.region none [oM 16 7,
oP 17 (.indexAddr (some 16) 1 (.t 6) (.t 16)),
oP 18 (.load none (.t 17))])
def A_impl_cycles.r7 : ACode := (.region none [oP 19 (.buildSlice 1 0 [.int .i64 0] []),
oM 8 19])
def A_impl_cycles.r8 : ACode := (.region none [oM 20 7,
oM 9 20])
def A_impl_cycles.r9 : ACode := (.region none [oM 21 9,
oP 22 (.indexAddr (some 16) 1 (.t 6) (.t 21)),
oP 23 (.load none (.t 22)),
oP 24 (.not (.t 23))])
def A_impl_cycles.r11 : ACode := (.region none [oM 29 9,
oP 30 (.indexAddr (some 16) 1 (.t 6) (.t 29)),
⟨none, .store 1 (.t 30) (.c (.bool true)), none⟩])
def A_impl_cycles.r12 : ACode := (.region none [oM 31 8,
oM 32 9,
oP 33 (.buildSlice 1 1 [.int .i64 0] [(0, 1, .t 32)]),
oP 34 (.append 1 8 (.t 31) (.t 33)),
oM 8 34])
def A_impl_cycles.r10 : ACode := (.region none [oM 25 9,
oP 26 (.indexAddr (some 16) 1 (.t 2) (.t 25)),
oP 27 (.load none (.t 26)),
oP 28 (.conv .i64 (.t 27)),
oM 9 28])
def A_impl_cycles.l0 : ACode := (.seq (.seq A_impl_cycles.r9 (.cond (.t 24) .skip (.exit 2))) (.seq (.block 3 (.seq A_impl_cycles.r11 A_impl_cycles.r12)) A_impl_cycles.r10))
def A_impl_cycles.r13 : ACode := (.region none [oM 35 5,
oM 36 8,
oP 37 (.buildSlice 1 1 [.slice none 0 0] [(0, 1, .t 36)]),
oP 38 (.append 1 24 (.t 35) (.t 37)),
oM 5 38])
def A_impl_cycles.r14 : ACode := (.region none [oP 39 (.bin .add (.t 13) (.c (.int .i64 1))),
oM 13 39])
def A_impl_cycles.l1 : ACode := (.seq A_impl_cycles.r4 (.seq (.cond (.t 14) .skip (.exit 0)) (.seq (.block 1 (.seq A_impl_cycles.r5 (.seq (.seq A_impl_cycles.r6 (.cond (.t 18) (.exit 1) .skip)) (.seq A_impl_cycles.r7 (.seq (.seq A_impl_cycles.r8 (.block 2 (.loop A_impl_cycles.l0))) A_impl_cycles.r13))))) A_impl_cycles.r14)))
def A_impl_cycles.r15 : ACode := (.region none [oM 40 5,
oM 4 40])
def A_impl_cycles : AFunc := ⟨[.tmp 4], (.seq A_impl_cycles.r0 (.seq A_impl_cycles.r1 (.seq A_impl_cycles.r2 (.seq (.seq A_impl_cycles.r3 (.block 0 (.loop A_impl_cycles.l1))) (.seq A_impl_cycles.r15 .ret)))))⟩
/-! impl_descending -/
def A_impl_descending.r0 : ACode := (.region none [oP 2 (.move (.c (.slice none 0 0)))])
def A_impl_descending.r1 : ACode := (.region none [oM 3 0,
oP 4 (.call 224 [.t 3])])
def A_impl_descending.r2 : ACode := (.region none [oM 5 0,
oP 6 (.call 225 [.t 5])])
def A_impl_descending.r3 : ACode := (.region none [oM 7 0,
oM 2 7])
def A_impl_descending : AFunc := ⟨[.tmp 2], (.seq A_impl_descending.r0 (.seq A_impl_descending.r1 (.seq A_impl_descending.r2 (.seq A_impl_descending.r3 .ret))))⟩
/-! spec_l05Below -/
def A_spec_l05Below.r0 : ACode := (.region none [oP 3 (.box (.t 0)),
oP 6 (.move (.c (.string ⟨#[]⟩)))])
def A_spec_l05Below.r1 : ACode := (.region none [oP 7 (.move (.c (.string ⟨#[]⟩)))])
def A_spec_l05Below.r2 : ACode := (.region none [oP 10 (.fieldAddr 1 (.t 3)),
oP 11 (.load (some 16) (.t 10)),
oP 8 (.alloc (List.replicate 16 (.int .u8 0))),
⟨none, .store 16 (.t 8) (.t 11), none⟩])
def A_spec_l05Below.r3 : ACode := (.region none [oM 12 2])
def A_spec_l05Below.r4 : ACode := (.region none [oP 13 (.fieldAddr 17 (.t 3)),
oP 14 (.load (some 16) (.t 13)),
⟨none, .store 16 (.t 8) (.t 14), none⟩])
def A_spec_l05Below.r5 : ACode := (.region none [oM 15 1,
oP 16 (.indexAddr (some 16) 1 (.t 8) (.t 15)),
oP 17 (.load none (.t 16)),
oP 18 (.conv .i64 (.t 17)),
oM 9 18])
def A_spec_l05Below.r6 : ACode := (.region none [oM 19 9,
oM 20 1,
oP 21 (.bin .neq (.t 19) (.t 20))])
def A_spec_l05Below.r8 : ACode := (.region none [oM 26 7,
oP 27 (.sbin .add (.t 26) (.c (.string ⟨#[40]⟩))),
oP 28 (.load (some 33) (.t 3)),
oM 29 9,
oM 30 2,
oP 31 (.not (.t 30)),
oP 32 (.call 281 [.t 28, .t 29, .t 31]),
oP 33 (.sbin .add (.t 27) (.t 32)),
oP 34 (.sbin .add (.t 33) (.c (.string ⟨#[41]⟩))),
oM 7 34])
def A_spec_l05Below.r7 : ACode := (.region none [oM 22 9,
oP 23 (.indexAddr (some 16) 1 (.t 8) (.t 22)),
oP 24 (.load none (.t 23)),
oP 25 (.conv .i64 (.t 24)),
oM 9 25])
def A_spec_l05Below.l0 : ACode := (.seq (.seq A_spec_l05Below.r6 (.cond (.t 21) .skip (.exit 0))) (.seq (.block 1 A_spec_l05Below.r8) A_spec_l05Below.r7))
def A_spec_l05Below.r9 : ACode := (.region none [oM 35 7,
oM 6 35])
def A_spec_l05Below : AFunc := ⟨[.tmp 6], (.seq A_spec_l05Below.r0 (.seq A_spec_l05Below.r1 (.seq A_spec_l05Below.r2 (.seq (.seq A_spec_l05Below.r3 (.cond (.t 12) A_spec_l05Below.r4 .skip)) (.seq (.seq A_spec_l05Below.r5 (.block 0 (.loop A_spec_l05Below.l0))) (.seq A_spec_l05Below.r9 .ret))))))⟩
/-! impl_wordAt -/
def A_impl_wordAt.r0 : ACode := (.region none [oP 4 (.box (.t 0)),
oP 5 (.box (.t 1)),
oP 8 (.move (.c (.string ⟨#[]⟩)))])
def A_impl_wordAt.r1 : ACode := (.region none [oP 9 (.move (.c (.string ⟨#[]⟩)))])
def A_impl_wordAt.r2 : ACode := (.region none [oM 12 2,
oM 10 12])
def A_impl_wordAt.r3 : ACode := (.region none [oM 13 3,
oP 14 (.not (.t 13))])
def A_impl_wordAt.r4 : ACode := (.region none [oM 15 2,
oP 16 (.indexAddr (some 16) 1 (.t 4) (.t 15)),
oP 17 (.load none (.t 16)),
oP 18 (.conv .i64 (.t 17)),
oM 10 18])
def A_impl_wordAt.r5 : ACode := (.region none [oP 11 (.move (.c (.bool true)))])
def A_impl_wordAt.r6 : ACode := (.region none [oM 19 11,
oM 20 19,
⟨some 21, .move (.t 3), some (20, true)⟩,
oP 22 (.pick (.t 20) (.t 21) (.c (.bool false))),
oM 23 22,
⟨some 24, .move (.t 10), some (23, false)⟩,
⟨some 25, .move (.t 2), some (23, false)⟩,
⟨some 26, .bin .neq (.t 24) (.t 25), some (23, false)⟩,
oP 27 (.pick (.t 23) (.c (.bool true)) (.t 26))])
def A_impl_wordAt.r8 : ACode := (.region none [oM 28 9,
oP 29 (.load (some 16) (.t 5)),
oP 30 (.load (some 16) (.t 4)),
oM 31 10,
oP 32 (.call 283 [.t 29, .t 30, .t 31, (.c (.bool false))]),
oP 33 (.sbin .add (.c (.string ⟨#[40]⟩)) (.t 32)),
oP 34 (.sbin .add (.t 33) (.c (.string ⟨#[41]⟩))),
oP 35 (.sbin .add (.t 28) (.t 34)),
oM 9 35])
def A_impl_wordAt.r9 : ACode := (.region none [oM 36 10,
oP 37 (.indexAddr (some 16) 1 (.t 4) (.t 36)),
oP 38 (.load none (.t 37)),
oP 39 (.conv .i64 (.t 38)),
oM 10 39])
def A_impl_wordAt.r7 : ACode := (.region none [oP 11 (.move (.c (.bool false)))])
def A_impl_wordAt.l0 : ACode := (.seq (.seq A_impl_wordAt.r6 (.cond (.t 27) .skip (.exit 0))) (.seq (.block 1 (.seq A_impl_wordAt.r8 A_impl_wordAt.r9)) A_impl_wordAt.r7))
def A_impl_wordAt.r10 : ACode := (.region none [oM 40 9,
oM 8 40])
def A_impl_wordAt : AFunc := ⟨[.tmp 8], (.seq A_impl_wordAt.r0 (.seq A_impl_wordAt.r1 (.seq A_impl_wordAt.r2 (.seq (.seq A_impl_wordAt.r3 (.cond (.t 14) A_impl_wordAt.r4 .skip)) (.seq (.seq A_impl_wordAt.r5 (.block 0 (.loop A_impl_wordAt.l0))) (.seq A_impl_wordAt.r10 .ret))))))⟩
/-! slices_insertionSortOrdered_string -/
def A_slices_insertionSortOrdered_string.r0 : ACode := (.region none [oM 8 1,
oP 9 (.bin .add (.t 8) (.c (.int .i64 1))),
oM 6 9])
def A_slices_insertionSortOrdered_string.r1 : ACode := (.region none [oM 10 6,
oM 11 2,
oP 12 (.bin .lss (.t 10) (.t 11))])
def A_slices_insertionSortOrdered_string.r3 : ACode := (.region none [oM 15 6,
oM 7 15])
def A_slices_insertionSortOrdered_string.r4 : ACode := (.region (some 15) [oM 16 7,
oM 17 1,
oP 18 (.bin .gtr (.t 16) (.t 17)),
oM 19 18,
⟨some 20, .move (.t 0), some (19, true)⟩,
⟨some 21, .move (.t 7), some (19, true)⟩,
⟨some 22, .indexAddr none 1 (.t 20) (.t 21), some (19, true)⟩,
⟨some 23, .load none (.t 22), some (19, true)⟩,
⟨some 24, .move (.t 0), some (19, true)⟩,
⟨some 25, .move (.t 7), some (19, true)⟩,
⟨some 26, .bin .sub (.t 25) (.c (.int .i64 1)), some (19, true)⟩,
⟨some 27, .indexAddr none 1 (.t 24) (.t 26), some (19, true)⟩,
⟨some 28, .load none (.t 27), some (19, true)⟩,
⟨some 29, .call 384 [.t 23, .t 28], some (19, true)⟩,
oP 30 (.pick (.t 19) (.t 29) (.c (.bool false)))])
def A_slices_insertionSortOrdered_string.r6 : ACode := (.region (some 15) [oM 33 0,
oM 34 7,
oM 35 0,
oM 36 7,
oP 37 (.bin .sub (.t 36) (.c (.int .i64 1))),
oM 38 0,
oM 39 7,
oP 40 (.bin .sub (.t 39) (.c (.int .i64 1))),
oP 41 (.indexAddr none 1 (.t 38) (.t 40)),
oP 42 (.load none (.t 41)),
oM 43 0,
oM 44 7,
oP 45 (.indexAddr none 1 (.t 43) (.t 44)),
oP 46 (.load none (.t 45)),
oP 47 (.indexAddr none 1 (.t 33) (.t 34)),
⟨none, .storeF 1 (.t 47) (.t 42) [], none⟩,
oP 48 (.indexAddr none 1 (.t 35) (.t 37)),
⟨none, .store 1 (.t 48) (.t 46), none⟩])
def A_slices_insertionSortOrdered_string.r5 : ACode := (.region none [oM 31 7,
oP 32 (.bin .sub (.t 31) (.c (.int .i64 1))),
oM 7 32])
def A_slices_insertionSortOrdered_string.l0 : ACode := (.seq (.seq A_slices_insertionSortOrdered_string.r4 (.cond (.t 30) .skip (.exit 2))) (.seq (.block 3 A_slices_insertionSortOrdered_string.r6) A_slices_insertionSortOrdered_string.r5))
def A_slices_insertionSortOrdered_string.r2 : ACode := (.region none [oM 13 6,
oP 14 (.bin .add (.t 13) (.c (.int .i64 1))),
oM 6 14])
def A_slices_insertionSortOrdered_string.l1 : ACode := (.seq (.seq A_slices_insertionSortOrdered_string.r1 (.cond (.t 12) .skip (.exit 0))) (.seq (.block 1 (.seq A_slices_insertionSortOrdered_string.r3 (.block 2 (.loop A_slices_insertionSortOrdered_string.l0)))) A_slices_insertionSortOrdered_string.r2))
def A_slices_insertionSortOrdered_string : AFunc := ⟨[], (.seq A_slices_insertionSortOrdered_string.r0 (.block 0 (.loop A_slices_insertionSortOrdered_string.l1)))⟩
/-! cmp_Less_string -/
def A_cmp_Less_string.r0 : ACode := (.region none [oP 4 (.move (.c (.bool false)))])
def A_cmp_Less_string.r1 : ACode := (.region none [oM 5 0,
oP 6 (.call 395 [.t 5]),
oM 7 6,
⟨some 8, .move (.t 1), some (7, true)⟩,
⟨some 9, .call 395 [.t 8], some (7, true)⟩,
⟨some 10, .not (.t 9), some (7, true)⟩,
oP 11 (.pick (.t 7) (.t 10) (.c (.bool false))),
oM 12 11,
⟨some 13, .move (.t 0), some (12, false)⟩,
⟨some 14, .move (.t 1), some (12, false)⟩,
⟨some 15, .sbin .lss (.t 13) (.t 14), some (12, false)⟩,
oP 16 (.pick (.t 12) (.c (.bool true)) (.t 15)),
oM 4 16])
def A_cmp_Less_string : AFunc := ⟨[.tmp 4], (.seq A_cmp_Less_string.r0 (.seq A_cmp_Less_string.r1 .ret))⟩
/-! math_bits_Len64 -/
def A_math_bits_Len64.r0 : ACode := (.region none [oP 2 (.move (.c (.int .i64 0)))])
def A_math_bits_Len64.r1 : ACode := (.region none [oM 3 0,
oP 4 (.bin .geq (.t 3) (.c (.int .u64 4294967296)))])
def A_math_bits_Len64.r2 : ACode := (.region none [oM 5 0,
oP 6 (.bin .shr (.t 5) (.c (.int .u64 32))),
oM 0 6])
def A_math_bits_Len64.r3 : ACode := (.region none [oP 2 (.move (.c (.int .i64 32)))])
def A_math_bits_Len64.r4 : ACode := (.region none [oM 7 0,
oP 8 (.bin .geq (.t 7) (.c (.int .u64 65536)))])
def A_math_bits_Len64.r5 : ACode := (.region none [oM 9 0,
oP 10 (.bin .shr (.t 9) (.c (.int .u64 16))),
oM 0 10])
def A_math_bits_Len64.r6 : ACode := (.region none [oM 11 2,
oP 12 (.bin .add (.t 11) (.c (.int .i64 16))),
oM 2 12])
def A_math_bits_Len64.r7 : ACode := (.region none [oM 13 0,
oP 14 (.bin .geq (.t 13) (.c (.int .u64 256)))])
def A_math_bits_Len64.r8 : ACode := (.region none [oM 15 0,
oP 16 (.bin .shr (.t 15) (.c (.int .u64 8))),
oM 0 16])
def A_math_bits_Len64.r9 : ACode := (.region none [oM 17 2,
oP 18 (.bin .add (.t 17) (.c (.int .i64 8))),
oM 2 18])
def A_math_bits_Len64.r10 : ACode := (.region none [oM 19 2,
oM 20 0,
oP 21 (.conv .u8 (.t 20)),
oP 22 (.indexStr (.c (.string ⟨#[0, 1, 2, 2, 3, 3, 3, 3, 4, 4, 4, 4, 4, 4, 4, 4, 5, 5, 5, 5, 5, 5, 5, 5, 5, 5, 5, 5, 5, 5, 5, 5, 6, 6, 6, 6, 6, 6, 6, 6, 6, 6, 6, 6, 6, 6, 6, 6, 6, 6, 6, 6, 6, 6, 6, 6, 6, 6, 6, 6, 6, 6, 6, 6, 7, 7, 7, 7, 7, 7, 7, 7, 7, 7, 7, 7, 7, 7, 7, 7, 7, 7, 7, 7, 7, 7, 7, 7, 7, 7, 7, 7, 7, 7, 7, 7, 7, 7, 7, 7, 7, 7, 7, 7, 7, 7, 7, 7, 7, 7, 7, 7, 7, 7, 7, 7, 7, 7, 7, 7, 7, 7, 7, 7, 7, 7, 7, 7, 8, 8, 8, 8, 8, 8, 8, 8, 8, 8, 8, 8, 8, 8, 8, 8, 8, 8, 8, 8, 8, 8, 8, 8, 8, 8, 8, 8, 8, 8, 8, 8, 8, 8, 8, 8, 8, 8, 8, 8, 8, 8, 8, 8, 8, 8, 8, 8, 8, 8, 8, 8, 8, 8, 8, 8, 8, 8, 8, 8, 8, 8, 8, 8, 8, 8, 8, 8, 8, 8, 8, 8, 8, 8, 8, 8, 8, 8, 8, 8, 8, 8, 8, 8, 8, 8, 8, 8, 8, 8, 8, 8, 8, 8, 8, 8, 8, 8, 8, 8, 8, 8, 8, 8, 8, 8, 8, 8, 8, 8, 8, 8, 8, 8, 8, 8, 8, 8, 8, 8, 8, 8, 8, 8, 8, 8, 8, 8]⟩)) (.t 21)),
oP 23 (.conv .i64 (.t 22)),
oP 24 (.bin .add (.t 19) (.t 23)),
oM 2 24])
def A_math_bits_Len64 : AFunc := ⟨[.tmp 2], (.seq A_math_bits_Len64.r0 (.seq (.seq A_math_bits_Len64.r1 (.cond (.t 4) (.seq A_math_bits_Len64.r2 A_math_bits_Len64.r3) .skip)) (.seq (.seq A_math_bits_Len64.r4 (.cond (.t 8) (.seq A_math_bits_Len64.r5 A_math_bits_Len64.r6) .skip)) (.seq (.seq A_math_bits_Len64.r7 (.cond (.t 14) (.seq A_math_bits_Len64.r8 A_math_bits_Len64.r9) .skip)) (.seq A_math_bits_Len64.r10 .ret)))))⟩
/-! slices_Sort_int64_int64 -/
def A_slices_Sort_int64_int64.r0 : ACode := (.region none [oM 3 0,
oP 4 (.len (.t 3)),
oM 2 4])
def A_slices_Sort_int64_int64.r1 : ACode := (.region none [oM 5 0,
oM 6 2,
oM 7 2,
oP 8 (.conv .u64 (.t 7)),
oP 9 (.call 227 [.t 8]),
oP 10 (.call 228 [.t 5, (.c (.int .i64 0)), .t 6, .t 9])])
def A_slices_Sort_int64_int64 : AFunc := ⟨[], (.seq A_slices_Sort_int64_int64.r0 A_slices_Sort_int64_int64.r1)⟩
/-! slices_Reverse_int64_int64 -/
def A_slices_Reverse_int64_int64.r0 : ACode := (.region none [oM 4 0,
oP 5 (.len (.t 4)),
oP 6 (.bin .sub (.t 5) (.c (.int .i64 1))),
oP 2 (.move (.c (.int .i64 0))),
oM 3 6])
def A_slices_Reverse_int64_int64.r1 : ACode := (.region none [oM 7 2,
oM 8 3,
oP 9 (.bin .lss (.t 7) (.t 8))])
def A_slices_Reverse_int64_int64.r3 : ACode := (.region (some 13) [oM 14 0,
oM 15 2,
oM 16 0,
oM 17 3,
oM 18 0,
oM 19 3,
oP 20 (.indexAddr none 1 (.t 18) (.t 19)),
oP 21 (.load none (.t 20)),
oM 22 0,
oM 23 2,
oP 24 (.indexAddr none 1 (.t 22) (.t 23)),
oP 25 (.load none (.t 24)),
oP 26 (.indexAddr none 1 (.t 14) (.t 15)),
⟨none, .storeF 1 (.t 26) (.t 21) [], none⟩,
oP 27 (.indexAddr none 1 (.t 16) (.t 17)),
⟨none, .store 1 (.t 27) (.t 25), none⟩])
def A_slices_Reverse_int64_int64.r2 : ACode := (.region none [oM 10 2,
oP 11 (.bin .add (.t 10) (.c (.int .i64 1))),
oM 12 3,
oP 13 (.bin .sub (.t 12) (.c (.int .i64 1))),
oM 2 11,
oM 3 13])
def A_slices_Reverse_int64_int64.l0 : ACode := (.seq (.seq A_slices_Reverse_int64_int64.r1 (.cond (.t 9) .skip (.exit 0))) (.seq (.block 1 A_slices_Reverse_int64_int64.r3) A_slices_Reverse_int64_int64.r2))
def A_slices_Reverse_int64_int64 : AFunc := ⟨[], (.seq A_slices_Reverse_int64_int64.r0 (.block 0 (.loop A_slices_Reverse_int64_int64.l0)))⟩
/-! slices_nextPowerOfTwo -/
def A_slices_nextPowerOfTwo.r0 : ACode := (.region none [oP 2 (.move (.c (.int .u64 0)))])
def A_slices_nextPowerOfTwo.r1 : ACode := (.region none [oM 3 0,
oP 4 (.conv .u64 (.t 3)),
oP 5 (.call 227 [.t 4]),
oP 6 (.bin .shl (.c (.int .u64 1)) (.t 5)),
oM 2 6])
def A_slices_nextPowerOfTwo : AFunc := ⟨[.tmp 2], (.seq A_slices_nextPowerOfTwo.r0 (.seq A_slices_nextPowerOfTwo.r1 .ret))⟩
/-! slices_xorshift_Next -/
def A_slices_xorshift_Next.r0 : ACode := (.region none [oP 2 (.move (.c (.int .u64 0)))])
def A_slices_xorshift_Next.r1 : ACode := (.region (some 9) [oM 3 0,
oP 4 (.nilCheck (.t 3)),
oP 5 (.load none (.t 4)),
oM 6 0,
oP 7 (.nilCheck (.t 6)),
oP 8 (.load none (.t 7)),
oP 9 (.bin .shl (.t 8) (.c (.int .u64 13))),
oP 10 (.bin .xor (.t 5) (.t 9)),
oP 11 (.nilCheck (.t 3)),
⟨none, .store 1 (.t 11) (.t 10), none⟩])
def A_slices_xorshift_Next.r2 : ACode := (.region (some 9) [oM 12 0,
oP 13 (.nilCheck (.t 12)),
oP 14 (.load none (.t 13)),
oM 15 0,
oP 16 (.nilCheck (.t 15)),
oP 17 (.load none (.t 16)),
oP 18 (.bin .shr (.t 17) (.c (.int .u64 7))),
oP 19 (.bin .xor (.t 14) (.t 18)),
oP 20 (.nilCheck (.t 12)),
⟨none, .store 1 (.t 20) (.t 19), none⟩])
def A_slices_xorshift_Next.r3 : ACode := (.region (some 9) [oM 21 0,
oP 22 (.nilCheck (.t 21)),
oP 23 (.load none (.t 22)),
oM 24 0,
oP 25 (.nilCheck (.t 24)),
oP 26 (.load none (.t 25)),
oP 27 (.bin .shl (.t 26) (.c (.int .u64 17))),
oP 28 (.bin .xor (.t 23) (.t 27)),
oP 29 (.nilCheck (.t 21)),
⟨none, .store 1 (.t 29) (.t 28), none⟩])
def A_slices_xorshift_Next.r4 : ACode := (.region none [oM 30 0,
oP 31 (.nilCheck (.t 30)),
oP 32 (.load none (.t 31)),
oM 2 32])
def A_slices_xorshift_Next : AFunc := ⟨[.tmp 2], (.seq A_slices_xorshift_Next.r0 (.seq A_slices_xorshift_Next.r1 (.seq A_slices_xorshift_Next.r2 (.seq A_slices_xorshift_Next.r3 (.seq A_slices_xorshift_Next.r4 .ret)))))⟩
/-! cmp_isNaN_string -/
def A_cmp_isNaN_string.r0 : ACode := (.region none [oP 2 (.move (.c (.bool false)))])
def A_cmp_isNaN_string.r1 : ACode := (.region none [oM 3 0,
oM 4 0,
oP 5 (.sbin .neq (.t 3) (.t 4)),
oM 2 5])
def A_cmp_isNaN_string : AFunc := ⟨[.tmp 2], (.seq A_cmp_isNaN_string.r0 (.seq A_cmp_isNaN_string.r1 .ret))⟩
/-! slices_pdqsortOrdered_int64 -/
def A_slices_pdqsortOrdered_int64.r0 : ACode := (.region none [oP 8 (.move (.c (.bool true)))])
def A_slices_pdqsortOrdered_int64.r1 : ACode := (.region none [oP 9 (.move (.c (.bool true)))])
def A_slices_pdqsortOrdered_int64.r2 : ACode := (.region none [oM 19 2,
oM 20 1,
oP 21 (.bin .sub (.t 19) (.t 20)),
oM 10 21])
def A_slices_pdqsortOrdered_int64.r3 : ACode := (.region none [oM 22 10,
oP 23 (.bin .leq (.t 22) (.c (.int .i64 12)))])
def A_slices_pdqsortOrdered_int64.r4 : ACode := (.region none [oM 24 0,
oM 25 1,
oM 26 2,
oP 27 (.call 229 [.t 24, .t 25, .t 26])])
def A_slices_pdqsortOrdered_int64.r5 : ACode := (.region none [oM 28 3,
oP 29 (.bin .eql (.t 28) (.c (.int .i64 0)))])
def A_slices_pdqsortOrdered_int64.r6 : ACode := (.region none [oM 30 0,
oM 31 1,
oM 32 2,
oP 33 (.call 230 [.t 30, .t 31, .t 32])])
def A_slices_pdqsortOrdered_int64.r7 : ACode := (.region none [oM 34 8,
oP 35 (.not (.t 34))])
def A_slices_pdqsortOrdered_int64.r8 : ACode := (.region none [oM 36 0,
oM 37 1,
oM 38 2,
oP 39 (.call 231 [.t 36, .t 37, .t 38])])
def A_slices_pdqsortOrdered_int64.r9 : ACode := (.region none [oM 40 3,
oP 41 (.bin .sub (.t 40) (.c (.int .i64 1))),
oM 3 41])
def A_slices_pdqsortOrdered_int64.r10 : ACode := (.region none [oM 43 0,
oM 44 1,
oM 45 2,
oP 46 (.call 232 [.t 43, .t 44, .t 45]),
oM 42 46,
oP 47 (.extract (.t 42) 0),
oP 48 (.extract (.t 42) 1),
oM 11 47,
oM 12 48])
def A_slices_pdqsortOrdered_int64.r11 : ACode := (.region none [oM 49 12,
oP 50 (.bin .eql (.t 49) (.c (.int .i64 2)))])
def A_slices_pdqsortOrdered_int64.r12 : ACode := (.region none [oM 51 0,
oM 52 1,
oM 53 2,
oP 54 (.call 233 [.t 51, .t 52, .t 53])])
def A_slices_pdqsortOrdered_int64.r13 : ACode := (.region none [oM 55 2,
oP 56 (.bin .sub (.t 55) (.c (.int .i64 1))),
oM 57 11,
oM 58 1,
oP 59 (.bin .sub (.t 57) (.t 58)),
oP 60 (.bin .sub (.t 56) (.t 59)),
oM 11 60])
def A_slices_pdqsortOrdered_int64.r14 : ACode := (.region none [oP 12 (.move (.c (.int .i64 1)))])
def A_slices_pdqsortOrdered_int64.r15 : ACode := (.region none [oM 61 8,
oM 62 61,
⟨some 63, .move (.t 9), some (62, true)⟩,
oP 64 (.pick (.t 62) (.t 63) (.c (.bool false))),
oM 65 64,
⟨some 66, .move (.t 12), some (65, true)⟩,
⟨some 67, .bin .eql (.t 66) (.c (.int .i64 1)), some (65, true)⟩,
oP 68 (.pick (.t 65) (.t 67) (.c (.bool false)))])
def A_slices_pdqsortOrdered_int64.r16 : ACode := (.region none [oM 69 0,
oM 70 1,
oM 71 2,
oP 72 (.call 234 [.t 69, .t 70, .t 71])])
def A_slices_pdqsortOrdered_int64.r17 : ACode := (.region (some 15) [oM 73 1,
oP 74 (.bin .gtr (.t 73) (.c (.int .i64 0))),
oM 75 74,
⟨some 76, .move (.t 0), some (75, true)⟩,
⟨some 77, .move (.t 1), some (75, true)⟩,
⟨some 78, .bin .sub (.t 77) (.c (.int .i64 1)), some (75, true)⟩,
⟨some 79, .indexAddr none 1 (.t 76) (.t 78), some (75, true)⟩,
⟨some 80, .load none (.t 79), some (75, true)⟩,
⟨some 81, .move (.t 0), some (75, true)⟩,
⟨some 82, .move (.t 11), some (75, true)⟩,
⟨some 83, .indexAddr none 1 (.t 81) (.t 82), some (75, true)⟩,
⟨some 84, .load none (.t 83), some (75, true)⟩,
⟨some 85, .call 235 [.t 80, .t 84], some (75, true)⟩,
⟨some 86, .not (.t 85), some (75, true)⟩,
oP 87 (.pick (.t 75) (.t 86) (.c (.bool false)))])
def A_slices_pdqsortOrdered_int64.r18 : ACode := (.region none [oM 88 0,
oM 89 1,
oM 90 2,
oM 91 11,
oP 92 (.call 236 [.t 88, .t 89, .t 90, .t 91]),
oM 13 92])
def A_slices_pdqsortOrdered_int64.r19 : ACode := (.region none [oM 93 13,
oM 1 93])
def A_slices_pdqsortOrdered_int64.r20 : ACode := (.region none [oM 95 0,
oM 96 1,
oM 97 2,
oM 98 11,
oP 99 (.call 237 [.t 95, .t 96, .t 97, .t 98]),
oM 94 99,
oP 100 (.extract (.t 94) 0),
oP 101 (.extract (.t 94) 1),
oM 14 100,
oM 15 101])
def A_slices_pdqsortOrdered_int64.r21 : ACode := (.region none [oM 102 15,
oM 9 102])
def A_slices_pdqsortOrdered_int64.r22 : ACode := (.region none [oM 103 14,
oM 104 1,
oP 105 (.bin .sub (.t 103) (.t 104)),
oM 106 2,
oM 107 14,
oP 108 (.bin .sub (.t 106) (.t 107)),
oM 16 105,
oM 17 108])
def A_slices_pdqsortOrdered_int64.r23 : ACode := (.region none [oM 109 10,
oP 110 (.bin .quo (.t 109) (.c (.int .i64 8))),
oM 18 110])
def A_slices_pdqsortOrdered_int64.r24 : ACode := (.region none [oM 111 16,
oM 112 17,
oP 113 (.bin .lss (.t 111) (.t 112))])
def A_slices_pdqsortOrdered_int64.r25 : ACode := (.region none [oM 114 16,
oM 115 18,
oP 116 (.bin .geq (.t 114) (.t 115)),
oM 8 116])
def A_slices_pdqsortOrdered_int64.r26 : ACode := (.region none [oM 117 0,
oM 118 1,
oM 119 14,
oM 120 3,
oP 121 (.call 228 [.t 117, .t 118, .t 119, .t 120])])
def A_slices_pdqsortOrdered_int64.r27 : ACode := (.region none [oM 122 14,
oP 123 (.bin .add (.t 122) (.c (.int .i64 1))),
oM 1 123])
def A_slices_pdqsortOrdered_int64.r28 : ACode := (.region none [oM 124 17,
oM 125 18,
oP 126 (.bin .geq (.t 124) (.t 125)),
oM 8 126])
def A_slices_pdqsortOrdered_int64.r29 : ACode := (.region none [oM 127 0,
oM 128 14,
oP 129 (.bin .add (.t 128) (.c (.int .i64 1))),
oM 130 2,
oM 131 3,
oP 132 (.call 228 [.t 127, .t 129, .t 130, .t 131])])
def A_slices_pdqsortOrdered_int64.r30 : ACode := (.region none [oM 133 14,
oM 2 133])
def A_slices_pdqsortOrdered_int64.l0 : ACode := (.block 1 (.seq A_slices_pdqsortOrdered_int64.r2 (.seq (.seq A_slices_pdqsortOrdered_int64.r3 (.cond (.t 23) (.seq A_slices_pdqsortOrdered_int64.r4 .ret) .skip)) (.seq (.seq A_slices_pdqsortOrdered_int64.r5 (.cond (.t 29) (.seq A_slices_pdqsortOrdered_int64.r6 .ret) .skip)) (.seq (.seq A_slices_pdqsortOrdered_int64.r7 (.cond (.t 35) (.seq A_slices_pdqsortOrdered_int64.r8 A_slices_pdqsortOrdered_int64.r9) .skip)) (.seq A_slices_pdqsortOrdered_int64.r10 (.seq (.seq A_slices_pdqsortOrdered_int64.r11 (.cond (.t 50) (.seq A_slices_pdqsortOrdered_int64.r12 (.seq A_slices_pdqsortOrdered_int64.r13 A_slices_pdqsortOrdered_int64.r14)) .skip)) (.seq (.seq A_slices_pdqsortOrdered_int64.r15 (.cond (.t 68) (.seq A_slices_pdqsortOrdered_int64.r16 (.cond (.t 72) .ret .skip)) .skip)) (.seq (.seq A_slices_pdqsortOrdered_int64.r17 (.cond (.t 87) (.seq A_slices_pdqsortOrdered_int64.r18 (.seq A_slices_pdqsortOrdered_int64.r19 (.exit 1))) .skip)) (.seq A_slices_pdqsortOrdered_int64.r20 (.seq A_slices_pdqsortOrdered_int64.r21 (.seq A_slices_pdqsortOrdered_int64.r22 (.seq A_slices_pdqsortOrdered_int64.r23 (.seq A_slices_pdqsortOrdered_int64.r24 (.cond (.t 113) (.seq A_slices_pdqsortOrdered_int64.r25 (.seq A_slices_pdqsortOrdered_int64.r26 A_slices_pdqsortOrdered_int64.r27)) (.seq A_slices_pdqsortOrdered_int64.r28 (.seq A_slices_pdqsortOrdered_int64.r29 A_slices_pdqsortOrdered_int64.r30)))))))))))))))))
def A_slices_pdqsortOrdered_int64 : AFunc := ⟨[], (.seq A_slices_pdqsortOrdered_int64.r0 (.seq A_slices_pdqsortOrdered_int64.r1 (.block 0 (.loop A_slices_pdqsortOrdered_int64.l0))))⟩
/-! slices_insertionSortOrdered_int64 -/
def A_slices_insertionSortOrdered_int64.r0 : ACode := (.region none [oM 8 1,
oP 9 (.bin .add (.t 8) (.c (.int .i64 1))),
oM 6 9])
def A_slices_insertionSortOrdered_int64.r1 : ACode := (.region none [oM 10 6,
oM 11 2,
oP 12 (.bin .lss (.t 10) (.t 11))])
def A_slices_insertionSortOrdered_int64.r3 : ACode := (.region none [oM 15 6,
oM 7 15])
def A_slices_insertionSortOrdered_int64.r4 : ACode := (.region (some 15) [oM 16 7,
oM 17 1,
oP 18 (.bin .gtr (.t 16) (.t 17)),
oM 19 18,
⟨some 20, .move (.t 0), some (19, true)⟩,
⟨some 21, .move (.t 7), some (19, true)⟩,
⟨some 22, .indexAddr none 1 (.t 20) (.t 21), some (19, true)⟩,
⟨some 23, .load none (.t 22), some (19, true)⟩,
⟨some 24, .move (.t 0), some (19, true)⟩,
⟨some 25, .move (.t 7), some (19, true)⟩,
⟨some 26, .bin .sub (.t 25) (.c (.int .i64 1)), some (19, true)⟩,
⟨some 27, .indexAddr none 1 (.t 24) (.t 26), some (19, true)⟩,
⟨some 28, .load none (.t 27), some (19, true)⟩,
⟨some 29, .call 235 [.t 23, .t 28], some (19, true)⟩,
oP 30 (.pick (.t 19) (.t 29) (.c (.bool false)))])
def A_slices_insertionSortOrdered_int64.r6 : ACode := (.region (some 15) [oM 33 0,
oM 34 7,
oM 35 0,
oM 36 7,
oP 37 (.bin .sub (.t 36) (.c (.int .i64 1))),
oM 38 0,
oM 39 7,
oP 40 (.bin .sub (.t 39) (.c (.int .i64 1))),
oP 41 (.indexAddr none 1 (.t 38) (.t 40)),
oP 42 (.load none (.t 41)),
oM 43 0,
oM 44 7,
oP 45 (.indexAddr none 1 (.t 43) (.t 44)),
oP 46 (.load none (.t 45)),
oP 47 (.indexAddr none 1 (.t 33) (.t 34)),
⟨none, .storeF 1 (.t 47) (.t 42) [], none⟩,
oP 48 (.indexAddr none 1 (.t 35) (.t 37)),
⟨none, .store 1 (.t 48) (.t 46), none⟩])
def A_slices_insertionSortOrdered_int64.r5 : ACode := (.region none [oM 31 7,
oP 32 (.bin .sub (.t 31) (.c (.int .i64 1))),
oM 7 32])
def A_slices_insertionSortOrdered_int64.l0 : ACode := (.seq (.seq A_slices_insertionSortOrdered_int64.r4 (.cond (.t 30) .skip (.exit 2))) (.seq (.block 3 A_slices_insertionSortOrdered_int64.r6) A_slices_insertionSortOrdered_int64.r5))
def A_slices_insertionSortOrdered_int64.r2 : ACode := (.region none [oM 13 6,
oP 14 (.bin .add (.t 13) (.c (.int .i64 1))),
oM 6 14])
def A_slices_insertionSortOrdered_int64.l1 : ACode := (.seq (.seq A_slices_insertionSortOrdered_int64.r1 (.cond (.t 12) .skip (.exit 0))) (.seq (.block 1 (.seq A_slices_insertionSortOrdered_int64.r3 (.block 2 (.loop A_slices_insertionSortOrdered_int64.l0)))) A_slices_insertionSortOrdered_int64.r2))
def A_slices_insertionSortOrdered_int64 : AFunc := ⟨[], (.seq A_slices_insertionSortOrdered_int64.r0 (.block 0 (.loop A_slices_insertionSortOrdered_int64.l1)))⟩
/-! slices_breakPatternsOrdered_int64 -/
def A_slices_breakPatternsOrdered_int64.r0 : ACode := (.region none [oM 11 2,
oM 12 1,
oP 13 (.bin .sub (.t 11) (.t 12)),
oM 6 13])
def A_slices_breakPatternsOrdered_int64.r1 : ACode := (.region none [oM 14 6,
oP 15 (.bin .geq (.t 14) (.c (.int .i64 8)))])
def A_slices_breakPatternsOrdered_int64.r2 : ACode := (.region none [oM 16 6,
oP 17 (.conv .u64 (.t 16)),
oP 7 (.alloc [.int .u64 0]),
⟨none, .store 1 (.t 7) (.t 17), none⟩])
def A_slices_breakPatternsOrdered_int64.r3 : ACode := (.region none [oM 18 6,
oP 19 (.call 240 [.t 18]),
oM 8 19])
def A_slices_breakPatternsOrdered_int64.r4 : ACode := (.region none [oM 20 1,
oM 21 6,
oP 22 (.bin .quo (.t 21) (.c (.int .i64 4))),
oP 23 (.bin .mul (.t 22) (.c (.int .i64 2))),
oP 24 (.bin .add (.t 20) (.t 23)),
oP 25 (.bin .sub (.t 24) (.c (.int .i64 1))),
oM 9 25])
def A_slices_breakPatternsOrdered_int64.r5 : ACode := (.region none [oM 26 9,
oM 27 1,
oM 28 6,
oP 29 (.bin .quo (.t 28) (.c (.int .i64 4))),
oP 30 (.bin .mul (.t 29) (.c (.int .i64 2))),
oP 31 (.bin .add (.t 27) (.t 30)),
oP 32 (.bin .add (.t 31) (.c (.int .i64 1))),
oP 33 (.bin .leq (.t 26) (.t 32))])
def A_slices_breakPatternsOrdered_int64.r7 : ACode := (.region none [oP 36 (.call 241 [.t 7]),
oM 37 8,
oP 38 (.bin .sub (.t 37) (.c (.int .u64 1))),
oP 39 (.bin .and (.t 36) (.t 38)),
oP 40 (.conv .i64 (.t 39)),
oM 10 40])
def A_slices_breakPatternsOrdered_int64.r8 : ACode := (.region none [oM 41 10,
oM 42 6,
oP 43 (.bin .geq (.t 41) (.t 42))])
def A_slices_breakPatternsOrdered_int64.r9 : ACode := (.region none [oM 44 10,
oM 45 6,
oP 46 (.bin .sub (.t 44) (.t 45)),
oM 10 46])
def A_slices_breakPatternsOrdered_int64.r10 : ACode := (.region (some 17) [oM 47 0,
oM 48 9,
oM 49 0,
oM 50 1,
oM 51 10,
oP 52 (.bin .add (.t 50) (.t 51)),
oM 53 0,
oM 54 1,
oM 55 10,
oP 56 (.bin .add (.t 54) (.t 55)),
oP 57 (.indexAddr none 1 (.t 53) (.t 56)),
oP 58 (.load none (.t 57)),
oM 59 0,
oM 60 9,
oP 61 (.indexAddr none 1 (.t 59) (.t 60)),
oP 62 (.load none (.t 61)),
oP 63 (.indexAddr none 1 (.t 47) (.t 48)),
⟨none, .storeF 1 (.t 63) (.t 58) [], none⟩,
oP 64 (.indexAddr none 1 (.t 49) (.t 52)),
⟨none, .store 1 (.t 64) (.t 62), none⟩])
def A_slices_breakPatternsOrdered_int64.r6 : ACode := (.region none [oM 34 9,
oP 35 (.bin .add (.t 34) (.c (.int .i64 1))),
oM 9 35])
def A_slices_breakPatternsOrdered_int64.l0 : ACode := (.seq (.seq A_slices_breakPatternsOrdered_int64.r5 (.cond (.t 33) .skip (.exit 0))) (.seq (.block 1 (.seq A_slices_breakPatternsOrdered_int64.r7 (.seq (.seq A_slices_breakPatternsOrdered_int64.r8 (.cond (.t 43) A_slices_breakPatternsOrdered_int64.r9 .skip)) A_slices_breakPatternsOrdered_int64.r10))) A_slices_breakPatternsOrdered_int64.r6))
def A_slices_breakPatternsOrdered_int64 : AFunc := ⟨[], (.seq A_slices_breakPatternsOrdered_int64.r0 (.seq A_slices_breakPatternsOrdered_int64.r1 (.cond (.t 15) (.seq A_slices_breakPatternsOrdered_int64.r2 (.seq A_slices_breakPatternsOrdered_int64.r3 (.seq A_slices_breakPatternsOrdered_int64.r4 (.block 0 (.loop A_slices_breakPatternsOrdered_int64.l0))))) .skip)))⟩
/-! slices_choosePivotOrdered_int64 -/
def A_slices_choosePivotOrdered_int64.r0 : ACode := (.region none [oP 6 (.move (.c (.int .i64 0))),
oP 7 (.move (.c (.int .i64 0)))])
def A_slices_choosePivotOrdered_int64.r1 : ACode := (.region none [oM 13 2,
oM 14 1,
oP 15 (.bin .sub (.t 13) (.t 14)),
oM 8 15])
def A_slices_choosePivotOrdered_int64.r2 : ACode := (.region none [oP 9 (.alloc [.int .i64 0])])
def A_slices_choosePivotOrdered_int64.r3 : ACode := (.region none [oM 16 1,
oM 17 8,
oP 18 (.bin .quo (.t 17) (.c (.int .i64 4))),
oP 19 (.bin .mul (.t 18) (.c (.int .i64 1))),
oP 20 (.bin .add (.t 16) (.t 19)),
oM 10 20])
def A_slices_choosePivotOrdered_int64.r4 : ACode := (.region none [oM 21 1,
oM 22 8,
oP 23 (.bin .quo (.t 22) (.c (.int .i64 4))),
oP 24 (.bin .mul (.t 23) (.c (.int .i64 2))),
oP 25 (.bin .add (.t 21) (.t 24)),
oM 11 25])
def A_slices_choosePivotOrdered_int64.r5 : ACode := (.region none [oM 26 1,
oM 27 8,
oP 28 (.bin .quo (.t 27) (.c (.int .i64 4))),
oP 29 (.bin .mul (.t 28) (.c (.int .i64 3))),
oP 30 (.bin .add (.t 26) (.t 29)),
oM 12 30])
def A_slices_choosePivotOrdered_int64.r6 : ACode := (.region none [oM 31 8,
oP 32 (.bin .geq (.t 31) (.c (.int .i64 8)))])
def A_slices_choosePivotOrdered_int64.r7 : ACode := (.region none [oM 33 8,
oP 34 (.bin .geq (.t 33) (.c (.int .i64 50)))])
def A_slices_choosePivotOrdered_int64.r8 : ACode := (.region none [oM 35 0,
oM 36 10,
oP 37 (.call 242 [.t 35, .t 36, .t 9]),
oM 10 37])
def A_slices_choosePivotOrdered_int64.r9 : ACode := (.region none [oM 38 0,
oM 39 11,
oP 40 (.call 242 [.t 38, .t 39, .t 9]),
oM 11 40])
def A_slices_choosePivotOrdered_int64.r10 : ACode := (.region none [oM 41 0,
oM 42 12,
oP 43 (.call 242 [.t 41, .t 42, .t 9]),
oM 12 43])
def A_slices_choosePivotOrdered_int64.r11 : ACode := (.region none [oM 44 0,
oM 45 10,
oM 46 11,
oM 47 12,
oP 48 (.call 243 [.t 44, .t 45, .t 46, .t 47, .t 9]),
oM 11 48])
def A_slices_choosePivotOrdered_int64.r12 : ACode := (.region none [oP 49 (.load none (.t 9))])
def A_slices_choosePivotOrdered_int64.r14 : ACode := (.region none [oP 52 (.bin .eql (.t 49) (.c (.int .i64 0))),
oM 51 52])
def A_slices_choosePivotOrdered_int64.r15 : ACode := (.region none [oM 53 11,
oM 6 53,
oP 7 (.move (.c (.int .i64 1)))])
def A_slices_choosePivotOrdered_int64.r16 : ACode := (.region none [oP 55 (.bin .eql (.t 49) (.c (.int .i64 12))),
oM 54 55])
def A_slices_choosePivotOrdered_int64.r17 : ACode := (.region none [oM 56 11,
oM 6 56,
oP 7 (.move (.c (.int .i64 2)))])
def A_slices_choosePivotOrdered_int64.r13 : ACode := (.region none [oM 50 11,
oM 6 50,
oP 7 (.move (.c (.int .i64 0)))])
def A_slices_choosePivotOrdered_int64 : AFunc := ⟨[.tmp 6, .tmp 7], (.seq A_slices_choosePivotOrdered_int64.r0 (.seq A_slices_choosePivotOrdered_int64.r1 (.seq A_slices_choosePivotOrdered_int64.r2 (.seq A_slices_choosePivotOrdered_int64.r3 (.seq A_slices_choosePivotOrdered_int64.r4 (.seq A_slices_choosePivotOrdered_int64.r5 (.seq (.seq A_slices_choosePivotOrdered_int64.r6 (.cond (.t 32) (.seq (.seq A_slices_choosePivotOrdered_int64.r7 (.cond (.t 34) (.seq A_slices_choosePivotOrdered_int64.r8 (.seq A_slices_choosePivotOrdered_int64.r9 A_slices_choosePivotOrdered_int64.r10)) .skip)) A_slices_choosePivotOrdered_int64.r11) .skip)) (.seq A_slices_choosePivotOrdered_int64.r12 (.block 0 (.seq A_slices_choosePivotOrdered_int64.r14 (.cond (.t 51) (.seq A_slices_choosePivotOrdered_int64.r15 .ret) (.seq A_slices_choosePivotOrdered_int64.r16 (.cond (.t 54) (.seq A_slices_choosePivotOrdered_int64.r17 .ret) (.seq A_slices_choosePivotOrdered_int64.r13 .ret))))))))))))))⟩
/-! slices_reverseRangeOrdered_int64 -/
def A_slices_reverseRangeOrdered_int64.r0 : ACode := (.region none [oM 8 1,
oM 6 8])
def A_slices_reverseRangeOrdered_int64.r1 : ACode := (.region none [oM 9 2,
oP 10 (.bin .sub (.t 9) (.c (.int .i64 1))),
oM 7 10])
def A_slices_reverseRangeOrdered_int64.r2 : ACode := (.region none [oM 11 6,
oM 12 7,
oP 13 (.bin .lss (.t 11) (.t 12))])
def A_slices_reverseRangeOrdered_int64.r3 : ACode := (.region (some 13) [oM 14 0,
oM 15 6,
oM 16 0,
oM 17 7,
oM 18 0,
oM 19 7,
oP 20 (.indexAddr none 1 (.t 18) (.t 19)),
oP 21 (.load none (.t 20)),
oM 22 0,
oM 23 6,
oP 24 (.indexAddr none 1 (.t 22) (.t 23)),
oP 25 (.load none (.t 24)),
oP 26 (.indexAddr none 1 (.t 14) (.t 15)),
⟨none, .storeF 1 (.t 26) (.t 21) [], none⟩,
oP 27 (.indexAddr none 1 (.t 16) (.t 17)),
⟨none, .store 1 (.t 27) (.t 25), none⟩])
def A_slices_reverseRangeOrdered_int64.r4 : ACode := (.region none [oM 28 6,
oP 29 (.bin .add (.t 28) (.c (.int .i64 1))),
oM 6 29])
def A_slices_reverseRangeOrdered_int64.r5 : ACode := (.region none [oM 30 7,
oP 31 (.bin .sub (.t 30) (.c (.int .i64 1))),
oM 7 31])
def A_slices_reverseRangeOrdered_int64.l0 : ACode := (.seq (.seq A_slices_reverseRangeOrdered_int64.r2 (.cond (.t 13) .skip (.exit 0))) (.block 1 (.seq A_slices_reverseRangeOrdered_int64.r3 (.seq A_slices_reverseRangeOrdered_int64.r4 A_slices_reverseRangeOrdered_int64.r5))))
def A_slices_reverseRangeOrdered_int64 : AFunc := ⟨[], (.seq A_slices_reverseRangeOrdered_int64.r0 (.seq A_slices_reverseRangeOrdered_int64.r1 (.block 0 (.loop A_slices_reverseRangeOrdered_int64.l0))))⟩
/-! slices_partialInsertionSortOrdered_int64 -/
def A_slices_partialInsertionSortOrdered_int64.r0 : ACode := (.region none [oP 6 (.move (.c (.bool false)))])
def A_slices_partialInsertionSortOrdered_int64.r1 : ACode := (.region none [oM 11 1,
oP 12 (.bin .add (.t 11) (.c (.int .i64 1))),
oM 7 12])
def A_slices_partialInsertionSortOrdered_int64.r2 : ACode := (.region none [oP 8 (.move (.c (.int .i64 0)))])
def A_slices_partialInsertionSortOrdered_int64.r3 : ACode := (.region none [oM 13 8,
oP 14 (.bin .lss (.t 13) (.c (.int .i64 5)))])
def A_slices_partialInsertionSortOrdered_int64.r5 : ACode := (.region (some 16) [oM 17 7,
oM 18 2,
oP 19 (.bin .lss (.t 17) (.t 18)),
oM 20 19,
⟨some 21, .move (.t 0), some (20, true)⟩,
⟨some 22, .move (.t 7), some (20, true)⟩,
⟨some 23, .indexAddr none 1 (.t 21) (.t 22), some (20, true)⟩,
⟨some 24, .load none (.t 23), some (20, true)⟩,
⟨some 25, .move (.t 0), some (20, true)⟩,
⟨some 26, .move (.t 7), some (20, true)⟩,
⟨some 27, .bin .sub (.t 26) (.c (.int .i64 1)), some (20, true)⟩,
⟨some 28, .indexAddr none 1 (.t 25) (.t 27), some (20, true)⟩,
⟨some 29, .load none (.t 28), some (20, true)⟩,
⟨some 30, .call 235 [.t 24, .t 29], some (20, true)⟩,
⟨some 31, .not (.t 30), some (20, true)⟩,
oP 32 (.pick (.t 20) (.t 31) (.c (.bool false)))])
def A_slices_partialInsertionSortOrdered_int64.r6 : ACode := (.region none [oM 33 7,
oP 34 (.bin .add (.t 33) (.c (.int .i64 1))),
oM 7 34])
def A_slices_partialInsertionSortOrdered_int64.l0 : ACode := (.seq (.seq A_slices_partialInsertionSortOrdered_int64.r5 (.cond (.t 32) .skip (.exit 2))) (.block 3 A_slices_partialInsertionSortOrdered_int64.r6))
def A_slices_partialInsertionSortOrdered_int64.r7 : ACode := (.region none [oM 35 7,
oM 36 2,
oP 37 (.bin .eql (.t 35) (.t 36))])
def A_slices_partialInsertionSortOrdered_int64.r8 : ACode := (.region none [oP 6 (.move (.c (.bool true)))])
def A_slices_partialInsertionSortOrdered_int64.r9 : ACode := (.region none [oM 38 2,
oM 39 1,
oP 40 (.bin .sub (.t 38) (.t 39)),
oP 41 (.bin .lss (.t 40) (.c (.int .i64 50)))])
def A_slices_partialInsertionSortOrdered_int64.r10 : ACode := (.region none [oP 6 (.move (.c (.bool false)))])
def A_slices_partialInsertionSortOrdered_int64.r11 : ACode := (.region (some 15) [oM 42 0,
oM 43 7,
oM 44 0,
oM 45 7,
oP 46 (.bin .sub (.t 45) (.c (.int .i64 1))),
oM 47 0,
oM 48 7,
oP 49 (.bin .sub (.t 48) (.c (.int .i64 1))),
oP 50 (.indexAddr none 1 (.t 47) (.t 49)),
oP 51 (.load none (.t 50)),
oM 52 0,
oM 53 7,
oP 54 (.indexAddr none 1 (.t 52) (.t 53)),
oP 55 (.load none (.t 54)),
oP 56 (.indexAddr none 1 (.t 42) (.t 43)),
⟨none, .storeF 1 (.t 56) (.t 51) [], none⟩,
oP 57 (.indexAddr none 1 (.t 44) (.t 46)),
⟨none, .store 1 (.t 57) (.t 55), none⟩])
def A_slices_partialInsertionSortOrdered_int64.r12 : ACode := (.region none [oM 58 7,
oM 59 1,
oP 60 (.bin .sub (.t 58) (.t 59)),
oP 61 (.bin .geq (.t 60) (.c (.int .i64 2)))])
def A_slices_partialInsertionSortOrdered_int64.r13 : ACode := (.region none [oM 62 7,
oP 63 (.bin .sub (.t 62) (.c (.int .i64 1))),
oM 9 63])
def A_slices_partialInsertionSortOrdered_int64.r14 : ACode := (.region none [oM 64 9,
oP 65 (.bin .geq (.t 64) (.c (.int .i64 1)))])
def A_slices_partialInsertionSortOrdered_int64.r16 : ACode := (.region (some 11) [oM 68 0,
oM 69 9,
oP 70 (.indexAddr none 1 (.t 68) (.t 69)),
oP 71 (.load none (.t 70)),
oM 72 0,
oM 73 9,
oP 74 (.bin .sub (.t 73) (.c (.int .i64 1))),
oP 75 (.indexAddr none 1 (.t 72) (.t 74)),
oP 76 (.load none (.t 75)),
oP 77 (.call 235 [.t 71, .t 76]),
oP 78 (.not (.t 77))])
def A_slices_partialInsertionSortOrdered_int64.r17 : ACode := (.region (some 15) [oM 79 0,
oM 80 9,
oM 81 0,
oM 82 9,
oP 83 (.bin .sub (.t 82) (.c (.int .i64 1))),
oM 84 0,
oM 85 9,
oP 86 (.bin .sub (.t 85) (.c (.int .i64 1))),
oP 87 (.indexAddr none 1 (.t 84) (.t 86)),
oP 88 (.load none (.t 87)),
oM 89 0,
oM 90 9,
oP 91 (.indexAddr none 1 (.t 89) (.t 90)),
oP 92 (.load none (.t 91)),
oP 93 (.indexAddr none 1 (.t 79) (.t 80)),
⟨none, .storeF 1 (.t 93) (.t 88) [], none⟩,
oP 94 (.indexAddr none 1 (.t 81) (.t 83)),
⟨none, .store 1 (.t 94) (.t 92), none⟩])
def A_slices_partialInsertionSortOrdered_int64.r15 : ACode := (.region none [oM 66 9,
oP 67 (.bin .sub (.t 66) (.c (.int .i64 1))),
oM 9 67])
def A_slices_partialInsertionSortOrdered_int64.l1 : ACode := (.seq (.seq A_slices_partialInsertionSortOrdered_int64.r14 (.cond (.t 65) .skip (.exit 4))) (.seq (.block 5 (.seq (.seq A_slices_partialInsertionSortOrdered_int64.r16 (.cond (.t 78) (.exit 4) .skip)) A_slices_partialInsertionSortOrdered_int64.r17)) A_slices_partialInsertionSortOrdered_int64.r15))
def A_slices_partialInsertionSortOrdered_int64.r18 : ACode := (.region none [oM 95 2,
oM 96 7,
oP 97 (.bin .sub (.t 95) (.t 96)),
oP 98 (.bin .geq (.t 97) (.c (.int .i64 2)))])
def A_slices_partialInsertionSortOrdered_int64.r19 : ACode := (.region none [oM 99 7,
oP 100 (.bin .add (.t 99) (.c (.int .i64 1))),
oM 10 100])
def A_slices_partialInsertionSortOrdered_int64.r20 : ACode := (.region none [oM 101 10,
oM 102 2,
oP 103 (.bin .lss (.t 101) (.t 102))])
def A_slices_partialInsertionSortOrdered_int64.r22 : ACode := (.region (some 11) [oM 106 0,
oM 107 10,
oP 108 (.indexAddr none 1 (.t 106) (.t 107)),
oP 109 (.load none (.t 108)),
oM 110 0,
oM 111 10,
oP 112 (.bin .sub (.t 111) (.c (.int .i64 1))),
oP 113 (.indexAddr none 1 (.t 110) (.t 112)),
oP 114 (.load none (.t 113)),
oP 115 (.call 235 [.t 109, .t 114]),
oP 116 (.not (.t 115))])
def A_slices_partialInsertionSortOrdered_int64.r23 : ACode := (.region (some 15) [oM 117 0,
oM 118 10,
oM 119 0,
oM 120 10,
oP 121 (.bin .sub (.t 120) (.c (.int .i64 1))),
oM 122 0,
oM 123 10,
oP 124 (.bin .sub (.t 123) (.c (.int .i64 1))),
oP 125 (.indexAddr none 1 (.t 122) (.t 124)),
oP 126 (.load none (.t 125)),
oM 127 0,
oM 128 10,
oP 129 (.indexAddr none 1 (.t 127) (.t 128)),
oP 130 (.load none (.t 129)),
oP 131 (.indexAddr none 1 (.t 117) (.t 118)),
⟨none, .storeF 1 (.t 131) (.t 126) [], none⟩,
oP 132 (.indexAddr none 1 (.t 119) (.t 121)),
⟨none, .store 1 (.t 132) (.t 130), none⟩])
def A_slices_partialInsertionSortOrdered_int64.r21 : ACode := (.region none [oM 104 10,
oP 105 (.bin .add (.t 104) (.c (.int .i64 1))),
oM 10 105])
def A_slices_partialInsertionSortOrdered_int64.l2 : ACode := (.seq (.seq A_slices_partialInsertionSortOrdered_int64.r20 (.cond (.t 103) .skip (.exit 6))) (.seq (.block 7 (.seq (.seq A_slices_partialInsertionSortOrdered_int64.r22 (.cond (.t 116) (.exit 6) .skip)) A_slices_partialInsertionSortOrdered_int64.r23)) A_slices_partialInsertionSortOrdered_int64.r21))
def A_slices_partialInsertionSortOrdered_int64.r4 : ACode := (.region none [oM 15 8,
oP 16 (.bin .add (.t 15) (.c (.int .i64 1))),
oM 8 16])
def A_slices_partialInsertionSortOrdered_int64.l3 : ACode := (.seq (.seq A_slices_partialInsertionSortOrdered_int64.r3 (.cond (.t 14) .skip (.exit 0))) (.seq (.block 1 (.seq (.block 2 (.loop A_slices_partialInsertionSortOrdered_int64.l0)) (.seq (.seq A_slices_partialInsertionSortOrdered_int64.r7 (.cond (.t 37) (.seq A_slices_partialInsertionSortOrdered_int64.r8 .ret) .skip)) (.seq (.seq A_slices_partialInsertionSortOrdered_int64.r9 (.cond (.t 41) (.seq A_slices_partialInsertionSortOrdered_int64.r10 .ret) .skip)) (.seq A_slices_partialInsertionSortOrdered_int64.r11 (.seq (.seq A_slices_partialInsertionSortOrdered_int64.r12 (.cond (.t 61) (.seq A_slices_partialInsertionSortOrdered_int64.r13 (.block 4 (.loop A_slices_partialInsertionSortOrdered_int64.l1))) .skip)) (.seq A_slices_partialInsertionSortOrdered_int64.r18 (.cond (.t 98) (.seq A_slices_partialInsertionSortOrdered_int64.r19 (.block 6 (.loop A_slices_partialInsertionSortOrdered_int64.l2))) .skip)))))))) A_slices_partialInsertionSortOrdered_int64.r4))
def A_slices_partialInsertionSortOrdered_int64.r24 : ACode := (.region none [oP 6 (.move (.c (.bool false)))])
def A_slices_partialInsertionSortOrdered_int64 : AFunc := ⟨[.tmp 6], (.seq A_slices_partialInsertionSortOrdered_int64.r0 (.seq A_slices_partialInsertionSortOrdered_int64.r1 (.seq (.seq A_slices_partialInsertionSortOrdered_int64.r2 (.block 0 (.loop A_slices_partialInsertionSortOrdered_int64.l3))) (.seq A_slices_partialInsertionSortOrdered_int64.r24 .ret))))⟩
/-! cmp_Less_int64 -/
def A_cmp_Less_int64.r0 : ACode := (.region none [oP 4 (.move (.c (.bool false)))])
def A_cmp_Less_int64.r1 : ACode := (.region none [oM 5 0,
oP 6 (.call 247 [.t 5]),
oM 7 6,
⟨some 8, .move (.t 1), some (7, true)⟩,
⟨some 9, .call 247 [.t 8], some (7, true)⟩,
⟨some 10, .not (.t 9), some (7, true)⟩,
oP 11 (.pick (.t 7) (.t 10) (.c (.bool false))),
oM 12 11,
⟨some 13, .move (.t 0), some (12, false)⟩,
⟨some 14, .move (.t 1), some (12, false)⟩,
⟨some 15, .bin .lss (.t 13) (.t 14), some (12, false)⟩,
oP 16 (.pick (.t 12) (.c (.bool true)) (.t 15)),
oM 4 16])
def A_cmp_Less_int64 : AFunc := ⟨[.tmp 4], (.seq A_cmp_Less_int64.r0 (.seq A_cmp_Less_int64.r1 .ret))⟩
/-! slices_partitionEqualOrdered_int64 -/
def A_slices_partitionEqualOrdered_int64.r0 : ACode := (.region none [oP 8 (.move (.c (.int .i64 0)))])
def A_slices_partitionEqualOrdered_int64.r1 : ACode := (.region (some 13) [oM 11 0,
oM 12 1,
oM 13 0,
oM 14 3,
oM 15 0,
oM 16 3,
oP 17 (.indexAddr none 1 (.t 15) (.t 16)),
oP 18 (.load none (.t 17)),
oM 19 0,
oM 20 1,
oP 21 (.indexAddr none 1 (.t 19) (.t 20)),
oP 22 (.load none (.t 21)),
oP 23 (.indexAddr none 1 (.t 11) (.t 12)),
⟨none, .storeF 1 (.t 23) (.t 18) [], none⟩,
oP 24 (.indexAddr none 1 (.t 13) (.t 14)),
⟨none, .store 1 (.t 24) (.t 22), none⟩])
def A_slices_partitionEqualOrdered_int64.r2 : ACode := (.region none [oM 25 1,
oP 26 (.bin .add (.t 25) (.c (.int .i64 1))),
oM 27 2,
oP 28 (.bin .sub (.t 27) (.c (.int .i64 1))),
oM 9 26,
oM 10 28])
def A_slices_partitionEqualOrdered_int64.r3 : ACode := (.region (some 15) [oM 29 9,
oM 30 10,
oP 31 (.bin .leq (.t 29) (.t 30)),
oM 32 31,
⟨some 33, .move (.t 0), some (32, true)⟩,
⟨some 34, .move (.t 1), some (32, true)⟩,
⟨some 35, .indexAddr none 1 (.t 33) (.t 34), some (32, true)⟩,
⟨some 36, .load none (.t 35), some (32, true)⟩,
⟨some 37, .move (.t 0), some (32, true)⟩,
⟨some 38, .move (.t 9), some (32, true)⟩,
⟨some 39, .indexAddr none 1 (.t 37) (.t 38), some (32, true)⟩,
⟨some 40, .load none (.t 39), some (32, true)⟩,
⟨some 41, .call 235 [.t 36, .t 40], some (32, true)⟩,
⟨some 42, .not (.t 41), some (32, true)⟩,
oP 43 (.pick (.t 32) (.t 42) (.c (.bool false)))])
def A_slices_partitionEqualOrdered_int64.r4 : ACode := (.region none [oM 44 9,
oP 45 (.bin .add (.t 44) (.c (.int .i64 1))),
oM 9 45])
def A_slices_partitionEqualOrdered_int64.l0 : ACode := (.seq (.seq A_slices_partitionEqualOrdered_int64.r3 (.cond (.t 43) .skip (.exit 2))) (.block 3 A_slices_partitionEqualOrdered_int64.r4))
def A_slices_partitionEqualOrdered_int64.r5 : ACode := (.region (some 14) [oM 46 9,
oM 47 10,
oP 48 (.bin .leq (.t 46) (.t 47)),
oM 49 48,
⟨some 50, .move (.t 0), some (49, true)⟩,
⟨some 51, .move (.t 1), some (49, true)⟩,
⟨some 52, .indexAddr none 1 (.t 50) (.t 51), some (49, true)⟩,
⟨some 53, .load none (.t 52), some (49, true)⟩,
⟨some 54, .move (.t 0), some (49, true)⟩,
⟨some 55, .move (.t 10), some (49, true)⟩,
⟨some 56, .indexAddr none 1 (.t 54) (.t 55), some (49, true)⟩,
⟨some 57, .load none (.t 56), some (49, true)⟩,
⟨some 58, .call 235 [.t 53, .t 57], some (49, true)⟩,
oP 59 (.pick (.t 49) (.t 58) (.c (.bool false)))])
def A_slices_partitionEqualOrdered_int64.r6 : ACode := (.region none [oM 60 10,
oP 61 (.bin .sub (.t 60) (.c (.int .i64 1))),
oM 10 61])
def A_slices_partitionEqualOrdered_int64.l1 : ACode := (.seq (.seq A_slices_partitionEqualOrdered_int64.r5 (.cond (.t 59) .skip (.exit 4))) (.block 5 A_slices_partitionEqualOrdered_int64.r6))
def A_slices_partitionEqualOrdered_int64.r7 : ACode := (.region none [oM 62 9,
oM 63 10,
oP 64 (.bin .gtr (.t 62) (.t 63))])
def A_slices_partitionEqualOrdered_int64.r8 : ACode := (.region (some 13) [oM 65 0,
oM 66 9,
oM 67 0,
oM 68 10,
oM 69 0,
oM 70 10,
oP 71 (.indexAddr none 1 (.t 69) (.t 70)),
oP 72 (.load none (.t 71)),
oM 73 0,
oM 74 9,
oP 75 (.indexAddr none 1 (.t 73) (.t 74)),
oP 76 (.load none (.t 75)),
oP 77 (.indexAddr none 1 (.t 65) (.t 66)),
⟨none, .storeF 1 (.t 77) (.t 72) [], none⟩,
oP 78 (.indexAddr none 1 (.t 67) (.t 68)),
⟨none, .store 1 (.t 78) (.t 76), none⟩])
def A_slices_partitionEqualOrdered_int64.r9 : ACode := (.region none [oM 79 9,
oP 80 (.bin .add (.t 79) (.c (.int .i64 1))),
oM 9 80])
def A_slices_partitionEqualOrdered_int64.r10 : ACode := (.region none [oM 81 10,
oP 82 (.bin .sub (.t 81) (.c (.int .i64 1))),
oM 10 82])
def A_slices_partitionEqualOrdered_int64.l2 : ACode := (.block 1 (.seq (.block 2 (.loop A_slices_partitionEqualOrdered_int64.l0)) (.seq (.block 4 (.loop A_slices_partitionEqualOrdered_int64.l1)) (.seq (.seq A_slices_partitionEqualOrdered_int64.r7 (.cond (.t 64) (.exit 0) .skip)) (.seq A_slices_partitionEqualOrdered_int64.r8 (.seq A_slices_partitionEqualOrdered_int64.r9 A_slices_partitionEqualOrdered_int64.r10))))))
def A_slices_partitionEqualOrdered_int64.r11 : ACode := (.region none [oM 83 9,
oM 8 83])
def A_slices_partitionEqualOrdered_int64 : AFunc := ⟨[.tmp 8], (.seq A_slices_partitionEqualOrdered_int64.r0 (.seq A_slices_partitionEqualOrdered_int64.r1 (.seq A_slices_partitionEqualOrdered_int64.r2 (.seq (.block 0 (.loop A_slices_partitionEqualOrdered_int64.l2)) (.seq A_slices_partitionEqualOrdered_int64.r11 .ret)))))⟩
/-! slices_partitionOrdered_int64 -/
def A_slices_partitionOrdered_int64.r0 : ACode := (.region none [oP 8 (.move (.c (.int .i64 0))),
oP 9 (.move (.c (.bool false)))])
def A_slices_partitionOrdered_int64.r1 : ACode := (.region (some 13) [oM 12 0,
oM 13 1,
oM 14 0,
oM 15 3,
oM 16 0,
oM 17 3,
oP 18 (.indexAddr none 1 (.t 16) (.t 17)),
oP 19 (.load none (.t 18)),
oM 20 0,
oM 21 1,
oP 22 (.indexAddr none 1 (.t 20) (.t 21)),
oP 23 (.load none (.t 22)),
oP 24 (.indexAddr none 1 (.t 12) (.t 13)),
⟨none, .storeF 1 (.t 24) (.t 19) [], none⟩,
oP 25 (.indexAddr none 1 (.t 14) (.t 15)),
⟨none, .store 1 (.t 25) (.t 23), none⟩])
def A_slices_partitionOrdered_int64.r2 : ACode := (.region none [oM 26 1,
oP 27 (.bin .add (.t 26) (.c (.int .i64 1))),
oM 28 2,
oP 29 (.bin .sub (.t 28) (.c (.int .i64 1))),
oM 10 27,
oM 11 29])
def A_slices_partitionOrdered_int64.r3 : ACode := (.region (some 14) [oM 30 10,
oM 31 11,
oP 32 (.bin .leq (.t 30) (.t 31)),
oM 33 32,
⟨some 34, .move (.t 0), some (33, true)⟩,
⟨some 35, .move (.t 10), some (33, true)⟩,
⟨some 36, .indexAddr none 1 (.t 34) (.t 35), some (33, true)⟩,
⟨some 37, .load none (.t 36), some (33, true)⟩,
⟨some 38, .move (.t 0), some (33, true)⟩,
⟨some 39, .move (.t 1), some (33, true)⟩,
⟨some 40, .indexAddr none 1 (.t 38) (.t 39), some (33, true)⟩,
⟨some 41, .load none (.t 40), some (33, true)⟩,
⟨some 42, .call 235 [.t 37, .t 41], some (33, true)⟩,
oP 43 (.pick (.t 33) (.t 42) (.c (.bool false)))])
def A_slices_partitionOrdered_int64.r4 : ACode := (.region none [oM 44 10,
oP 45 (.bin .add (.t 44) (.c (.int .i64 1))),
oM 10 45])
def A_slices_partitionOrdered_int64.l0 : ACode := (.seq (.seq A_slices_partitionOrdered_int64.r3 (.cond (.t 43) .skip (.exit 0))) (.block 1 A_slices_partitionOrdered_int64.r4))
def A_slices_partitionOrdered_int64.r5 : ACode := (.region (some 15) [oM 46 10,
oM 47 11,
oP 48 (.bin .leq (.t 46) (.t 47)),
oM 49 48,
⟨some 50, .move (.t 0), some (49, true)⟩,
⟨some 51, .move (.t 11), some (49, true)⟩,
⟨some 52, .indexAddr none 1 (.t 50) (.t 51), some (49, true)⟩,
⟨some 53, .load none (.t 52), some (49, true)⟩,
⟨some 54, .move (.t 0), some (49, true)⟩,
⟨some 55, .move (.t 1), some (49, true)⟩,
⟨some 56, .indexAddr none 1 (.t 54) (.t 55), some (49, true)⟩,
⟨some 57, .load none (.t 56), some (49, true)⟩,
⟨some 58, .call 235 [.t 53, .t 57], some (49, true)⟩,
⟨some 59, .not (.t 58), some (49, true)⟩,
oP 60 (.pick (.t 49) (.t 59) (.c (.bool false)))])
def A_slices_partitionOrdered_int64.r6 : ACode := (.region none [oM 61 11,
oP 62 (.bin .sub (.t 61) (.c (.int .i64 1))),
oM 11 62])
def A_slices_partitionOrdered_int64.l1 : ACode := (.seq (.seq A_slices_partitionOrdered_int64.r5 (.cond (.t 60) .skip (.exit 2))) (.block 3 A_slices_partitionOrdered_int64.r6))
def A_slices_partitionOrdered_int64.r7 : ACode := (.region none [oM 63 10,
oM 64 11,
oP 65 (.bin .gtr (.t 63) (.t 64))])
def A_slices_partitionOrdered_int64.r8 : ACode := (.region (some 13) [oM 66 0,
oM 67 11,
oM 68 0,
oM 69 1,
oM 70 0,
oM 71 1,
oP 72 (.indexAddr none 1 (.t 70) (.t 71)),
oP 73 (.load none (.t 72)),
oM 74 0,
oM 75 11,
oP 76 (.indexAddr none 1 (.t 74) (.t 75)),
oP 77 (.load none (.t 76)),
oP 78 (.indexAddr none 1 (.t 66) (.t 67)),
⟨none, .storeF 1 (.t 78) (.t 73) [], none⟩,
oP 79 (.indexAddr none 1 (.t 68) (.t 69)),
⟨none, .store 1 (.t 79) (.t 77), none⟩])
def A_slices_partitionOrdered_int64.r9 : ACode := (.region none [oM 80 11,
oM 8 80,
oP 9 (.move (.c (.bool true)))])
def A_slices_partitionOrdered_int64.r10 : ACode := (.region (some 13) [oM 81 0,
oM 82 10,
oM 83 0,
oM 84 11,
oM 85 0,
oM 86 11,
oP 87 (.indexAddr none 1 (.t 85) (.t 86)),
oP 88 (.load none (.t 87)),
oM 89 0,
oM 90 10,
oP 91 (.indexAddr none 1 (.t 89) (.t 90)),
oP 92 (.load none (.t 91)),
oP 93 (.indexAddr none 1 (.t 81) (.t 82)),
⟨none, .storeF 1 (.t 93) (.t 88) [], none⟩,
oP 94 (.indexAddr none 1 (.t 83) (.t 84)),
⟨none, .store 1 (.t 94) (.t 92), none⟩])
def A_slices_partitionOrdered_int64.r11 : ACode := (.region none [oM 95 10,
oP 96 (.bin .add (.t 95) (.c (.int .i64 1))),
oM 10 96])
def A_slices_partitionOrdered_int64.r12 : ACode := (.region none [oM 97 11,
oP 98 (.bin .sub (.t 97) (.c (.int .i64 1))),
oM 11 98])
def A_slices_partitionOrdered_int64.r13 : ACode := (.region (some 14) [oM 99 10,
oM 100 11,
oP 101 (.bin .leq (.t 99) (.t 100)),
oM 102 101,
⟨some 103, .move (.t 0), some (102, true)⟩,
⟨some 104, .move (.t 10), some (102, true)⟩,
⟨some 105, .indexAddr none 1 (.t 103) (.t 104), some (102, true)⟩,
⟨some 106, .load none (.t 105), some (102, true)⟩,
⟨some 107, .move (.t 0), some (102, true)⟩,
⟨some 108, .move (.t 1), some (102, true)⟩,
⟨some 109, .indexAddr none 1 (.t 107) (.t 108), some (102, true)⟩,
⟨some 110, .load none (.t 109), some (102, true)⟩,
⟨some 111, .call 235 [.t 106, .t 110], some (102, true)⟩,
oP 112 (.pick (.t 102) (.t 111) (.c (.bool false)))])
def A_slices_partitionOrdered_int64.r14 : ACode := (.region none [oM 113 10,
oP 114 (.bin .add (.t 113) (.c (.int .i64 1))),
oM 10 114])
def A_slices_partitionOrdered_int64.l2 : ACode := (.seq (.seq A_slices_partitionOrdered_int64.r13 (.cond (.t 112) .skip (.exit 6))) (.block 7 A_slices_partitionOrdered_int64.r14))
def A_slices_partitionOrdered_int64.r15 : ACode := (.region (some 15) [oM 115 10,
oM 116 11,
oP 117 (.bin .leq (.t 115) (.t 116)),
oM 118 117,
⟨some 119, .move (.t 0), some (118, true)⟩,
⟨some 120, .move (.t 11), some (118, true)⟩,
⟨some 121, .indexAddr none 1 (.t 119) (.t 120), some (118, true)⟩,
⟨some 122, .load none (.t 121), some (118, true)⟩,
⟨some 123, .move (.t 0), some (118, true)⟩,
⟨some 124, .move (.t 1), some (118, true)⟩,
⟨some 125, .indexAddr none 1 (.t 123) (.t 124), some (118, true)⟩,
⟨some 126, .load none (.t 125), some (118, true)⟩,
⟨some 127, .call 235 [.t 122, .t 126], some (118, true)⟩,
⟨some 128, .not (.t 127), some (118, true)⟩,
oP 129 (.pick (.t 118) (.t 128) (.c (.bool false)))])
def A_slices_partitionOrdered_int64.r16 : ACode := (.region none [oM 130 11,
oP 131 (.bin .sub (.t 130) (.c (.int .i64 1))),
oM 11 131])
def A_slices_partitionOrdered_int64.l3 : ACode := (.seq (.seq A_slices_partitionOrdered_int64.r15 (.cond (.t 129) .skip (.exit 8))) (.block 9 A_slices_partitionOrdered_int64.r16))
def A_slices_partitionOrdered_int64.r17 : ACode := (.region none [oM 132 10,
oM 133 11,
oP 134 (.bin .gtr (.t 132) (.t 133))])
def A_slices_partitionOrdered_int64.r18 : ACode := (.region (some 13) [oM 135 0,
oM 136 10,
oM 137 0,
oM 138 11,
oM 139 0,
oM 140 11,
oP 141 (.indexAddr none 1 (.t 139) (.t 140)),
oP 142 (.load none (.t 141)),
oM 143 0,
oM 144 10,
oP 145 (.indexAddr none 1 (.t 143) (.t 144)),
oP 146 (.load none (.t 145)),
oP 147 (.indexAddr none 1 (.t 135) (.t 136)),
⟨none, .storeF 1 (.t 147) (.t 142) [], none⟩,
oP 148 (.indexAddr none 1 (.t 137) (.t 138)),
⟨none, .store 1 (.t 148) (.t 146), none⟩])
def A_slices_partitionOrdered_int64.r19 : ACode := (.region none [oM 149 10,
oP 150 (.bin .add (.t 149) (.c (.int .i64 1))),
oM 10 150])
def A_slices_partitionOrdered_int64.r20 : ACode := (.region none [oM 151 11,
oP 152 (.bin .sub (.t 151) (.c (.int .i64 1))),
oM 11 152])
def A_slices_partitionOrdered_int64.l4 : ACode := (.block 5 (.seq (.block 6 (.loop A_slices_partitionOrdered_int64.l2)) (.seq (.block 8 (.loop A_slices_partitionOrdered_int64.l3)) (.seq (.seq A_slices_partitionOrdered_int64.r17 (.cond (.t 134) (.exit 4) .skip)) (.seq A_slices_partitionOrdered_int64.r18 (.seq A_slices_partitionOrdered_int64.r19 A_slices_partitionOrdered_int64.r20))))))
def A_slices_partitionOrdered_int64.r21 : ACode := (.region (some 13) [oM 153 0,
oM 154 11,
oM 155 0,
oM 156 1,
oM 157 0,
oM 158 1,
oP 159 (.indexAddr none 1 (.t 157) (.t 158)),
oP 160 (.load none (.t 159)),
oM 161 0,
oM 162 11,
oP 163 (.indexAddr none 1 (.t 161) (.t 162)),
oP 164 (.load none (.t 163)),
oP 165 (.indexAddr none 1 (.t 153) (.t 154)),
⟨none, .storeF 1 (.t 165) (.t 160) [], none⟩,
oP 166 (.indexAddr none 1 (.t 155) (.t 156)),
⟨none, .store 1 (.t 166) (.t 164), none⟩])
def A_slices_partitionOrdered_int64.r22 : ACode := (.region none [oM 167 11,
oM 8 167,
oP 9 (.move (.c (.bool false)))])
def A_slices_partitionOrdered_int64 : AFunc := ⟨[.tmp 8, .tmp 9], (.seq A_slices_partitionOrdered_int64.r0 (.seq A_slices_partitionOrdered_int64.r1 (.seq A_slices_partitionOrdered_int64.r2 (.seq (.block 0 (.loop A_slices_partitionOrdered_int64.l0)) (.seq (.block 2 (.loop A_slices_partitionOrdered_int64.l1)) (.seq (.seq A_slices_partitionOrdered_int64.r7 (.cond (.t 65) (.seq A_slices_partitionOrdered_int64.r8 (.seq A_slices_partitionOrdered_int64.r9 .ret)) .skip)) (.seq A_slices_partitionOrdered_int64.r10 (.seq A_slices_partitionOrdered_int64.r11 (.seq A_slices_partitionOrdered_int64.r12 (.seq (.block 4 (.loop A_slices_partitionOrdered_int64.l4)) (.seq A_slices_partitionOrdered_int64.r21 (.seq A_slices_partitionOrdered_int64.r22 .ret))))))))))))⟩
/-! slices_medianOrdered_int64 -/
def A_slices_medianOrdered_int64.r0 : ACode := (.region none [oP 10 (.move (.c (.int .i64 0)))])
def A_slices_medianOrdered_int64.r1 : ACode := (.region none [oM 12 0,
oM 13 1,
oM 14 2,
oM 15 4,
oP 16 (.call 246 [.t 12, .t 13, .t 14, .t 15]),
oM 11 16,
oP 17 (.extract (.t 11) 0),
oP 18 (.extract (.t 11) 1),
oM 1 17,
oM 2 18])
def A_slices_medianOrdered_int64.r2 : ACode := (.region none [oM 20 0,
oM 21 2,
oM 22 3,
oM 23 4,
oP 24 (.call 246 [.t 20, .t 21, .t 22, .t 23]),
oM 19 24,
oP 25 (.extract (.t 19) 0),
oP 26 (.extract (.t 19) 1),
oM 2 25,
oM 3 26])
def A_slices_medianOrdered_int64.r3 : ACode := (.region none [oM 28 0,
oM 29 1,
oM 30 2,
oM 31 4,
oP 32 (.call 246 [.t 28, .t 29, .t 30, .t 31]),
oM 27 32,
oP 33 (.extract (.t 27) 0),
oP 34 (.extract (.t 27) 1),
oM 1 33,
oM 2 34])
def A_slices_medianOrdered_int64.r4 : ACode := (.region none [oM 35 2,
oM 10 35])
def A_slices_medianOrdered_int64 : AFunc := ⟨[.tmp 10], (.seq A_slices_medianOrdered_int64.r0 (.seq A_slices_medianOrdered_int64.r1 (.seq A_slices_medianOrdered_int64.r2 (.seq A_slices_medianOrdered_int64.r3 (.seq A_slices_medianOrdered_int64.r4 .ret)))))⟩
/-! cmp_isNaN_int64 -/
def A_cmp_isNaN_int64.r0 : ACode := (.region none [oP 2 (.move (.c (.bool false)))])
def A_cmp_isNaN_int64.r1 : ACode := (.region none [oM 3 0,
oM 4 0,
oP 5 (.bin .neq (.t 3) (.t 4)),
oM 2 5])
def A_cmp_isNaN_int64 : AFunc := ⟨[.tmp 2], (.seq A_cmp_isNaN_int64.r0 (.seq A_cmp_isNaN_int64.r1 .ret))⟩
/-! slices_order2Ordered_int64 -/
def A_slices_order2Ordered_int64.r0 : ACode := (.region none [oP 8 (.move (.c (.int .i64 0))),
oP 9 (.move (.c (.int .i64 0)))])
def A_slices_order2Ordered_int64.r1 : ACode := (.region (some 9) [oM 10 0,
oM 11 2,
oP 12 (.indexAddr none 1 (.t 10) (.t 11)),
oP 13 (.load none (.t 12)),
oM 14 0,
oM 15 1,
oP 16 (.indexAddr none 1 (.t 14) (.t 15)),
oP 17 (.load none (.t 16)),
oP 18 (.call 235 [.t 13, .t 17])])
def A_slices_order2Ordered_int64.r2 : ACode := (.region none [oM 19 3,
oP 20 (.nilCheck (.t 19)),
oP 21 (.load none (.t 20)),
oP 22 (.bin .add (.t 21) (.c (.int .i64 1))),
oP 23 (.nilCheck (.t 19)),
⟨none, .store 1 (.t 23) (.t 22), none⟩])
def A_slices_order2Ordered_int64.r3 : ACode := (.region none [oM 24 2,
oM 25 1,
oM 8 24,
oM 9 25])
def A_slices_order2Ordered_int64.r4 : ACode := (.region none [oM 26 1,
oM 27 2,
oM 8 26,
oM 9 27])
def A_slices_order2Ordered_int64 : AFunc := ⟨[.tmp 8, .tmp 9], (.seq A_slices_order2Ordered_int64.r0 (.seq (.seq A_slices_order2Ordered_int64.r1 (.cond (.t 18) (.seq A_slices_order2Ordered_int64.r2 (.seq A_slices_order2Ordered_int64.r3 .ret)) .skip)) (.seq A_slices_order2Ordered_int64.r4 .ret)))⟩
end Go.Am
