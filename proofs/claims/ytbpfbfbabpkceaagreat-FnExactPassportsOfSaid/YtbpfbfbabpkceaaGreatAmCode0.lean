/- The code of the functions that the claim reaches, in the small machine's form: written by a program of mine, off the loaded program; the checks compare the two. -/
import Derived.Test.YtbpfbfbabpkceaaGreatAmCore
set_option linter.unusedVariables false
set_option maxRecDepth 100000
namespace Go.Am
open Go
def bT.r0:ACode:=(.region none [oP 4 (.move (.c (.bool false)))])
def bT.r1:ACode:=(.region none [oM 14 0,
oM 15 1,
oP 16 (.call 450 [.t 14, .t 15]),
oM 13 16,
oP 17 (.extract (.t 13) 0),
oP 18 (.extract (.t 13) 1),
oM 5 17,
oM 6 18])
def bT.r2:ACode:=(.region none [oM 20 0,
oM 21 1,
oP 22 (.call 451 [.t 20, .t 21]),
oM 19 22,
oP 23 (.extract (.t 19) 0),
oP 24 (.extract (.t 19) 1),
oM 7 23,
oM 8 24])
def bT.r3:ACode:=(.region none [oM 25 7,
oM 26 5,
oP 27 (.call 452 [.t 25, .t 26]),
oP 28 (.not (.t 27)),
oM 29 28,
⟨some 30, .move (.t 8),some (29,false)⟩,
⟨some 31, .move (.t 6),some (29,false)⟩,
⟨some 32, .bin .neq (.t 30) (.t 31),some (29,false)⟩,
oP 33 (.pick (.t 29) (.c (.bool true)) (.t 32))])
def bT.r4:ACode:=(.region none [oP 4 (.move (.c (.bool false)))])
def bT.r5:ACode:=(.region none [oP 9 (.move (.c (.int .i64 1)))])
def bT.r6:ACode:=(.region none [oM 34 7,
oM 35 9,
oP 36 (.call 453 [.t 34, .t 35]),
oM 9 36])
def bT.r7:ACode:=(.region none [oP 10 (.move (.c (.int .i64 1)))])
def bT.r8:ACode:=(.region none [oM 37 7,
oM 38 10,
oP 39 (.call 454 [.t 37, .t 38]),
oM 10 39])
def bT.r9:ACode:=(.region none [oM 40 10,
oP 41 (.bin .lss (.t 40) (.c (.int .i64 0)))])
def bT.r10:ACode:=(.region none [oP 4 (.move (.c (.bool false)))])
def bT.r11:ACode:=(.region none [oM 42 10,
oM 43 9,
oP 44 (.bin .neq (.t 42) (.t 43))])
def bT.r12:ACode:=(.region none [oP 4 (.move (.c (.bool false)))])
def bT.r13:ACode:=(.region none [oM 46 0,
oM 47 1,
oP 48 (.call 451 [.t 46, .t 47]),
oM 45 48,
oP 49 (.extract (.t 45) 0),
oP 50 (.extract (.t 45) 1),
oM 11 49,
oM 12 50])
def bT.iq:ACode:=(.region none [oM 51 11,
oM 52 5,
oP 53 (.call 452 [.t 51, .t 52]),
oP 54 (.not (.t 53)),
oM 55 54,
⟨some 56, .move (.t 12),some (55,false)⟩,
⟨some 57, .move (.t 6),some (55,false)⟩,
⟨some 58, .bin .neq (.t 56) (.t 57),some (55,false)⟩,
oP 59 (.pick (.t 55) (.c (.bool true)) (.t 58))])
def bT.kC:ACode:=(.region none [oP 4 (.move (.c (.bool false)))])
def bT.r16:ACode:=(.region none [oP 10 (.move (.c (.int .i64 1)))])
def bT.mF:ACode:=(.region none [oM 60 7,
oM 61 10,
oP 62 (.call 454 [.t 60, .t 61]),
oM 10 62])
def bT.pW:ACode:=(.region none [oM 63 10,
oP 64 (.bin .lss (.t 63) (.c (.int .i64 0)))])
def bT.pX:ACode:=(.region none [oP 4 (.move (.c (.bool false)))])
def bT.pY:ACode:=(.region none [oM 65 10,
oM 66 9,
oP 67 (.bin .neq (.t 65) (.t 66))])
def bT.qc:ACode:=(.region none [oP 4 (.move (.c (.bool false)))])
def bT.r22:ACode:=(.region none [oP 4 (.move (.c (.bool true)))])
def bT:AFunc:=⟨[.tmp 4],(.seq bT.r0 (.seq bT.r1 (.seq bT.r2 (.seq (.seq bT.r3 (.cond (.t 33) (.seq bT.r4 .ret) .skip)) (.seq bT.r5 (.seq bT.r6 (.seq bT.r7 (.seq bT.r8 (.seq (.seq bT.r9 (.cond (.t 41) (.seq bT.r10 .ret) .skip)) (.seq (.seq bT.r11 (.cond (.t 44) (.seq bT.r12 .ret) .skip)) (.seq bT.r13 (.seq (.seq bT.iq (.cond (.t 59) (.seq bT.kC .ret) .skip)) (.seq bT.r16 (.seq bT.mF (.seq (.seq bT.pW (.cond (.t 64) (.seq bT.pX .ret) .skip)) (.seq (.seq bT.pY (.cond (.t 67) (.seq bT.qc .ret) .skip)) (.seq bT.r22 .ret)))))))))))))))))⟩
def bY.r0:ACode:=(.region none [oP 4 (.move (.c (.slice none 0 0))),
oP 5 (.move (.c (.int .i64 0)))])
def bY.r1:ACode:=(.region none [oM 12 0,
oP 13 (.call 58 [.t 12,(.c (.int .i64 1)),(.c (.int .i64 5))]),
oP 14 (.not (.t 13)),
oM 15 14,
⟨some 16, .move (.t 1),some (15,false)⟩,
⟨some 17, .bin .lss (.t 16) (.c (.int .i64 0)),some (15,false)⟩,
oP 18 (.pick (.t 15) (.c (.bool true)) (.t 17))])
def bY.r2:ACode:=(.region none [oP 4 (.move (.c (.slice none 0 0))),
oP 5 (.move (.c (.int .i64 2)))])
def bY.r3:ACode:=(.region none [oM 19 0,
oP 20 (.call 413 [.t 19]),
oP 21 (.buildSlice 1 0 [.slice none 0 0] []),
oM 6 20,
oM 7 21])
def bY.r4:ACode:=(.region none [oP 8 (.move (.c (.int .i64 0)))])
def bY.r5:ACode:=(.region none [oM 22 8,
oM 23 6,
oP 24 (.len (.t 23)),
oP 25 (.bin .lss (.t 22) (.t 24))])
def bY.r7:ACode:=(.region none [oM 28 6,
oM 29 8,
oP 30 (.indexAddr none 33 (.t 28) (.t 29)),
oP 31 (.load (some 33) (.t 30)),
oP 32 (.call 464 [.t 31]),
oM 33 1,
oP 34 (.bin .neq (.t 32) (.t 33))])
def bY.r8:ACode:=(.region (some 24) [oM 35 6,
oM 36 8,
oP 37 (.indexAddr none 33 (.t 35) (.t 36)),
oP 38 (.fieldAddr 1 (.t 37)),
oP 39 (.load (some 16) (.t 38)),
oM 40 0,
oP 41 (.call 284 [.t 39, .t 40]),
oM 42 6,
oM 43 8,
oP 44 (.indexAddr none 33 (.t 42) (.t 43)),
oP 45 (.fieldAddr 17 (.t 44)),
oP 46 (.load (some 16) (.t 45)),
oM 47 0,
oP 48 (.call 284 [.t 46, .t 47]),
oM 49 6,
oM 50 8,
oP 51 (.indexAddr none 33 (.t 49) (.t 50)),
oP 52 (.load (some 33) (.t 51)),
oP 53 (.call 192 [.t 52]),
oM 54 0,
oP 55 (.call 284 [.t 53, .t 54]),
oP 56 (.buildSlice 1 3 [.slice none 0 0] [(0,1, .t 41),(1,1, .t 48),(2,1, .t 55)]),
oM 9 56,
oP 10 (.move (.c (.int .i64 0)))])
def bY.r9:ACode:=(.region none [oM 57 10,
oM 58 7,
oP 59 (.len (.t 58)),
oP 60 (.bin .lss (.t 57) (.t 59)),
oM 61 60,
⟨some 62, .move (.t 7),some (61,true)⟩,
⟨some 63, .move (.t 10),some (61,true)⟩,
⟨some 64, .indexAddr none 1 (.t 62) (.t 63),some (61,true)⟩,
⟨some 65, .load none (.t 64),some (61,true)⟩,
⟨some 66, .move (.t 9),some (61,true)⟩,
⟨some 67, .call 465 [.t 65, .t 66],some (61,true)⟩,
⟨some 68, .bin .lss (.t 67) (.c (.int .i64 0)),some (61,true)⟩,
oP 69 (.pick (.t 61) (.t 68) (.c (.bool false)))])
def bY.r10:ACode:=(.region none [oM 70 10,
oP 71 (.bin .add (.t 70) (.c (.int .i64 1))),
oM 10 71])
def bY.l0:ACode:=(.seq (.seq bY.r9 (.cond (.t 69) .skip (.exit 2))) (.block 3 bY.r10))
def bY.r11:ACode:=(.region none [oM 72 10,
oM 73 7,
oP 74 (.len (.t 73)),
oP 75 (.bin .eql (.t 72) (.t 74)),
oM 76 75,
⟨some 77, .move (.t 7),some (76,false)⟩,
⟨some 78, .move (.t 10),some (76,false)⟩,
⟨some 79, .indexAddr none 1 (.t 77) (.t 78),some (76,false)⟩,
⟨some 80, .load none (.t 79),some (76,false)⟩,
⟨some 81, .move (.t 9),some (76,false)⟩,
⟨some 82, .call 465 [.t 80, .t 81],some (76,false)⟩,
⟨some 83, .bin .neq (.t 82) (.c (.int .i64 0)),some (76,false)⟩,
oP 84 (.pick (.t 76) (.c (.bool true)) (.t 83))])
def bY.r12:ACode:=(.region none [oM 85 9,
oP 86 (.buildSlice 1 1 [.slice none 0 0] [(0,1, .t 85)]),
oM 87 7,
oM 88 10,
oP 89 (.slice 1 (.t 87) (some (.t 88)) none),
oP 90 (.append 1 24 (.t 86) (.t 89)),
oM 11 90])
def bY.r13:ACode:=(.region none [oP 91 (.buildSlice 1 0 [.slice none 0 0] []),
oM 92 7,
oM 93 10,
oP 94 (.slice 1 (.t 92) none (some (.t 93))),
oP 95 (.append 1 24 (.t 91) (.t 94)),
oM 96 11,
oP 97 (.append 1 24 (.t 95) (.t 96)),
oM 7 97])
def bY.r6:ACode:=(.region none [oM 26 8,
oP 27 (.bin .add (.t 26) (.c (.int .i64 1))),
oM 8 27])
def bY.l1:ACode:=(.seq (.seq bY.r5 (.cond (.t 25) .skip (.exit 0))) (.seq (.block 1 (.seq (.seq bY.r7 (.cond (.t 34) (.exit 1) .skip)) (.seq bY.r8 (.seq (.block 2 (.loop bY.l0)) (.seq bY.r11 (.cond (.t 84) (.seq bY.r12 bY.r13) .skip)))))) bY.r6))
def bY.iq:ACode:=(.region none [oM 98 7,
oM 4 98,
oP 5 (.move (.c (.int .i64 0)))])
def bY:AFunc:=⟨[.tmp 4, .tmp 5],(.seq bY.r0 (.seq (.seq bY.r1 (.cond (.t 18) (.seq bY.r2 .ret) .skip)) (.seq bY.r3 (.seq (.seq bY.r4 (.block 0 (.loop bY.l1))) (.seq bY.iq .ret)))))⟩
def fK.r0:ACode:=(.region none [oP 4 (.move (.c (.slice none 0 0))),
oP 5 (.move (.c (.int .i64 0)))])
def fK.r1:ACode:=(.region none [oM 9 0,
oP 10 (.bin .lss (.t 9) (.c (.int .i64 1))),
oM 11 10,
⟨some 12, .move (.t 0),some (11,false)⟩,
⟨some 13, .bin .gtr (.t 12) (.c (.int .i64 5)),some (11,false)⟩,
oP 14 (.pick (.t 11) (.c (.bool true)) (.t 13)),
oM 15 14,
⟨some 16, .move (.t 1),some (15,false)⟩,
⟨some 17, .bin .lss (.t 16) (.c (.int .i64 0)),some (15,false)⟩,
oP 18 (.pick (.t 15) (.c (.bool true)) (.t 17))])
def fK.r2:ACode:=(.region none [oP 4 (.move (.c (.slice none 0 0))),
oP 5 (.move (.c (.int .i64 2)))])
def fK.r3:ACode:=(.region none [oP 19 (.buildSlice 1 0 [.slice none 0 0] []),
oM 6 19])
def fK.r4:ACode:=(.region none [oM 20 0,
oP 21 (.call 414 [.t 20]),
oP 22 (.len (.t 21)),
oP 23 (.move (.c (.int .i64 0)))])
def fK.r5:ACode:=(.region none [oP 24 (.bin .lss (.t 23) (.t 22))])
def fK.r6:ACode:=(.region none [oP 25 (.indexAddr none 33 (.t 21) (.t 23)),
oP 26 (.load (some 33) (.t 25)),
oP 8 (.alloc ([.int .i64 0]++List.replicate 32 (.int .u8 0))),
⟨none, .store 33 (.t 8) (.t 26),none⟩])
def fK.r7:ACode:=(.region none [oP 27 (.load (some 33) (.t 8)),
oP 28 (.call 412 [.t 27]),
oM 29 1,
oP 30 (.bin .eql (.t 28) (.t 29))])
def fK.r8:ACode:=(.region none [oM 31 6,
oP 32 (.load (some 33) (.t 8)),
oP 33 (.call 280 [.t 32]),
oP 34 (.buildSlice 1 1 [.slice none 0 0] [(0,1, .t 33)]),
oP 35 (.append 1 24 (.t 31) (.t 34)),
oM 6 35])
def fK.r9:ACode:=(.region none [oP 36 (.bin .add (.t 23) (.c (.int .i64 1))),
oM 23 36])
def fK.l0:ACode:=(.seq fK.r5 (.seq (.cond (.t 24) .skip (.exit 0)) (.seq (.block 1 (.seq fK.r6 (.seq fK.r7 (.cond (.t 30) fK.r8 .skip)))) fK.r9)))
def fK.r10:ACode:=(.region none [oM 37 6,
oP 38 (.call 466 [.t 37,(.f 467)])])
def fK.r11:ACode:=(.region none [oM 39 6,
oP 40 (.call 468 [.t 39,(.f 469)]),
oM 4 40,
oP 5 (.move (.c (.int .i64 0)))])
def fK:AFunc:=⟨[.tmp 4, .tmp 5],(.seq fK.r0 (.seq (.seq fK.r1 (.cond (.t 18) (.seq fK.r2 .ret) .skip)) (.seq fK.r3 (.seq (.seq fK.r4 (.block 0 (.loop fK.l0))) (.seq fK.r10 (.seq fK.r11 .ret))))))⟩
def gZ.r0:ACode:=(.region none [oP 4 (.move (.c (.bool false)))])
def gZ.r1:ACode:=(.region none [oM 6 0,
oP 7 (.len (.t 6)),
oM 8 1,
oP 9 (.len (.t 8)),
oP 10 (.bin .neq (.t 7) (.t 9))])
def gZ.r2:ACode:=(.region none [oP 4 (.move (.c (.bool false)))])
def gZ.r3:ACode:=(.region none [oP 5 (.move (.c (.int .i64 0)))])
def gZ.r4:ACode:=(.region none [oM 11 5,
oM 12 0,
oP 13 (.len (.t 12)),
oP 14 (.bin .lss (.t 11) (.t 13))])
def gZ.r6:ACode:=(.region (some 10) [oM 17 0,
oM 18 5,
oP 19 (.indexAddr none 1 (.t 17) (.t 18)),
oP 20 (.load none (.t 19)),
oM 21 1,
oM 22 5,
oP 23 (.indexAddr none 1 (.t 21) (.t 22)),
oP 24 (.load none (.t 23)),
oP 25 (.call 24 [.t 20, .t 24]),
oP 26 (.not (.t 25))])
def gZ.r7:ACode:=(.region none [oP 4 (.move (.c (.bool false)))])
def gZ.r5:ACode:=(.region none [oM 15 5,
oP 16 (.bin .add (.t 15) (.c (.int .i64 1))),
oM 5 16])
def gZ.l0:ACode:=(.seq (.seq gZ.r4 (.cond (.t 14) .skip (.exit 0))) (.seq (.block 1 (.seq gZ.r6 (.cond (.t 26) (.seq gZ.r7 .ret) .skip))) gZ.r5))
def gZ.r8:ACode:=(.region none [oP 4 (.move (.c (.bool true)))])
def gZ:AFunc:=⟨[.tmp 4],(.seq gZ.r0 (.seq (.seq gZ.r1 (.cond (.t 10) (.seq gZ.r2 .ret) .skip)) (.seq (.seq gZ.r3 (.block 0 (.loop gZ.l0))) (.seq gZ.r8 .ret))))⟩
def jD.r0:ACode:=(.region none [oP 4 (.move (.c (.int .i64 0)))])
def jD.r1:ACode:=(.region none [oP 5 (.move (.c (.int .i64 0)))])
def jD.r2:ACode:=(.region none [oM 6 5,
oM 7 0,
oP 8 (.len (.t 7)),
oP 9 (.bin .lss (.t 6) (.t 8))])
def jD.r4:ACode:=(.region none [oM 12 0,
oM 13 5,
oP 14 (.indexAddr none 1 (.t 12) (.t 13)),
oP 15 (.load none (.t 14)),
oM 16 1,
oP 17 (.call 39 [.t 15, .t 16]),
oM 1 17])
def jD.r3:ACode:=(.region none [oM 10 5,
oP 11 (.bin .add (.t 10) (.c (.int .i64 1))),
oM 5 11])
def jD.l0:ACode:=(.seq (.seq jD.r2 (.cond (.t 9) .skip (.exit 0))) (.seq (.block 1 jD.r4) jD.r3))
def jD.r5:ACode:=(.region none [oM 18 1,
oM 4 18])
def jD:AFunc:=⟨[.tmp 4],(.seq jD.r0 (.seq (.seq jD.r1 (.block 0 (.loop jD.l0))) (.seq jD.r5 .ret)))⟩
def iJ.r0:ACode:=(.region none [oP 4 (.move (.c (.int .i64 0)))])
def iJ.r1:ACode:=(.region none [oP 5 (.move (.c (.int .i64 0)))])
def iJ.r2:ACode:=(.region none [oM 6 5,
oM 7 0,
oP 8 (.len (.t 7)),
oP 9 (.bin .lss (.t 6) (.t 8))])
def iJ.r4:ACode:=(.region none [oM 12 0,
oM 13 5,
oP 14 (.indexAddr none 1 (.t 12) (.t 13)),
oP 15 (.load none (.t 14)),
oM 16 1,
oP 17 (.call 40 [.t 15, .t 16]),
oM 1 17])
def iJ.r5:ACode:=(.region none [oM 18 1,
oP 19 (.bin .lss (.t 18) (.c (.int .i64 0)))])
def iJ.r6:ACode:=(.region none [oP 4 (.move (.c (.int .i64 (-1))))])
def iJ.r3:ACode:=(.region none [oM 10 5,
oP 11 (.bin .add (.t 10) (.c (.int .i64 1))),
oM 5 11])
def iJ.l0:ACode:=(.seq (.seq iJ.r2 (.cond (.t 9) .skip (.exit 0))) (.seq (.block 1 (.seq iJ.r4 (.seq iJ.r5 (.cond (.t 19) (.seq iJ.r6 .ret) .skip)))) iJ.r3))
def iJ.r7:ACode:=(.region none [oM 20 1,
oM 4 20])
def iJ:AFunc:=⟨[.tmp 4],(.seq iJ.r0 (.seq (.seq iJ.r1 (.block 0 (.loop iJ.l0))) (.seq iJ.r7 .ret)))⟩
def iK.r0:ACode:=(.region none [oP 4 (.move (.c (.bool false)))])
def iK.r1:ACode:=(.region none [oM 6 0,
oP 7 (.len (.t 6)),
oM 8 1,
oP 9 (.len (.t 8)),
oP 10 (.bin .neq (.t 7) (.t 9))])
def iK.r2:ACode:=(.region none [oP 4 (.move (.c (.bool false)))])
def iK.r3:ACode:=(.region none [oP 5 (.move (.c (.int .i64 0)))])
def iK.r4:ACode:=(.region none [oM 11 5,
oM 12 0,
oP 13 (.len (.t 12)),
oP 14 (.bin .lss (.t 11) (.t 13))])
def iK.r6:ACode:=(.region (some 10) [oM 17 0,
oM 18 5,
oP 19 (.indexAddr none 1 (.t 17) (.t 18)),
oP 20 (.load none (.t 19)),
oM 21 1,
oM 22 5,
oP 23 (.indexAddr none 1 (.t 21) (.t 22)),
oP 24 (.load none (.t 23)),
oP 25 (.call 3 [.t 20, .t 24]),
oP 26 (.not (.t 25))])
def iK.r7:ACode:=(.region none [oP 4 (.move (.c (.bool false)))])
def iK.r5:ACode:=(.region none [oM 15 5,
oP 16 (.bin .add (.t 15) (.c (.int .i64 1))),
oM 5 16])
def iK.l0:ACode:=(.seq (.seq iK.r4 (.cond (.t 14) .skip (.exit 0))) (.seq (.block 1 (.seq iK.r6 (.cond (.t 26) (.seq iK.r7 .ret) .skip))) iK.r5))
def iK.r8:ACode:=(.region none [oP 4 (.move (.c (.bool true)))])
def iK:AFunc:=⟨[.tmp 4],(.seq iK.r0 (.seq (.seq iK.r1 (.cond (.t 10) (.seq iK.r2 .ret) .skip)) (.seq (.seq iK.r3 (.block 0 (.loop iK.l0))) (.seq iK.r8 .ret))))⟩
def jZ.r0:ACode:=(.region none [oP 4 (.move (.c (.int .i64 0)))])
def jZ.r1:ACode:=(.region none [oP 5 (.move (.c (.int .i64 0)))])
def jZ.r2:ACode:=(.region none [oM 6 5,
oM 7 0,
oP 8 (.len (.t 7)),
oP 9 (.bin .lss (.t 6) (.t 8))])
def jZ.r4:ACode:=(.region none [oM 12 0,
oM 13 5,
oP 14 (.indexAddr none 1 (.t 12) (.t 13)),
oP 15 (.load none (.t 14)),
oM 16 1,
oP 17 (.call 6 [.t 15, .t 16]),
oM 1 17])
def jZ.r3:ACode:=(.region none [oM 10 5,
oP 11 (.bin .add (.t 10) (.c (.int .i64 1))),
oM 5 11])
def jZ.l0:ACode:=(.seq (.seq jZ.r2 (.cond (.t 9) .skip (.exit 0))) (.seq (.block 1 jZ.r4) jZ.r3))
def jZ.r5:ACode:=(.region none [oM 18 1,
oM 4 18])
def jZ:AFunc:=⟨[.tmp 4],(.seq jZ.r0 (.seq (.seq jZ.r1 (.block 0 (.loop jZ.l0))) (.seq jZ.r5 .ret)))⟩
def qI.r0:ACode:=(.region none [oP 6 (.move (.c (.bool false)))])
def qI.r1:ACode:=(.region none [oM 7 0,
oM 8 1,
oP 9 (.bin .geq (.t 7) (.t 8)),
oM 10 9,
⟨some 11, .move (.t 0),some (10,true)⟩,
⟨some 12, .move (.t 2),some (10,true)⟩,
⟨some 13, .bin .leq (.t 11) (.t 12),some (10,true)⟩,
oP 14 (.pick (.t 10) (.t 13) (.c (.bool false))),
oM 6 14])
def qI:AFunc:=⟨[.tmp 6],(.seq qI.r0 (.seq qI.r1 .ret))⟩
def jE.r0:ACode:=(.region none [oP 2 (.move (.c (.slice none 0 0)))])
def jE.r1:ACode:=(.region none [oM 6 0,
oM 7 0,
oP 8 (.buildSlice 1 0 [.int .i64 0] []),
oP 9 (.call 352 [.t 6, .t 7, .t 8,(.c (.slice none 0 0))]),
oP 10 (.buildSlice 33 0 ([.int .i64 0]++List.replicate 32 (.int .u8 0)) []),
oM 3 9,
oM 4 10])
def jE.r2:ACode:=(.region none [oP 5 (.move (.c (.int .i64 0)))])
def jE.r3:ACode:=(.region none [oM 11 5,
oM 12 3,
oP 13 (.len (.t 12)),
oP 14 (.bin .lss (.t 11) (.t 13))])
def jE.r5:ACode:=(.region none [oM 17 4,
oM 18 3,
oM 19 5,
oP 20 (.indexAddr none 1 (.t 18) (.t 19)),
oP 21 (.load none (.t 20)),
oP 22 (.call 363 [.t 21]),
oM 23 0,
oP 24 (.call 364 [.t 23]),
oM 25 0,
oP 26 (.call 416 [.t 17, .t 22, .t 24,(.c (.int .i64 0)), .t 25]),
oM 4 26])
def jE.r4:ACode:=(.region none [oM 15 5,
oP 16 (.bin .add (.t 15) (.c (.int .i64 1))),
oM 5 16])
def jE.l0:ACode:=(.seq (.seq jE.r3 (.cond (.t 14) .skip (.exit 0))) (.seq (.block 1 jE.r5) jE.r4))
def jE.r6:ACode:=(.region none [oM 27 4,
oM 2 27])
def jE:AFunc:=⟨[.tmp 2],(.seq jE.r0 (.seq jE.r1 (.seq (.seq jE.r2 (.block 0 (.loop jE.l0))) (.seq jE.r6 .ret))))⟩
def qJ.r0:ACode:=(.region none [oP 1 (.box (.t 0)),
oP 2 (.move (.c (.int .i64 0)))])
def qJ.r1:ACode:=(.region none [oP 3 (.load (some 33) (.t 1)),
oP 4 (.call 472 [.t 3]),
oP 5 (.bin .sub (.c (.int .i64 2)) (.t 4)),
oP 6 (.bin .quo (.t 5) (.c (.int .i64 2))),
oM 2 6])
def qJ:AFunc:=⟨[.tmp 2],(.seq qJ.r0 (.seq qJ.r1 .ret))⟩
def dO.r0:ACode:=(.region none [oP 2 (.box (.t 0)),
oP 4 (.move (.c (.slice none 0 0)))])
def dO.r1:ACode:=(.region none [oP 11 (.build (List.replicate 17 (.int .i64 0)) []),
oP 12 (.load (some 16) (.t 2)),
oM 13 1,
oP 14 (.call 285 [.t 12, .t 13]),
oP 15 (.buildSlice 1 0 [.int .i64 0] []),
oP 5 (.alloc (List.replicate 17 (.int .i64 0))),
⟨none, .store 17 (.t 5) (.t 11),none⟩,
oM 6 14,
oM 7 15])
def dO.r2:ACode:=(.region none [oP 8 (.move (.c (.int .i64 0)))])
def dO.r3:ACode:=(.region none [oM 16 8,
oM 17 6,
oP 18 (.len (.t 17)),
oP 19 (.bin .lss (.t 16) (.t 18))])
def dO.r5:ACode:=(.region none [oM 22 6,
oM 23 8,
oP 24 (.indexAddr none 1 (.t 22) (.t 23)),
oP 25 (.load none (.t 24)),
oP 26 (.len (.t 25)),
oP 27 (.indexAddr (some 17) 1 (.t 5) (.t 26)),
oP 28 (.load none (.t 27)),
oP 29 (.bin .add (.t 28) (.c (.int .i64 1))),
oP 30 (.indexAddr (some 17) 1 (.t 5) (.t 26)),
⟨none, .store 1 (.t 30) (.t 29),none⟩])
def dO.r4:ACode:=(.region none [oM 20 8,
oP 21 (.bin .add (.t 20) (.c (.int .i64 1))),
oM 8 21])
def dO.l0:ACode:=(.seq (.seq dO.r3 (.cond (.t 19) .skip (.exit 0))) (.seq (.block 1 dO.r5) dO.r4))
def dO.r6:ACode:=(.region none [oM 31 1,
oM 9 31])
def dO.r7:ACode:=(.region none [oM 32 9,
oP 33 (.bin .gtr (.t 32) (.c (.int .i64 0)))])
def dO.r9:ACode:=(.region none [oM 36 9,
oP 37 (.indexAddr (some 17) 1 (.t 5) (.t 36)),
oP 38 (.load none (.t 37)),
oM 10 38])
def dO.r10:ACode:=(.region none [oM 39 10,
oP 40 (.bin .gtr (.t 39) (.c (.int .i64 0)))])
def dO.r12:ACode:=(.region none [oM 43 7,
oM 44 9,
oP 45 (.buildSlice 1 1 [.int .i64 0] [(0,1, .t 44)]),
oP 46 (.append 1 8 (.t 43) (.t 45)),
oM 7 46])
def dO.r11:ACode:=(.region none [oM 41 10,
oP 42 (.bin .sub (.t 41) (.c (.int .i64 1))),
oM 10 42])
def dO.l1:ACode:=(.seq (.seq dO.r10 (.cond (.t 40) .skip (.exit 4))) (.seq (.block 5 dO.r12) dO.r11))
def dO.r8:ACode:=(.region none [oM 34 9,
oP 35 (.bin .sub (.t 34) (.c (.int .i64 1))),
oM 9 35])
def dO.l2:ACode:=(.seq (.seq dO.r7 (.cond (.t 33) .skip (.exit 2))) (.seq (.block 3 (.seq dO.r9 (.block 4 (.loop dO.l1)))) dO.r8))
def dO.r13:ACode:=(.region none [oM 47 7,
oM 4 47])
def dO:AFunc:=⟨[.tmp 4],(.seq dO.r0 (.seq dO.r1 (.seq (.seq dO.r2 (.block 0 (.loop dO.l0))) (.seq (.seq dO.r6 (.block 2 (.loop dO.l2))) (.seq dO.r13 .ret)))))⟩
def qK.r0:ACode:=(.region none [oP 1 (.box (.t 0)),
oP 2 (.alloc (List.replicate 16 (.int .u8 0)))])
def qK.r1:ACode:=(.region (some 10) [oP 3 (.fieldAddr 1 (.t 1)),
oP 4 (.load (some 16) (.t 3)),
oP 5 (.fieldAddr 17 (.t 1)),
oP 6 (.load (some 16) (.t 5)),
oP 7 (.fieldAddr 0 (.t 1)),
oP 8 (.load none (.t 7)),
oP 9 (.call 212 [.t 4, .t 6, .t 8]),
oP 10 (.fieldAddr 0 (.t 1)),
oP 11 (.load none (.t 10)),
oP 12 (.call 208 [.t 9, .t 11]),
⟨none, .store 16 (.t 2) (.t 12),none⟩])
def qK:AFunc:=⟨[.cell 2 (some 16)],(.seq qK.r0 (.seq qK.r1 .ret))⟩
def iL.r0:ACode:=(.region none [oP 4 (.move (.c (.int .i64 0)))])
def iL.r1:ACode:=(.region none [oP 5 (.move (.c (.int .i64 0)))])
def iL.r2:ACode:=(.region none [oM 6 5,
oP 7 (.bin .lss (.t 6) (.c (.int .i64 3)))])
def iL.r4:ACode:=(.region (some 9) [oM 10 0,
oM 11 5,
oP 12 (.indexAddr none 1 (.t 10) (.t 11)),
oP 13 (.load none (.t 12)),
oM 14 1,
oM 15 5,
oP 16 (.indexAddr none 1 (.t 14) (.t 15)),
oP 17 (.load none (.t 16)),
oP 18 (.call 473 [.t 13, .t 17])])
def iL.r5:ACode:=(.region none [oP 4 (.move (.c (.int .i64 (-1))))])
def iL.r6:ACode:=(.region (some 9) [oM 19 1,
oM 20 5,
oP 21 (.indexAddr none 1 (.t 19) (.t 20)),
oP 22 (.load none (.t 21)),
oM 23 0,
oM 24 5,
oP 25 (.indexAddr none 1 (.t 23) (.t 24)),
oP 26 (.load none (.t 25)),
oP 27 (.call 473 [.t 22, .t 26])])
def iL.r7:ACode:=(.region none [oP 4 (.move (.c (.int .i64 1)))])
def iL.r3:ACode:=(.region none [oM 8 5,
oP 9 (.bin .add (.t 8) (.c (.int .i64 1))),
oM 5 9])
def iL.l0:ACode:=(.seq (.seq iL.r2 (.cond (.t 7) .skip (.exit 0))) (.seq (.block 1 (.seq (.seq iL.r4 (.cond (.t 18) (.seq iL.r5 .ret) .skip)) (.seq iL.r6 (.cond (.t 27) (.seq iL.r7 .ret) .skip)))) iL.r3))
def iL.r8:ACode:=(.region none [oP 4 (.move (.c (.int .i64 0)))])
def iL:AFunc:=⟨[.tmp 4],(.seq iL.r0 (.seq (.seq iL.r1 (.block 0 (.loop iL.l0))) (.seq iL.r8 .ret)))⟩
def iF.r0:ACode:=(.region none [oP 1 (.box (.t 0)),
oP 2 (.move (.c (.slice none 0 0)))])
def iF.r1:ACode:=(.region none [oP 7 (.makeMap),
oP 3 (.alloc [.map none]),
⟨none, .store 1 (.t 3) (.t 7),none⟩])
def iF.r2:ACode:=(.region none [oP 8 (.load none (.t 1)),
oP 9 (.load none (.t 1)),
oP 10 (.call 351 [.t 8, .t 9]),
oP 11 (.len (.t 10)),
oP 12 (.move (.c (.int .i64 0)))])
def iF.r3:ACode:=(.region none [oP 13 (.bin .lss (.t 12) (.t 11))])
def iF.r4:ACode:=(.region none [oP 14 (.indexAddr none 1 (.t 10) (.t 12)),
oP 15 (.load none (.t 14)),
oM 5 15])
def iF.r5:ACode:=(.region none [oM 16 5,
oP 17 (.call 366 [.t 16]),
oP 6 (.alloc (List.replicate 16 (.int .u8 0))),
⟨none, .store 16 (.t 6) (.t 17),none⟩])
def iF.r6:ACode:=(.region none [oP 18 (.load none (.t 1)),
oP 19 (.makeFunc 420 [.t 1, .t 6, .t 3]),
oP 20 (.call 368 [.t 18, .t 19])])
def iF.r7:ACode:=(.region none [oP 21 (.bin .add (.t 12) (.c (.int .i64 1))),
oM 12 21])
def iF.l0:ACode:=(.seq iF.r3 (.seq (.cond (.t 13) .skip (.exit 0)) (.seq (.block 1 (.seq iF.r4 (.seq iF.r5 iF.r6))) iF.r7)))
def iF.r8:ACode:=(.region none [oP 22 (.load none (.t 3)),
oP 23 (.call 421 [.t 22]),
oM 2 23])
def iF:AFunc:=⟨[.tmp 2],(.seq iF.r0 (.seq iF.r1 (.seq (.seq iF.r2 (.block 0 (.loop iF.l0))) (.seq iF.r8 .ret))))⟩
def qL.r0:ACode:=(.region none [oP 1 (.box (.t 0)),
oP 2 (.move (.c (.int .i64 0)))])
def qL.r1:ACode:=(.region (some 8) [oP 3 (.load (some 33) (.t 1)),
oP 4 (.call 280 [.t 3]),
oP 5 (.fieldAddr 0 (.t 1)),
oP 6 (.load none (.t 5)),
oP 7 (.call 81 [.t 4, .t 6]),
oP 8 (.bin .quo (.t 7) (.c (.int .i64 2))),
oP 9 (.bin .sub (.c (.int .i64 1)) (.t 8)),
oM 2 9])
def qL:AFunc:=⟨[.tmp 2],(.seq qL.r0 (.seq qL.r1 .ret))⟩
def pR.r0:ACode:=(.region none [oP 1 (.box (.t 0)),
oP 2 (.move (.c (.slice none 0 0)))])
def pR.r1:ACode:=(.region (some 17) [oP 3 (.fieldAddr 1 (.t 1)),
oP 4 (.load (some 16) (.t 3)),
oP 5 (.fieldAddr 0 (.t 1)),
oP 6 (.load none (.t 5)),
oP 7 (.call 218 [.t 4, .t 6]),
oP 8 (.fieldAddr 17 (.t 1)),
oP 9 (.load (some 16) (.t 8)),
oP 10 (.fieldAddr 0 (.t 1)),
oP 11 (.load none (.t 10)),
oP 12 (.call 218 [.t 9, .t 11]),
oP 13 (.load (some 33) (.t 1)),
oP 14 (.call 193 [.t 13]),
oP 15 (.fieldAddr 0 (.t 1)),
oP 16 (.load none (.t 15)),
oP 17 (.call 218 [.t 14, .t 16]),
oP 18 (.buildSlice 1 3 [.slice none 0 0] [(0,1, .t 7),(1,1, .t 12),(2,1, .t 17)]),
oM 2 18])
def pR:AFunc:=⟨[.tmp 2],(.seq pR.r0 (.seq pR.r1 .ret))⟩
def qM.r0:ACode:=(.region none [oM 5 0,
oP 6 (.len (.t 5)),
oM 4 6])
def qM.r1:ACode:=(.region none [oM 7 0,
oM 8 4,
oM 9 4,
oP 10 (.conv .u64 (.t 9)),
oP 11 (.call 227 [.t 10]),
oM 12 1,
oP 13 (.call 474 [.t 7,(.c (.int .i64 0)), .t 8, .t 11, .t 12])])
def qM:AFunc:=⟨[],(.seq qM.r0 qM.r1)⟩
def pU.r0:ACode:=(.region none [oP 4 (.move (.c (.int .i64 0)))])
def pU.r1:ACode:=(.region none [oM 5 0,
oM 6 1,
oP 7 (.call 475 [.t 5, .t 6,(.f 476)]),
oM 4 7])
def pU:AFunc:=⟨[.tmp 4],(.seq pU.r0 (.seq pU.r1 .ret))⟩
def cO.r0:ACode:=(.region none [oP 4 (.move (.c (.slice none 0 0)))])
def cO.r1:ACode:=(.region none [oM 8 0,
oP 9 (.len (.t 8)),
oP 10 (.bin .lss (.t 9) (.c (.int .i64 2)))])
def cO.r2:ACode:=(.region none [oM 11 0,
oM 4 11])
def cO.r3:ACode:=(.region none [oP 5 (.move (.c (.int .i64 1)))])
def cO.r4:ACode:=(.region none [oM 12 5,
oM 13 0,
oP 14 (.len (.t 13)),
oP 15 (.bin .lss (.t 12) (.t 14))])
def cO.r6:ACode:=(.region (some 11) [oM 18 1,
oM 19 0,
oM 20 5,
oP 21 (.indexAddr none 1 (.t 19) (.t 20)),
oP 22 (.load none (.t 21)),
oM 23 0,
oM 24 5,
oP 25 (.bin .sub (.t 24) (.c (.int .i64 1))),
oP 26 (.indexAddr none 1 (.t 23) (.t 25)),
oP 27 (.load none (.t 26)),
oP 28 (.callv (.t 18) [.t 22, .t 27])])
def cO.r7:ACode:=(.region none [oM 29 0,
oM 30 5,
oP 31 (.slice 1 (.t 29) (some (.t 30)) none),
oM 6 31])
def cO.r8:ACode:=(.region none [oP 7 (.move (.c (.int .i64 1)))])
def cO.r9:ACode:=(.region none [oM 32 7,
oM 33 6,
oP 34 (.len (.t 33)),
oP 35 (.bin .lss (.t 32) (.t 34))])
def cO.r11:ACode:=(.region (some 12) [oM 38 1,
oM 39 6,
oM 40 7,
oP 41 (.indexAddr none 1 (.t 39) (.t 40)),
oP 42 (.load none (.t 41)),
oM 43 6,
oM 44 7,
oP 45 (.bin .sub (.t 44) (.c (.int .i64 1))),
oP 46 (.indexAddr none 1 (.t 43) (.t 45)),
oP 47 (.load none (.t 46)),
oP 48 (.callv (.t 38) [.t 42, .t 47]),
oP 49 (.not (.t 48))])
def cO.r12:ACode:=(.region none [oM 50 0,
oM 51 5,
oM 52 6,
oM 53 7,
oP 54 (.indexAddr none 1 (.t 52) (.t 53)),
oP 55 (.load none (.t 54)),
oP 56 (.indexAddr none 1 (.t 50) (.t 51)),
⟨none, .store 1 (.t 56) (.t 55),none⟩])
def cO.r13:ACode:=(.region none [oM 57 5,
oP 58 (.bin .add (.t 57) (.c (.int .i64 1))),
oM 5 58])
def cO.r10:ACode:=(.region none [oM 36 7,
oP 37 (.bin .add (.t 36) (.c (.int .i64 1))),
oM 7 37])
def cO.l0:ACode:=(.seq (.seq cO.r9 (.cond (.t 35) .skip (.exit 2))) (.seq (.block 3 (.seq cO.r11 (.cond (.t 49) (.seq cO.r12 cO.r13) .skip))) cO.r10))
def cO.iq:ACode:=(.region none [oM 59 0,
oM 60 5,
oP 61 (.slice 1 (.t 59) (some (.t 60)) none),
⟨none, .kR (.slice none 0 0) (.t 61),none⟩])
def cO.kC:ACode:=(.region none [oM 62 0,
oM 63 5,
oP 64 (.slice 1 (.t 62) none (some (.t 63))),
oM 4 64])
def cO.r5:ACode:=(.region none [oM 16 5,
oP 17 (.bin .add (.t 16) (.c (.int .i64 1))),
oM 5 17])
def cO.l1:ACode:=(.seq (.seq cO.r4 (.cond (.t 15) .skip (.exit 0))) (.seq (.block 1 (.seq cO.r6 (.cond (.t 28) (.seq cO.r7 (.seq (.seq cO.r8 (.block 2 (.loop cO.l0))) (.seq cO.iq (.seq cO.kC .ret)))) .skip))) cO.r5))
def cO.r16:ACode:=(.region none [oM 65 0,
oM 4 65])
def cO:AFunc:=⟨[.tmp 4],(.seq cO.r0 (.seq (.seq cO.r1 (.cond (.t 10) (.seq cO.r2 .ret) .skip)) (.seq (.seq cO.r3 (.block 0 (.loop cO.l1))) (.seq cO.r16 .ret))))⟩
def qN.r0:ACode:=(.region none [oP 4 (.move (.c (.bool false)))])
def qN.r1:ACode:=(.region none [oM 5 0,
oM 6 1,
oP 7 (.call 467 [.t 5, .t 6]),
oP 8 (.bin .eql (.t 7) (.c (.int .i64 0))),
oM 4 8])
def qN:AFunc:=⟨[.tmp 4],(.seq qN.r0 (.seq qN.r1 .ret))⟩
def je.r0:ACode:=(.region none [oP 4 (.move (.c (.int .i64 0)))])
def je.r1:ACode:=(.region none [oP 5 (.move (.c (.int .i64 0)))])
def je.r2:ACode:=(.region none [oM 6 5,
oM 7 0,
oP 8 (.len (.t 7)),
oP 9 (.bin .lss (.t 6) (.t 8))])
def je.r4:ACode:=(.region none [oM 12 0,
oM 13 5,
oP 14 (.indexAddr none 1 (.t 12) (.t 13)),
oP 15 (.load none (.t 14)),
oM 16 1,
oP 17 (.call 7 [.t 15, .t 16]),
oM 1 17])
def je.r5:ACode:=(.region none [oM 18 1,
oP 19 (.bin .lss (.t 18) (.c (.int .i64 0)))])
def je.r6:ACode:=(.region none [oP 4 (.move (.c (.int .i64 (-1))))])
def je.r3:ACode:=(.region none [oM 10 5,
oP 11 (.bin .add (.t 10) (.c (.int .i64 1))),
oM 5 11])
def je.l0:ACode:=(.seq (.seq je.r2 (.cond (.t 9) .skip (.exit 0))) (.seq (.block 1 (.seq je.r4 (.seq je.r5 (.cond (.t 19) (.seq je.r6 .ret) .skip)))) je.r3))
def je.r7:ACode:=(.region none [oM 20 1,
oM 4 20])
def je:AFunc:=⟨[.tmp 4],(.seq je.r0 (.seq (.seq je.r1 (.block 0 (.loop je.l0))) (.seq je.r7 .ret)))⟩
def iM.r0:ACode:=(.region none [oP 4 (.move (.c (.bool false)))])
def iM.r1:ACode:=(.region none [oM 6 0,
oP 7 (.len (.t 6)),
oM 8 1,
oP 9 (.len (.t 8)),
oP 10 (.bin .neq (.t 7) (.t 9))])
def iM.r2:ACode:=(.region none [oP 4 (.move (.c (.bool false)))])
def iM.r3:ACode:=(.region none [oP 5 (.move (.c (.int .i64 0)))])
def iM.r4:ACode:=(.region none [oM 11 5,
oM 12 0,
oP 13 (.len (.t 12)),
oP 14 (.bin .lss (.t 11) (.t 13))])
def iM.r6:ACode:=(.region (some 9) [oM 17 0,
oM 18 5,
oP 19 (.indexAddr none 1 (.t 17) (.t 18)),
oP 20 (.load none (.t 19)),
oM 21 1,
oM 22 5,
oP 23 (.indexAddr none 1 (.t 21) (.t 22)),
oP 24 (.load none (.t 23)),
oP 25 (.bin .neq (.t 20) (.t 24))])
def iM.r7:ACode:=(.region none [oP 4 (.move (.c (.bool false)))])
def iM.r5:ACode:=(.region none [oM 15 5,
oP 16 (.bin .add (.t 15) (.c (.int .i64 1))),
oM 5 16])
def iM.l0:ACode:=(.seq (.seq iM.r4 (.cond (.t 14) .skip (.exit 0))) (.seq (.block 1 (.seq iM.r6 (.cond (.t 25) (.seq iM.r7 .ret) .skip))) iM.r5))
def iM.r8:ACode:=(.region none [oP 4 (.move (.c (.bool true)))])
def iM:AFunc:=⟨[.tmp 4],(.seq iM.r0 (.seq (.seq iM.r1 (.cond (.t 10) (.seq iM.r2 .ret) .skip)) (.seq (.seq iM.r3 (.block 0 (.loop iM.l0))) (.seq iM.r8 .ret))))⟩
def jF.r0:ACode:=(.region none [oP 4 (.move (.c (.int .i64 0)))])
def jF.r1:ACode:=(.region none [oP 5 (.move (.c (.int .i64 0)))])
def jF.r2:ACode:=(.region none [oM 6 5,
oM 7 0,
oP 8 (.len (.t 7)),
oP 9 (.bin .lss (.t 6) (.t 8))])
def jF.r4:ACode:=(.region none [oM 12 0,
oM 13 5,
oM 14 1,
oP 15 (.indexAddr none 1 (.t 12) (.t 13)),
⟨none, .store 1 (.t 15) (.t 14),none⟩])
def jF.r5:ACode:=(.region none [oM 16 1,
oP 17 (.bin .add (.t 16) (.c (.int .i64 1))),
oM 1 17])
def jF.r3:ACode:=(.region none [oM 10 5,
oP 11 (.bin .add (.t 10) (.c (.int .i64 1))),
oM 5 11])
def jF.l0:ACode:=(.seq (.seq jF.r2 (.cond (.t 9) .skip (.exit 0))) (.seq (.block 1 (.seq jF.r4 jF.r5)) jF.r3))
def jF.r6:ACode:=(.region none [oM 18 1,
oM 4 18])
def jF:AFunc:=⟨[.tmp 4],(.seq jF.r0 (.seq (.seq jF.r1 (.block 0 (.loop jF.l0))) (.seq jF.r6 .ret)))⟩
def iO.r0:ACode:=(.region none [oP 1 (.box (.t 0)),
oP 2 (.alloc ([.int .i64 0]++List.replicate 32 (.int .u8 0)))])
def iO.r1:ACode:=(.region (some 5) [oP 6 (.load (some 33) (.t 1)),
oP 7 (.load (some 33) (.t 1)),
oP 8 (.call 215 [.t 7,(.c (.int .i64 0))]),
oP 9 (.call 216 [.t 6, .t 8]),
oP 3 (.alloc ([.int .i64 0]++List.replicate 32 (.int .u8 0))),
⟨none, .store 33 (.t 3) (.t 9),none⟩])
def iO.r2:ACode:=(.region none [oP 4 (.move (.c (.int .i64 1)))])
def iO.r3:ACode:=(.region none [oM 10 4,
oP 11 (.fieldAddr 0 (.t 1)),
oP 12 (.load none (.t 11)),
oP 13 (.bin .lss (.t 10) (.t 12))])
def iO.r5:ACode:=(.region (some 6) [oP 16 (.load (some 33) (.t 1)),
oP 17 (.load (some 33) (.t 1)),
oM 18 4,
oP 19 (.call 215 [.t 17, .t 18]),
oP 20 (.call 216 [.t 16, .t 19]),
oP 5 (.alloc ([.int .i64 0]++List.replicate 32 (.int .u8 0))),
⟨none, .store 33 (.t 5) (.t 20),none⟩])
def iO.r6:ACode:=(.region none [oP 21 (.load (some 33) (.t 5)),
oP 22 (.load (some 33) (.t 3)),
oP 23 (.call 217 [.t 21, .t 22]),
oP 24 (.bin .lss (.t 23) (.c (.int .i64 0)))])
def iO.r7:ACode:=(.region none [oP 25 (.load (some 33) (.t 5)),
⟨none, .store 33 (.t 3) (.t 25),none⟩])
def iO.r4:ACode:=(.region none [oM 14 4,
oP 15 (.bin .add (.t 14) (.c (.int .i64 1))),
oM 4 15])
def iO.l0:ACode:=(.seq (.seq iO.r3 (.cond (.t 13) .skip (.exit 0))) (.seq (.block 1 (.seq iO.r5 (.seq iO.r6 (.cond (.t 24) iO.r7 .skip)))) iO.r4))
def iO.r8:ACode:=(.region none [oP 26 (.load (some 33) (.t 3)),
⟨none, .store 33 (.t 2) (.t 26),none⟩])
def iO:AFunc:=⟨[.cell 2 (some 33)],(.seq iO.r0 (.seq iO.r1 (.seq (.seq iO.r2 (.block 0 (.loop iO.l0))) (.seq iO.r8 .ret))))⟩
def qO.r0:ACode:=(.region none [oP 4 (.move (.c (.int .i64 0)))])
def qO.r1:ACode:=(.region (some 17) [oM 5 0,
oP 6 (.indexAddr none 1 (.t 5) (.c (.int .i64 0))),
oP 7 (.load none (.t 6)),
oP 8 (.len (.t 7)),
oM 9 0,
oP 10 (.indexAddr none 1 (.t 9) (.c (.int .i64 1))),
oP 11 (.load none (.t 10)),
oP 12 (.len (.t 11)),
oP 13 (.bin .add (.t 8) (.t 12)),
oM 14 0,
oP 15 (.indexAddr none 1 (.t 14) (.c (.int .i64 2))),
oP 16 (.load none (.t 15)),
oP 17 (.len (.t 16)),
oP 18 (.bin .add (.t 13) (.t 17)),
oM 19 1,
oP 20 (.bin .sub (.t 18) (.t 19)),
oM 4 20])
def qO:AFunc:=⟨[.tmp 4],(.seq qO.r0 (.seq qO.r1 .ret))⟩
def ig.r0:ACode:=(.region none [oP 8 (.move (.c (.slice none 0 0)))])
def ig.r1:ACode:=(.region none [oM 10 0,
oP 11 (.bin .eql (.t 10) (.c (.int .i64 0)))])
def ig.r2:ACode:=(.region none [oM 12 3,
oM 13 2,
oP 14 (.buildSlice 1 1 [.slice none 0 0] [(0,1, .t 13)]),
oP 15 (.append 1 24 (.t 12) (.t 14)),
oM 8 15])
def ig.r3:ACode:=(.region none [oP 9 (.move (.c (.int .i64 1)))])
def ig.r4:ACode:=(.region none [oM 16 9,
oM 17 1,
oP 18 (.bin .leq (.t 16) (.t 17)),
oM 19 18,
⟨some 20, .move (.t 9),some (19,true)⟩,
⟨some 21, .move (.t 0),some (19,true)⟩,
⟨some 22, .bin .leq (.t 20) (.t 21),some (19,true)⟩,
oP 23 (.pick (.t 19) (.t 22) (.c (.bool false)))])
def ig.r6:ACode:=(.region none [oM 26 0,
oM 27 9,
oP 28 (.bin .sub (.t 26) (.t 27)),
oM 29 9,
oM 30 2,
oP 31 (.call 111 [.t 30]),
oM 32 9,
oP 33 (.buildSlice 1 1 [.int .i64 0] [(0,1, .t 32)]),
oP 34 (.append 1 8 (.t 31) (.t 33)),
oM 35 3,
oP 36 (.call 352 [.t 28, .t 29, .t 34, .t 35]),
oM 3 36])
def ig.r5:ACode:=(.region none [oM 24 9,
oP 25 (.bin .add (.t 24) (.c (.int .i64 1))),
oM 9 25])
def ig.l0:ACode:=(.seq (.seq ig.r4 (.cond (.t 23) .skip (.exit 0))) (.seq (.block 1 ig.r6) ig.r5))
def ig.r7:ACode:=(.region none [oM 37 3,
oM 8 37])
def ig:AFunc:=⟨[.tmp 8],(.seq ig.r0 (.seq (.seq ig.r1 (.cond (.t 11) (.seq ig.r2 .ret) .skip)) (.seq (.seq ig.r3 (.block 0 (.loop ig.l0))) (.seq ig.r7 .ret))))⟩
def fB.r0:ACode:=(.region none [oP 6 (.box (.t 1)),
oP 7 (.box (.t 2)),
oP 10 (.move (.c (.slice none 0 0)))])
def fB.r1:ACode:=(.region none [oM 14 3,
oM 15 4,
oP 16 (.bin .eql (.t 14) (.t 15))])
def fB.r2:ACode:=(.region none [oM 17 4,
oP 18 (.load (some 16) (.t 6)),
oP 19 (.load (some 16) (.t 7)),
oP 20 (.build ([.int .i64 0]++List.replicate 32 (.int .u8 0)) [(0,1, .t 17),(1,16, .t 18),(17,16, .t 19)]),
oP 11 (.alloc ([.int .i64 0]++List.replicate 32 (.int .u8 0))),
⟨none, .store 33 (.t 11) (.t 20),none⟩])
def fB.r3:ACode:=(.region none [oP 21 (.load (some 33) (.t 11)),
oP 22 (.call 184 [.t 21])])
def fB.r4:ACode:=(.region none [oM 23 0,
oP 24 (.load (some 33) (.t 11)),
oP 25 (.call 359 [.t 24]),
oP 26 (.call 391 [.t 23, .t 25]),
oM 10 26])
def fB.r5:ACode:=(.region none [oM 27 0,
oM 10 27])
def fB.r6:ACode:=(.region none [oM 28 3,
oM 12 28])
def fB.r7:ACode:=(.region none [oM 29 12,
oM 30 4,
oP 31 (.bin .lss (.t 29) (.t 30))])
def fB.r9:ACode:=(.region none [oP 34 (.load (some 16) (.t 7)),
oP 13 (.alloc (List.replicate 16 (.int .u8 0))),
⟨none, .store 16 (.t 13) (.t 34),none⟩])
def fB.r10:ACode:=(.region none [oM 35 3,
oM 36 12,
oP 37 (.indexAddr (some 16) 1 (.t 7) (.t 36)),
oP 38 (.load none (.t 37)),
oP 39 (.indexAddr (some 16) 1 (.t 13) (.t 35)),
⟨none, .store 1 (.t 39) (.t 38),none⟩])
def fB.r11:ACode:=(.region none [oM 40 12,
oM 41 3,
oP 42 (.indexAddr (some 16) 1 (.t 7) (.t 41)),
oP 43 (.load none (.t 42)),
oP 44 (.indexAddr (some 16) 1 (.t 13) (.t 40)),
⟨none, .store 1 (.t 44) (.t 43),none⟩])
def fB.r12:ACode:=(.region none [oM 45 0,
oP 46 (.load (some 16) (.t 6)),
oP 47 (.load (some 16) (.t 13)),
oM 48 3,
oP 49 (.bin .add (.t 48) (.c (.int .i64 1))),
oM 50 4,
oP 51 (.call 416 [.t 45, .t 46, .t 47, .t 49, .t 50]),
oM 0 51])
def fB.r8:ACode:=(.region none [oM 32 12,
oP 33 (.bin .add (.t 32) (.c (.int .i64 1))),
oM 12 33])
def fB.l0:ACode:=(.seq (.seq fB.r7 (.cond (.t 31) .skip (.exit 0))) (.seq (.block 1 (.seq fB.r9 (.seq fB.r10 (.seq fB.r11 fB.r12)))) fB.r8))
def fB.r13:ACode:=(.region none [oM 52 0,
oM 10 52])
def fB:AFunc:=⟨[.tmp 10],(.seq fB.r0 (.seq (.seq fB.r1 (.cond (.t 16) (.seq (.seq fB.r2 (.seq fB.r3 (.cond (.t 22) (.seq fB.r4 .ret) .skip))) (.seq fB.r5 .ret)) .skip)) (.seq (.seq fB.r6 (.block 0 (.loop fB.l0))) (.seq fB.r13 .ret))))⟩
def gq.r0:ACode:=(.region none [oP 2 (.alloc (List.replicate 16 (.int .u8 0)))])
def gq.r1:ACode:=(.region none [oP 7 (.build (List.replicate 16 (.int .u8 0)) []),
oP 3 (.alloc (List.replicate 16 (.int .u8 0))),
⟨none, .store 16 (.t 3) (.t 7),none⟩,
oP 4 (.move (.c (.int .i64 0)))])
def gq.r2:ACode:=(.region none [oP 5 (.move (.c (.int .i64 0)))])
def gq.r3:ACode:=(.region none [oM 8 5,
oM 9 0,
oP 10 (.len (.t 9)),
oP 11 (.bin .lss (.t 8) (.t 10))])
def gq.r5:ACode:=(.region none [oP 6 (.move (.c (.int .i64 0)))])
def gq.r6:ACode:=(.region none [oM 14 6,
oM 15 0,
oM 16 5,
oP 17 (.indexAddr none 1 (.t 15) (.t 16)),
oP 18 (.load none (.t 17)),
oP 19 (.bin .lss (.t 14) (.t 18))])
def gq.r8:ACode:=(.region none [oM 22 4,
oM 23 6,
oP 24 (.bin .add (.t 22) (.t 23)),
oM 25 4,
oM 26 6,
oP 27 (.bin .add (.t 26) (.c (.int .i64 1))),
oM 28 0,
oM 29 5,
oP 30 (.indexAddr none 1 (.t 28) (.t 29)),
oP 31 (.load none (.t 30)),
oP 32 (.bin .rem (.t 27) (.t 31)),
oP 33 (.bin .add (.t 25) (.t 32)),
oP 34 (.conv .u8 (.t 33)),
oP 35 (.indexAddr (some 16) 1 (.t 3) (.t 24)),
⟨none, .store 1 (.t 35) (.t 34),none⟩])
def gq.r7:ACode:=(.region none [oM 20 6,
oP 21 (.bin .add (.t 20) (.c (.int .i64 1))),
oM 6 21])
def gq.l0:ACode:=(.seq (.seq gq.r6 (.cond (.t 19) .skip (.exit 2))) (.seq (.block 3 gq.r8) gq.r7))
def gq.r9:ACode:=(.region none [oM 36 4,
oM 37 0,
oM 38 5,
oP 39 (.indexAddr none 1 (.t 37) (.t 38)),
oP 40 (.load none (.t 39)),
oP 41 (.bin .add (.t 36) (.t 40)),
oM 4 41])
def gq.r4:ACode:=(.region none [oM 12 5,
oP 13 (.bin .add (.t 12) (.c (.int .i64 1))),
oM 5 13])
def gq.l1:ACode:=(.seq (.seq gq.r3 (.cond (.t 11) .skip (.exit 0))) (.seq (.block 1 (.seq (.seq gq.r5 (.block 2 (.loop gq.l0))) gq.r9)) gq.r4))
def gq.r10:ACode:=(.region none [oP 42 (.load (some 16) (.t 3)),
⟨none, .store 16 (.t 2) (.t 42),none⟩])
def gq:AFunc:=⟨[.cell 2 (some 16)],(.seq gq.r0 (.seq gq.r1 (.seq (.seq gq.r2 (.block 0 (.loop gq.l1))) (.seq gq.r10 .ret))))⟩
def jG.r0:ACode:=(.region none [oP 2 (.alloc (List.replicate 16 (.int .u8 0)))])
def jG.r1:ACode:=(.region none [oP 5 (.build (List.replicate 16 (.int .u8 0)) []),
oP 3 (.alloc (List.replicate 16 (.int .u8 0))),
⟨none, .store 16 (.t 3) (.t 5),none⟩])
def jG.r2:ACode:=(.region none [oP 4 (.move (.c (.int .i64 0)))])
def jG.r3:ACode:=(.region none [oM 6 4,
oM 7 0,
oP 8 (.bin .lss (.t 6) (.t 7))])
def jG.r5:ACode:=(.region none [oM 11 4,
oM 12 4,
oP 13 (.conv .u8 (.t 12)),
oP 14 (.indexAddr (some 16) 1 (.t 3) (.t 11)),
⟨none, .store 1 (.t 14) (.t 13),none⟩])
def jG.r4:ACode:=(.region none [oM 9 4,
oP 10 (.bin .add (.t 9) (.c (.int .i64 1))),
oM 4 10])
def jG.l0:ACode:=(.seq (.seq jG.r3 (.cond (.t 8) .skip (.exit 0))) (.seq (.block 1 jG.r5) jG.r4))
def jG.r6:ACode:=(.region none [oP 15 (.load (some 16) (.t 3)),
⟨none, .store 16 (.t 2) (.t 15),none⟩])
def jG:AFunc:=⟨[.cell 2 (some 16)],(.seq jG.r0 (.seq jG.r1 (.seq (.seq jG.r2 (.block 0 (.loop jG.l0))) (.seq jG.r6 .ret))))⟩
def oO.r0:ACode:=(.region none [oP 1 (.box (.t 0)),
oP 2 (.move (.c (.int .i64 0)))])
def oO.r1:ACode:=(.region none [oP 4 (.load (some 33) (.t 1)),
oP 5 (.call 279 [.t 4]),
oM 3 5])
def oO.r2:ACode:=(.region (some 18) [oM 6 3,
oP 7 (.indexAddr none 1 (.t 6) (.c (.int .i64 0))),
oP 8 (.load none (.t 7)),
oP 9 (.len (.t 8)),
oM 10 3,
oP 11 (.indexAddr none 1 (.t 10) (.c (.int .i64 1))),
oP 12 (.load none (.t 11)),
oP 13 (.len (.t 12)),
oP 14 (.bin .add (.t 9) (.t 13)),
oM 15 3,
oP 16 (.indexAddr none 1 (.t 15) (.c (.int .i64 2))),
oP 17 (.load none (.t 16)),
oP 18 (.len (.t 17)),
oP 19 (.bin .add (.t 14) (.t 18)),
oP 20 (.fieldAddr 0 (.t 1)),
oP 21 (.load none (.t 20)),
oP 22 (.bin .sub (.t 19) (.t 21)),
oM 2 22])
def oO:AFunc:=⟨[.tmp 2],(.seq oO.r0 (.seq oO.r1 (.seq oO.r2 .ret)))⟩
def dL.r0:ACode:=(.region none [oP 2 (.box (.t 0)),
oP 4 (.move (.c (.slice none 0 0)))])
def dL.r1:ACode:=(.region none [oP 10 (.buildSlice 1 0 [.slice none 0 0] []),
oP 11 (.build (List.replicate 16 (.bool false)) []),
oP 6 (.alloc (List.replicate 16 (.bool false))),
oM 5 10,
⟨none, .store 16 (.t 6) (.t 11),none⟩])
def dL.r2:ACode:=(.region none [oP 7 (.move (.c (.int .i64 0)))])
def dL.r3:ACode:=(.region none [oM 12 7,
oM 13 1,
oP 14 (.bin .lss (.t 12) (.t 13))])
def dL.r5:ACode:=(.region none [oP 17 (.buildSlice 1 0 [.int .i64 0] []),
oM 8 17])
def dL.r6:ACode:=(.region none [oM 18 7,
oM 9 18])
def dL.r7:ACode:=(.region none [oM 19 9,
oP 20 (.indexAddr (some 16) 1 (.t 6) (.t 19)),
oP 21 (.load none (.t 20)),
oP 22 (.not (.t 21))])
def dL.r9:ACode:=(.region none [oM 27 9,
oP 28 (.indexAddr (some 16) 1 (.t 6) (.t 27)),
⟨none, .store 1 (.t 28) (.c (.bool true)),none⟩])
def dL.r10:ACode:=(.region none [oM 29 8,
oM 30 9,
oP 31 (.buildSlice 1 1 [.int .i64 0] [(0,1, .t 30)]),
oP 32 (.append 1 8 (.t 29) (.t 31)),
oM 8 32])
def dL.r8:ACode:=(.region none [oM 23 9,
oP 24 (.indexAddr (some 16) 1 (.t 2) (.t 23)),
oP 25 (.load none (.t 24)),
oP 26 (.conv .i64 (.t 25)),
oM 9 26])
def dL.l0:ACode:=(.seq (.seq dL.r7 (.cond (.t 22) .skip (.exit 2))) (.seq (.block 3 (.seq dL.r9 dL.r10)) dL.r8))
def dL.r11:ACode:=(.region none [oM 33 8,
oP 34 (.len (.t 33)),
oP 35 (.bin .gtr (.t 34) (.c (.int .i64 0)))])
def dL.r12:ACode:=(.region none [oM 36 5,
oM 37 8,
oP 38 (.buildSlice 1 1 [.slice none 0 0] [(0,1, .t 37)]),
oP 39 (.append 1 24 (.t 36) (.t 38)),
oM 5 39])
def dL.r4:ACode:=(.region none [oM 15 7,
oP 16 (.bin .add (.t 15) (.c (.int .i64 1))),
oM 7 16])
def dL.l1:ACode:=(.seq (.seq dL.r3 (.cond (.t 14) .skip (.exit 0))) (.seq (.block 1 (.seq dL.r5 (.seq (.seq dL.r6 (.block 2 (.loop dL.l0))) (.seq dL.r11 (.cond (.t 35) dL.r12 .skip))))) dL.r4))
def dL.r13:ACode:=(.region none [oM 40 5,
oM 4 40])
def dL:AFunc:=⟨[.tmp 4],(.seq dL.r0 (.seq dL.r1 (.seq (.seq dL.r2 (.block 0 (.loop dL.l1))) (.seq dL.r13 .ret))))⟩
def jH.r0:ACode:=(.region none [oP 2 (.box (.t 0)),
oP 4 (.alloc (List.replicate 16 (.int .u8 0)))])
def jH.r1:ACode:=(.region none [oP 7 (.build (List.replicate 16 (.int .u8 0)) []),
oP 5 (.alloc (List.replicate 16 (.int .u8 0))),
⟨none, .store 16 (.t 5) (.t 7),none⟩])
def jH.r2:ACode:=(.region none [oP 6 (.move (.c (.int .i64 0)))])
def jH.r3:ACode:=(.region none [oM 8 6,
oM 9 1,
oP 10 (.bin .lss (.t 8) (.t 9))])
def jH.r5:ACode:=(.region none [oM 13 6,
oP 14 (.indexAddr (some 16) 1 (.t 2) (.t 13)),
oP 15 (.load none (.t 14)),
oM 16 6,
oP 17 (.conv .u8 (.t 16)),
oP 18 (.indexAddr (some 16) 1 (.t 5) (.t 15)),
⟨none, .store 1 (.t 18) (.t 17),none⟩])
def jH.r4:ACode:=(.region none [oM 11 6,
oP 12 (.bin .add (.t 11) (.c (.int .i64 1))),
oM 6 12])
def jH.l0:ACode:=(.seq (.seq jH.r3 (.cond (.t 10) .skip (.exit 0))) (.seq (.block 1 jH.r5) jH.r4))
def jH.r6:ACode:=(.region none [oP 19 (.load (some 16) (.t 5)),
⟨none, .store 16 (.t 4) (.t 19),none⟩])
def jH:AFunc:=⟨[.cell 4 (some 16)],(.seq jH.r0 (.seq jH.r1 (.seq (.seq jH.r2 (.block 0 (.loop jH.l0))) (.seq jH.r6 .ret))))⟩
def jI.r0:ACode:=(.region none [oP 3 (.box (.t 0)),
oP 4 (.box (.t 1)),
oP 6 (.alloc (List.replicate 16 (.int .u8 0)))])
def jI.r1:ACode:=(.region none [oP 9 (.build (List.replicate 16 (.int .u8 0)) []),
oP 7 (.alloc (List.replicate 16 (.int .u8 0))),
⟨none, .store 16 (.t 7) (.t 9),none⟩])
def jI.r2:ACode:=(.region none [oP 8 (.move (.c (.int .i64 0)))])
def jI.r3:ACode:=(.region none [oM 10 8,
oM 11 2,
oP 12 (.bin .lss (.t 10) (.t 11))])
def jI.r5:ACode:=(.region none [oM 15 8,
oM 16 8,
oP 17 (.indexAddr (some 16) 1 (.t 3) (.t 16)),
oP 18 (.load none (.t 17)),
oP 19 (.indexAddr (some 16) 1 (.t 4) (.t 18)),
oP 20 (.load none (.t 19)),
oP 21 (.indexAddr (some 16) 1 (.t 7) (.t 15)),
⟨none, .store 1 (.t 21) (.t 20),none⟩])
def jI.r4:ACode:=(.region none [oM 13 8,
oP 14 (.bin .add (.t 13) (.c (.int .i64 1))),
oM 8 14])
def jI.l0:ACode:=(.seq (.seq jI.r3 (.cond (.t 12) .skip (.exit 0))) (.seq (.block 1 jI.r5) jI.r4))
def jI.r6:ACode:=(.region none [oP 22 (.load (some 16) (.t 7)),
⟨none, .store 16 (.t 6) (.t 22),none⟩])
def jI:AFunc:=⟨[.cell 6 (some 16)],(.seq jI.r0 (.seq jI.r1 (.seq (.seq jI.r2 (.block 0 (.loop jI.l0))) (.seq jI.r6 .ret))))⟩
def jJ.r0:ACode:=(.region none [oP 4 (.move (.c (.bool false)))])
def jJ.r1:ACode:=(.region none [oP 5 (.move (.c (.int .i64 0)))])
def jJ.r2:ACode:=(.region none [oM 6 5,
oM 7 0,
oP 8 (.len (.t 7)),
oP 9 (.bin .lss (.t 6) (.t 8)),
oM 10 9,
⟨some 11, .move (.t 5),some (10,true)⟩,
⟨some 12, .move (.t 1),some (10,true)⟩,
⟨some 13, .len (.t 12),some (10,true)⟩,
⟨some 14, .bin .lss (.t 11) (.t 13),some (10,true)⟩,
oP 15 (.pick (.t 10) (.t 14) (.c (.bool false)))])
def jJ.r4:ACode:=(.region (some 9) [oM 18 0,
oM 19 5,
oP 20 (.indexAddr none 1 (.t 18) (.t 19)),
oP 21 (.load none (.t 20)),
oM 22 1,
oM 23 5,
oP 24 (.indexAddr none 1 (.t 22) (.t 23)),
oP 25 (.load none (.t 24)),
oP 26 (.bin .neq (.t 21) (.t 25))])
def jJ.r5:ACode:=(.region (some 10) [oM 27 0,
oM 28 5,
oP 29 (.indexAddr none 1 (.t 27) (.t 28)),
oP 30 (.load none (.t 29)),
oM 31 1,
oM 32 5,
oP 33 (.indexAddr none 1 (.t 31) (.t 32)),
oP 34 (.load none (.t 33)),
oP 35 (.bin .lss (.t 30) (.t 34)),
oM 4 35])
def jJ.r3:ACode:=(.region none [oM 16 5,
oP 17 (.bin .add (.t 16) (.c (.int .i64 1))),
oM 5 17])
def jJ.l0:ACode:=(.seq (.seq jJ.r2 (.cond (.t 15) .skip (.exit 0))) (.seq (.block 1 (.seq jJ.r4 (.cond (.t 26) (.seq jJ.r5 .ret) .skip))) jJ.r3))
def jJ.r6:ACode:=(.region none [oM 36 0,
oP 37 (.len (.t 36)),
oM 38 1,
oP 39 (.len (.t 38)),
oP 40 (.bin .lss (.t 37) (.t 39)),
oM 4 40])
def jJ:AFunc:=⟨[.tmp 4],(.seq jJ.r0 (.seq (.seq jJ.r1 (.block 0 (.loop jJ.l0))) (.seq jJ.r6 .ret)))⟩
def dZ.r0:ACode:=(.region none [oP 4 (.move (.c (.slice none 0 0)))])
def dZ.r1:ACode:=(.region none [oM 9 0,
oP 10 (.bin .eql (.t 9) (.c (.int .i64 0)))])
def dZ.r2:ACode:=(.region none [oP 11 (.buildSlice 1 0 [.int .i64 0] []),
oP 12 (.buildSlice 1 1 [.slice none 0 0] [(0,1, .t 11)]),
oM 4 12])
def dZ.r3:ACode:=(.region none [oP 13 (.buildSlice 1 0 [.slice none 0 0] []),
oM 5 13])
def dZ.r4:ACode:=(.region none [oP 6 (.move (.c (.int .i64 1)))])
def dZ.r5:ACode:=(.region none [oM 14 6,
oM 15 0,
oM 16 1,
oP 17 (.min [.t 15, .t 16]),
oP 18 (.bin .leq (.t 14) (.t 17))])
def dZ.r7:ACode:=(.region none [oM 21 0,
oM 22 6,
oP 23 (.bin .sub (.t 21) (.t 22)),
oM 24 6,
oP 25 (.call 351 [.t 23, .t 24]),
oP 26 (.len (.t 25)),
oP 27 (.move (.c (.int .i64 0)))])
def dZ.r8:ACode:=(.region none [oP 28 (.bin .lss (.t 27) (.t 26))])
def dZ.r9:ACode:=(.region none [oP 29 (.indexAddr none 1 (.t 25) (.t 27)),
oP 30 (.load none (.t 29)),
oM 8 30])
def dZ.r10:ACode:=(.region none [oM 31 5,
oM 32 6,
oP 33 (.buildSlice 1 1 [.int .i64 0] [(0,1, .t 32)]),
oM 34 8,
oP 35 (.append 1 8 (.t 33) (.t 34)),
oP 36 (.buildSlice 1 1 [.slice none 0 0] [(0,1, .t 35)]),
oP 37 (.append 1 24 (.t 31) (.t 36)),
oM 5 37])
def dZ.r11:ACode:=(.region none [oP 38 (.bin .add (.t 27) (.c (.int .i64 1))),
oM 27 38])
def dZ.l0:ACode:=(.seq dZ.r8 (.seq (.cond (.t 28) .skip (.exit 2)) (.seq (.block 3 (.seq dZ.r9 dZ.r10)) dZ.r11)))
def dZ.r6:ACode:=(.region none [oM 19 6,
oP 20 (.bin .add (.t 19) (.c (.int .i64 1))),
oM 6 20])
def dZ.l1:ACode:=(.seq (.seq dZ.r5 (.cond (.t 18) .skip (.exit 0))) (.seq (.block 1 (.seq dZ.r7 (.block 2 (.loop dZ.l0)))) dZ.r6))
def dZ.r12:ACode:=(.region none [oM 39 5,
oM 4 39])
def dZ:AFunc:=⟨[.tmp 4],(.seq dZ.r0 (.seq (.seq dZ.r1 (.cond (.t 10) (.seq dZ.r2 .ret) .skip)) (.seq dZ.r3 (.seq (.seq dZ.r4 (.block 0 (.loop dZ.l1))) (.seq dZ.r12 .ret)))))⟩
def fC.r0:ACode:=(.region none [oP 2 (.alloc (List.replicate 16 (.int .u8 0)))])
def fC.r1:ACode:=(.region none [oP 8 (.build (List.replicate 16 (.int .u8 0)) []),
oP 3 (.alloc (List.replicate 16 (.int .u8 0))),
⟨none, .store 16 (.t 3) (.t 8),none⟩,
oP 4 (.move (.c (.int .i64 0)))])
def fC.r2:ACode:=(.region none [oM 9 0,
oP 10 (.len (.t 9)),
oP 11 (.move (.c (.int .i64 0)))])
def fC.r3:ACode:=(.region none [oP 12 (.bin .lss (.t 11) (.t 10))])
def fC.r4:ACode:=(.region none [oP 13 (.indexAddr none 1 (.t 9) (.t 11)),
oP 14 (.load none (.t 13)),
oM 6 14])
def fC.r5:ACode:=(.region none [oM 15 6,
oP 16 (.move (.c (.int .i64 0)))])
def fC.r6:ACode:=(.region none [oP 17 (.bin .lss (.t 16) (.t 15))])
def fC.r7:ACode:=(.region none [oM 18 16,
oM 7 18])
def fC.r8:ACode:=(.region none [oM 19 4,
oM 20 7,
oP 21 (.bin .add (.t 19) (.t 20)),
oM 22 4,
oM 23 7,
oP 24 (.bin .add (.t 23) (.c (.int .i64 1))),
oM 25 6,
oP 26 (.bin .rem (.t 24) (.t 25)),
oP 27 (.bin .add (.t 22) (.t 26)),
oP 28 (.conv .u8 (.t 27)),
oP 29 (.indexAddr (some 16) 1 (.t 3) (.t 21)),
⟨none, .store 1 (.t 29) (.t 28),none⟩])
def fC.r9:ACode:=(.region none [oP 30 (.bin .add (.t 16) (.c (.int .i64 1))),
oM 16 30])
def fC.l0:ACode:=(.seq fC.r6 (.seq (.cond (.t 17) .skip (.exit 2)) (.seq (.block 3 (.seq fC.r7 fC.r8)) fC.r9)))
def fC.r10:ACode:=(.region none [oM 31 4,
oM 32 6,
oP 33 (.bin .add (.t 31) (.t 32)),
oM 4 33])
def fC.r11:ACode:=(.region none [oP 34 (.bin .add (.t 11) (.c (.int .i64 1))),
oM 11 34])
def fC.l1:ACode:=(.seq fC.r3 (.seq (.cond (.t 12) .skip (.exit 0)) (.seq (.block 1 (.seq fC.r4 (.seq (.seq fC.r5 (.block 2 (.loop fC.l0))) fC.r10))) fC.r11)))
def fC.r12:ACode:=(.region none [oP 35 (.load (some 16) (.t 3)),
⟨none, .store 16 (.t 2) (.t 35),none⟩])
def fC:AFunc:=⟨[.cell 2 (some 16)],(.seq fC.r0 (.seq fC.r1 (.seq (.seq fC.r2 (.block 0 (.loop fC.l1))) (.seq fC.r12 .ret))))⟩
def kS.r0:ACode:=(.region none [oP 2 (.box (.t 0)),
oP 3 (.box (.t 1))])
def kS.r1:ACode:=(.region none [oP 7 (.build (List.replicate 16 (.int .u8 0)) []),
oP 4 (.alloc (List.replicate 16 (.int .u8 0))),
⟨none, .store 16 (.t 4) (.t 7),none⟩])
def kS.r2:ACode:=(.region none [oP 8 (.build (List.replicate 16 (.bool false)) []),
oP 5 (.alloc (List.replicate 16 (.bool false))),
⟨none, .store 16 (.t 5) (.t 8),none⟩])
def kS.r3:ACode:=(.region none [oP 6 (.alloc [.nilFunc])])
def kS.r4:ACode:=(.region none [oP 9 (.makeFunc 377 [.t 2, .t 3, .t 4, .t 5, .t 6]),
⟨none, .store 1 (.t 6) (.t 9),none⟩])
def kS.r5:ACode:=(.region none [oP 10 (.load none (.t 6)),
oP 11 (.callv (.t 10) [(.c (.int .i64 0))])])
def kS:AFunc:=⟨[],(.seq kS.r0 (.seq kS.r1 (.seq kS.r2 (.seq kS.r3 (.seq kS.r4 kS.r5)))))⟩
def mX.r0:ACode:=(.region none [oP 4 (.box (.t 0))])
def mX.r1:ACode:=(.region none [oP 6 (.load none (.t 1)),
oP 7 (.load (some 16) (.t 2)),
oP 8 (.load (some 16) (.t 4)),
oP 9 (.build ([.int .i64 0]++List.replicate 32 (.int .u8 0)) [(0,1, .t 6),(1,16, .t 7),(17,16, .t 8)]),
oP 5 (.alloc ([.int .i64 0]++List.replicate 32 (.int .u8 0))),
⟨none, .store 33 (.t 5) (.t 9),none⟩])
def mX.r2:ACode:=(.region none [oP 10 (.load (some 33) (.t 5)),
oP 11 (.call 369 [.t 10])])
def mX.r3:ACode:=(.region (some 3) [oP 12 (.load none (.t 3)),
oP 13 (.load (some 33) (.t 5)),
oP 14 (.call 198 [.t 13]),
⟨none, .mapPut ([.i64]++List.replicate 32 .u8) (.t 12) (.t 14),none⟩])
def mX:AFunc:=⟨[],(.seq mX.r0 (.seq mX.r1 (.seq mX.r2 (.cond (.t 11) mX.r3 .skip))))⟩
def jf.r0:ACode:=(.region none [oP 2 (.box (.t 0)),
oP 4 (.move (.c (.slice none 0 0)))])
def jf.r1:ACode:=(.region none [oP 8 (.buildSlice 1 0 [.int .i64 0] []),
oM 5 8])
def jf.r2:ACode:=(.region none [oP 9 (.load (some 16) (.t 2)),
oM 10 1,
oP 11 (.call 223 [.t 9, .t 10]),
oP 12 (.len (.t 11)),
oP 13 (.move (.c (.int .i64 0)))])
def jf.r3:ACode:=(.region none [oP 14 (.bin .lss (.t 13) (.t 12))])
def jf.r4:ACode:=(.region none [oP 15 (.indexAddr none 1 (.t 11) (.t 13)),
oP 16 (.load none (.t 15)),
oM 7 16])
def jf.r5:ACode:=(.region none [oM 17 5,
oM 18 7,
oP 19 (.len (.t 18)),
oP 20 (.buildSlice 1 1 [.int .i64 0] [(0,1, .t 19)]),
oP 21 (.append 1 8 (.t 17) (.t 20)),
oM 5 21])
def jf.r6:ACode:=(.region none [oP 22 (.bin .add (.t 13) (.c (.int .i64 1))),
oM 13 22])
def jf.l0:ACode:=(.seq jf.r3 (.seq (.cond (.t 14) .skip (.exit 0)) (.seq (.block 1 (.seq jf.r4 jf.r5)) jf.r6)))
def jf.r7:ACode:=(.region none [oM 23 5,
oP 24 (.call 219 [.t 23]),
oM 4 24])
def jf:AFunc:=⟨[.tmp 4],(.seq jf.r0 (.seq jf.r1 (.seq (.seq jf.r2 (.block 0 (.loop jf.l0))) (.seq jf.r7 .ret))))⟩
def qP.r0:ACode:=(.region none [oP 1 (.box (.t 0)),
oP 2 (.alloc (List.replicate 16 (.int .u8 0)))])
def qP.r1:ACode:=(.region (some 10) [oP 3 (.fieldAddr 1 (.t 1)),
oP 4 (.load (some 16) (.t 3)),
oP 5 (.fieldAddr 17 (.t 1)),
oP 6 (.load (some 16) (.t 5)),
oP 7 (.fieldAddr 0 (.t 1)),
oP 8 (.load none (.t 7)),
oP 9 (.call 213 [.t 4, .t 6, .t 8]),
oP 10 (.fieldAddr 0 (.t 1)),
oP 11 (.load none (.t 10)),
oP 12 (.call 211 [.t 9, .t 11]),
⟨none, .store 16 (.t 2) (.t 12),none⟩])
def qP:AFunc:=⟨[.cell 2 (some 16)],(.seq qP.r0 (.seq qP.r1 .ret))⟩
def bf.r0:ACode:=(.region none [oP 10 (.move (.c (.bool true)))])
def bf.r1:ACode:=(.region none [oP 11 (.move (.c (.bool true)))])
def bf.r2:ACode:=(.region none [oM 21 2,
oM 22 1,
oP 23 (.bin .sub (.t 21) (.t 22)),
oM 12 23])
def bf.r3:ACode:=(.region none [oM 24 12,
oP 25 (.bin .leq (.t 24) (.c (.int .i64 12)))])
def bf.r4:ACode:=(.region none [oM 26 0,
oM 27 1,
oM 28 2,
oM 29 4,
oP 30 (.call 478 [.t 26, .t 27, .t 28, .t 29])])
def bf.r5:ACode:=(.region none [oM 31 3,
oP 32 (.bin .eql (.t 31) (.c (.int .i64 0)))])
def bf.r6:ACode:=(.region none [oM 33 0,
oM 34 1,
oM 35 2,
oM 36 4,
oP 37 (.call 479 [.t 33, .t 34, .t 35, .t 36])])
def bf.r7:ACode:=(.region none [oM 38 10,
oP 39 (.not (.t 38))])
def bf.r8:ACode:=(.region none [oM 40 0,
oM 41 1,
oM 42 2,
oM 43 4,
oP 44 (.call 480 [.t 40, .t 41, .t 42, .t 43])])
def bf.r9:ACode:=(.region none [oM 45 3,
oP 46 (.bin .sub (.t 45) (.c (.int .i64 1))),
oM 3 46])
def bf.r10:ACode:=(.region none [oM 48 0,
oM 49 1,
oM 50 2,
oM 51 4,
oP 52 (.call 481 [.t 48, .t 49, .t 50, .t 51]),
oM 47 52,
oP 53 (.extract (.t 47) 0),
oP 54 (.extract (.t 47) 1),
oM 13 53,
oM 14 54])
def bf.r11:ACode:=(.region none [oM 55 14,
oP 56 (.bin .eql (.t 55) (.c (.int .i64 2)))])
def bf.r12:ACode:=(.region none [oM 57 0,
oM 58 1,
oM 59 2,
oM 60 4,
oP 61 (.call 482 [.t 57, .t 58, .t 59, .t 60])])
def bf.r13:ACode:=(.region none [oM 62 2,
oP 63 (.bin .sub (.t 62) (.c (.int .i64 1))),
oM 64 13,
oM 65 1,
oP 66 (.bin .sub (.t 64) (.t 65)),
oP 67 (.bin .sub (.t 63) (.t 66)),
oM 13 67])
def bf.iq:ACode:=(.region none [oP 14 (.move (.c (.int .i64 1)))])
def bf.kC:ACode:=(.region none [oM 68 10,
oM 69 68,
⟨some 70, .move (.t 11),some (69,true)⟩,
oP 71 (.pick (.t 69) (.t 70) (.c (.bool false))),
oM 72 71,
⟨some 73, .move (.t 14),some (72,true)⟩,
⟨some 74, .bin .eql (.t 73) (.c (.int .i64 1)),some (72,true)⟩,
oP 75 (.pick (.t 72) (.t 74) (.c (.bool false)))])
def bf.r16:ACode:=(.region none [oM 76 0,
oM 77 1,
oM 78 2,
oM 79 4,
oP 80 (.call 483 [.t 76, .t 77, .t 78, .t 79])])
def bf.mF:ACode:=(.region (some 17) [oM 81 1,
oP 82 (.bin .gtr (.t 81) (.c (.int .i64 0))),
oM 83 82,
⟨some 84, .move (.t 4),some (83,true)⟩,
⟨some 85, .move (.t 0),some (83,true)⟩,
⟨some 86, .move (.t 1),some (83,true)⟩,
⟨some 87, .bin .sub (.t 86) (.c (.int .i64 1)),some (83,true)⟩,
⟨some 88, .indexAddr none 1 (.t 85) (.t 87),some (83,true)⟩,
⟨some 89, .load none (.t 88),some (83,true)⟩,
⟨some 90, .move (.t 0),some (83,true)⟩,
⟨some 91, .move (.t 13),some (83,true)⟩,
⟨some 92, .indexAddr none 1 (.t 90) (.t 91),some (83,true)⟩,
⟨some 93, .load none (.t 92),some (83,true)⟩,
⟨some 94, .callv (.t 84) [.t 89, .t 93],some (83,true)⟩,
⟨some 95, .bin .lss (.t 94) (.c (.int .i64 0)),some (83,true)⟩,
⟨some 96, .not (.t 95),some (83,true)⟩,
oP 97 (.pick (.t 83) (.t 96) (.c (.bool false)))])
def bf.pW:ACode:=(.region none [oM 98 0,
oM 99 1,
oM 100 2,
oM 101 13,
oM 102 4,
oP 103 (.call 484 [.t 98, .t 99, .t 100, .t 101, .t 102]),
oM 15 103])
def bf.pX:ACode:=(.region none [oM 104 15,
oM 1 104])
def bf.pY:ACode:=(.region none [oM 106 0,
oM 107 1,
oM 108 2,
oM 109 13,
oM 110 4,
oP 111 (.call 485 [.t 106, .t 107, .t 108, .t 109, .t 110]),
oM 105 111,
oP 112 (.extract (.t 105) 0),
oP 113 (.extract (.t 105) 1),
oM 16 112,
oM 17 113])
def bf.qc:ACode:=(.region none [oM 114 17,
oM 11 114])
def bf.r22:ACode:=(.region none [oM 115 16,
oM 116 1,
oP 117 (.bin .sub (.t 115) (.t 116)),
oM 118 2,
oM 119 16,
oP 120 (.bin .sub (.t 118) (.t 119)),
oM 18 117,
oM 19 120])
def bf.yA:ACode:=(.region none [oM 121 12,
oP 122 (.bin .quo (.t 121) (.c (.int .i64 8))),
oM 20 122])
def bf.yB:ACode:=(.region none [oM 123 18,
oM 124 19,
oP 125 (.bin .lss (.t 123) (.t 124))])
def bf.r25:ACode:=(.region none [oM 126 18,
oM 127 20,
oP 128 (.bin .geq (.t 126) (.t 127)),
oM 10 128])
def bf.ET:ACode:=(.region none [oM 129 0,
oM 130 1,
oM 131 16,
oM 132 3,
oM 133 4,
oP 134 (.call 474 [.t 129, .t 130, .t 131, .t 132, .t 133])])
def bf.r27:ACode:=(.region none [oM 135 16,
oP 136 (.bin .add (.t 135) (.c (.int .i64 1))),
oM 1 136])
def bf.r28:ACode:=(.region none [oM 137 19,
oM 138 20,
oP 139 (.bin .geq (.t 137) (.t 138)),
oM 10 139])
def bf.EU:ACode:=(.region none [oM 140 0,
oM 141 16,
oP 142 (.bin .add (.t 141) (.c (.int .i64 1))),
oM 143 2,
oM 144 3,
oM 145 4,
oP 146 (.call 474 [.t 140, .t 142, .t 143, .t 144, .t 145])])
def bf.EW:ACode:=(.region none [oM 147 16,
oM 2 147])
def bf.l0:ACode:=(.block 1 (.seq bf.r2 (.seq (.seq bf.r3 (.cond (.t 25) (.seq bf.r4 .ret) .skip)) (.seq (.seq bf.r5 (.cond (.t 32) (.seq bf.r6 .ret) .skip)) (.seq (.seq bf.r7 (.cond (.t 39) (.seq bf.r8 bf.r9) .skip)) (.seq bf.r10 (.seq (.seq bf.r11 (.cond (.t 56) (.seq bf.r12 (.seq bf.r13 bf.iq)) .skip)) (.seq (.seq bf.kC (.cond (.t 75) (.seq bf.r16 (.cond (.t 80) .ret .skip)) .skip)) (.seq (.seq bf.mF (.cond (.t 97) (.seq bf.pW (.seq bf.pX (.exit 1))) .skip)) (.seq bf.pY (.seq bf.qc (.seq bf.r22 (.seq bf.yA (.seq bf.yB (.cond (.t 125) (.seq bf.r25 (.seq bf.ET bf.r27)) (.seq bf.r28 (.seq bf.EU bf.EW)))))))))))))))))
def bf:AFunc:=⟨[],(.seq bf.r0 (.seq bf.r1 (.block 0 (.loop bf.l0))))⟩
def oQ.r0:ACode:=(.region none [oP 2 (.move (.c (.int .i64 0)))])
def oQ.r1:ACode:=(.region none [oM 3 0,
oP 4 (.conv .u32 (.t 3)),
oP 5 (.call 244 [.t 4]),
oM 2 5])
def oQ.r2:ACode:=(.region none [oM 6 0,
oP 7 (.call 245 [.t 6]),
oM 2 7])
def oQ:AFunc:=⟨[.tmp 2],(.seq oQ.r0 (.seq (.cond (.c (.bool false)) (.seq oQ.r1 .ret) .skip) (.seq oQ.r2 .ret)))⟩
def fD.r0:ACode:=(.region none [oP 6 (.move (.c (.int .i64 0)))])
def fD.r1:ACode:=(.region none [oM 11 0,
oP 12 (.len (.t 11)),
oP 13 (.move (.c (.int .i64 0)))])
def fD.r2:ACode:=(.region none [oP 14 (.bin .lss (.t 13) (.t 12))])
def fD.r3:ACode:=(.region none [oM 15 13,
oP 16 (.indexAddr none 1 (.t 11) (.t 13)),
oP 17 (.load none (.t 16)),
oM 7 15,
oM 8 17])
def fD.r4:ACode:=(.region none [oM 18 7,
oM 19 1,
oP 20 (.len (.t 19)),
oP 21 (.bin .geq (.t 18) (.t 20))])
def fD.r5:ACode:=(.region none [oP 6 (.move (.c (.int .i64 1)))])
def fD.r6:ACode:=(.region none [oM 22 1,
oM 23 7,
oP 24 (.indexAddr none 1 (.t 22) (.t 23)),
oP 25 (.load none (.t 24)),
oM 9 25])
def fD.r7:ACode:=(.region none [oM 26 2,
oM 27 8,
oM 28 9,
oP 29 (.callv (.t 26) [.t 27, .t 28]),
oM 10 29])
def fD.r8:ACode:=(.region none [oM 30 10,
oP 31 (.bin .neq (.t 30) (.c (.int .i64 0)))])
def fD.r9:ACode:=(.region none [oM 32 10,
oM 6 32])
def fD.r10:ACode:=(.region none [oP 33 (.bin .add (.t 13) (.c (.int .i64 1))),
oM 13 33])
def fD.l0:ACode:=(.seq fD.r2 (.seq (.cond (.t 14) .skip (.exit 0)) (.seq (.block 1 (.seq fD.r3 (.seq (.seq fD.r4 (.cond (.t 21) (.seq fD.r5 .ret) .skip)) (.seq fD.r6 (.seq fD.r7 (.seq fD.r8 (.cond (.t 31) (.seq fD.r9 .ret) .skip))))))) fD.r10)))
def fD.r11:ACode:=(.region none [oM 34 0,
oP 35 (.len (.t 34)),
oM 36 1,
oP 37 (.len (.t 36)),
oP 38 (.bin .lss (.t 35) (.t 37))])
def fD.r12:ACode:=(.region none [oP 6 (.move (.c (.int .i64 (-1))))])
def fD.r13:ACode:=(.region none [oP 6 (.move (.c (.int .i64 0)))])
def fD:AFunc:=⟨[.tmp 6],(.seq fD.r0 (.seq (.seq fD.r1 (.block 0 (.loop fD.l0))) (.seq (.seq fD.r11 (.cond (.t 38) (.seq fD.r12 .ret) .skip)) (.seq fD.r13 .ret))))⟩
def fE.r0:ACode:=(.region none [oP 4 (.move (.c (.int .i64 0)))])
def fE.r1:ACode:=(.region none [oM 9 0,
oP 10 (.len (.t 9)),
oP 11 (.move (.c (.int .i64 0)))])
def fE.r2:ACode:=(.region none [oP 12 (.bin .lss (.t 11) (.t 10))])
def fE.r3:ACode:=(.region none [oM 13 11,
oP 14 (.indexAddr none 1 (.t 9) (.t 11)),
oP 15 (.load none (.t 14)),
oM 5 13,
oM 6 15])
def fE.r4:ACode:=(.region none [oM 16 5,
oM 17 1,
oP 18 (.len (.t 17)),
oP 19 (.bin .geq (.t 16) (.t 18))])
def fE.r5:ACode:=(.region none [oP 4 (.move (.c (.int .i64 1)))])
def fE.r6:ACode:=(.region none [oM 20 1,
oM 21 5,
oP 22 (.indexAddr none 1 (.t 20) (.t 21)),
oP 23 (.load none (.t 22)),
oM 7 23])
def fE.r7:ACode:=(.region none [oM 24 6,
oM 25 7,
oP 26 (.call 486 [.t 24, .t 25]),
oM 8 26])
def fE.r8:ACode:=(.region none [oM 27 8,
oP 28 (.bin .neq (.t 27) (.c (.int .i64 0)))])
def fE.r9:ACode:=(.region none [oM 29 8,
oM 4 29])
def fE.r10:ACode:=(.region none [oP 30 (.bin .add (.t 11) (.c (.int .i64 1))),
oM 11 30])
def fE.l0:ACode:=(.seq fE.r2 (.seq (.cond (.t 12) .skip (.exit 0)) (.seq (.block 1 (.seq fE.r3 (.seq (.seq fE.r4 (.cond (.t 19) (.seq fE.r5 .ret) .skip)) (.seq fE.r6 (.seq fE.r7 (.seq fE.r8 (.cond (.t 28) (.seq fE.r9 .ret) .skip))))))) fE.r10)))
def fE.r11:ACode:=(.region none [oM 31 0,
oP 32 (.len (.t 31)),
oM 33 1,
oP 34 (.len (.t 33)),
oP 35 (.bin .lss (.t 32) (.t 34))])
def fE.r12:ACode:=(.region none [oP 4 (.move (.c (.int .i64 (-1))))])
def fE.r13:ACode:=(.region none [oP 4 (.move (.c (.int .i64 0)))])
def fE:AFunc:=⟨[.tmp 4],(.seq fE.r0 (.seq (.seq fE.r1 (.block 0 (.loop fE.l0))) (.seq (.seq fE.r11 (.cond (.t 35) (.seq fE.r12 .ret) .skip)) (.seq fE.r13 .ret))))⟩
def jg.r0:ACode:=(.region none [oP 4 (.move (.c (.int .i64 0)))])
def jg.r1:ACode:=(.region none [oP 5 (.move (.c (.int .i64 0)))])
def jg.r2:ACode:=(.region none [oM 6 5,
oM 7 0,
oP 8 (.len (.t 7)),
oP 9 (.bin .lss (.t 6) (.t 8))])
def jg.r4:ACode:=(.region none [oM 12 0,
oM 13 5,
oP 14 (.indexAddr none 1 (.t 12) (.t 13)),
oP 15 (.load none (.t 14)),
oM 16 1,
oP 17 (.bin .neq (.t 15) (.t 16))])
def jg.r5:ACode:=(.region none [oP 4 (.move (.c (.int .i64 (-1))))])
def jg.r6:ACode:=(.region none [oM 18 1,
oP 19 (.bin .add (.t 18) (.c (.int .i64 1))),
oM 1 19])
def jg.r3:ACode:=(.region none [oM 10 5,
oP 11 (.bin .add (.t 10) (.c (.int .i64 1))),
oM 5 11])
def jg.l0:ACode:=(.seq (.seq jg.r2 (.cond (.t 9) .skip (.exit 0))) (.seq (.block 1 (.seq (.seq jg.r4 (.cond (.t 17) (.seq jg.r5 .ret) .skip)) jg.r6)) jg.r3))
def jg.r7:ACode:=(.region none [oM 20 1,
oM 4 20])
def jg:AFunc:=⟨[.tmp 4],(.seq jg.r0 (.seq (.seq jg.r1 (.block 0 (.loop jg.l0))) (.seq jg.r7 .ret)))⟩
def qQ.r0:ACode:=(.region none [oP 1 (.box (.t 0)),
oP 2 (.move (.c (.bool false)))])
def qQ.r1:ACode:=(.region (some 12) [oP 3 (.fieldAddr 0 (.t 1)),
oP 4 (.load none (.t 3)),
oP 5 (.fieldAddr 1 (.t 1)),
oP 6 (.load (some 16) (.t 5)),
oP 7 (.fieldAddr 17 (.t 1)),
oP 8 (.load (some 16) (.t 7)),
oP 9 (.buildSlice 16 2 (List.replicate 16 (.int .u8 0)) [(0,16, .t 6),(16,16, .t 8)]),
oP 10 (.call 210 [.t 4, .t 9]),
oP 11 (.fieldAddr 0 (.t 1)),
oP 12 (.load none (.t 11)),
oP 13 (.bin .eql (.t 10) (.t 12)),
oM 2 13])
def qQ:AFunc:=⟨[.tmp 2],(.seq qQ.r0 (.seq qQ.r1 .ret))⟩
def lC.r0:ACode:=(.region none [oP 2 (.box (.t 0)),
oP 3 (.box (.t 1)),
oP 4 (.move (.c (.int .i64 0)))])
def lC.r1:ACode:=(.region none [oP 6 (.fieldAddr 1 (.t 2)),
oP 7 (.load (some 16) (.t 6)),
oP 8 (.fieldAddr 1 (.t 3)),
oP 9 (.load (some 16) (.t 8)),
oP 10 (.call 222 [.t 7, .t 9]),
oM 5 10])
def lC.r2:ACode:=(.region none [oM 11 5,
oP 12 (.bin .neq (.t 11) (.c (.int .i64 0)))])
def lC.r3:ACode:=(.region none [oM 13 5,
oM 4 13])
def lC.r4:ACode:=(.region none [oP 14 (.fieldAddr 17 (.t 2)),
oP 15 (.load (some 16) (.t 14)),
oP 16 (.fieldAddr 17 (.t 3)),
oP 17 (.load (some 16) (.t 16)),
oP 18 (.call 222 [.t 15, .t 17]),
oM 4 18])
def lC:AFunc:=⟨[.tmp 4],(.seq lC.r0 (.seq (.seq lC.r1 (.seq lC.r2 (.cond (.t 12) (.seq lC.r3 .ret) .skip))) (.seq lC.r4 .ret)))⟩
def dP.r0:ACode:=(.region none [oP 4 (.move (.c (.int .i64 0)))])
def dP.r1:ACode:=(.region none [oP 11 (.build (List.replicate 16 (.bool false)) [(0,1,(.c (.bool true)))]),
oP 5 (.alloc (List.replicate 16 (.bool false))),
⟨none, .store 16 (.t 5) (.t 11),none⟩])
def dP.r2:ACode:=(.region none [oP 12 (.buildSlice 1 1 [.int .u8 0] [(0,1,(.c (.int .u8 0)))]),
oM 6 12])
def dP.r3:ACode:=(.region none [oP 7 (.move (.c (.int .i64 0)))])
def dP.r4:ACode:=(.region none [oM 13 7,
oM 14 6,
oP 15 (.len (.t 14)),
oP 16 (.bin .lss (.t 13) (.t 15))])
def dP.r6:ACode:=(.region none [oM 19 1,
oP 20 (.len (.t 19)),
oP 21 (.move (.c (.int .i64 0)))])
def dP.r7:ACode:=(.region none [oP 22 (.bin .lss (.t 21) (.t 20))])
def dP.r8:ACode:=(.region none [oP 23 (.indexAddr none 16 (.t 19) (.t 21)),
oP 24 (.load (some 16) (.t 23)),
oP 9 (.alloc (List.replicate 16 (.int .u8 0))),
⟨none, .store 16 (.t 9) (.t 24),none⟩])
def dP.r9:ACode:=(.region none [oM 25 6,
oM 26 7,
oP 27 (.indexAddr none 1 (.t 25) (.t 26)),
oP 28 (.load none (.t 27)),
oP 29 (.indexAddr (some 16) 1 (.t 9) (.t 28)),
oP 30 (.load none (.t 29)),
oM 10 30])
def dP.r10:ACode:=(.region none [oM 31 10,
oP 32 (.indexAddr (some 16) 1 (.t 5) (.t 31)),
oP 33 (.load none (.t 32)),
oP 34 (.not (.t 33))])
def dP.r11:ACode:=(.region none [oM 35 10,
oP 36 (.indexAddr (some 16) 1 (.t 5) (.t 35)),
⟨none, .store 1 (.t 36) (.c (.bool true)),none⟩])
def dP.r12:ACode:=(.region none [oM 37 6,
oM 38 10,
oP 39 (.buildSlice 1 1 [.int .u8 0] [(0,1, .t 38)]),
oP 40 (.append 1 1 (.t 37) (.t 39)),
oM 6 40])
def dP.r13:ACode:=(.region none [oP 41 (.bin .add (.t 21) (.c (.int .i64 1))),
oM 21 41])
def dP.l0:ACode:=(.seq dP.r7 (.seq (.cond (.t 22) .skip (.exit 2)) (.seq (.block 3 (.seq dP.r8 (.seq dP.r9 (.seq dP.r10 (.cond (.t 34) (.seq dP.r11 dP.r12) .skip))))) dP.r13)))
def dP.r5:ACode:=(.region none [oM 17 7,
oP 18 (.bin .add (.t 17) (.c (.int .i64 1))),
oM 7 18])
def dP.l1:ACode:=(.seq (.seq dP.r4 (.cond (.t 16) .skip (.exit 0))) (.seq (.block 1 (.seq dP.r6 (.block 2 (.loop dP.l0)))) dP.r5))
def dP.iq:ACode:=(.region none [oM 42 6,
oP 43 (.len (.t 42)),
oM 4 43])
def dP:AFunc:=⟨[.tmp 4],(.seq dP.r0 (.seq dP.r1 (.seq dP.r2 (.seq (.seq dP.r3 (.block 0 (.loop dP.l1))) (.seq dP.iq .ret)))))⟩
def iP.r0:ACode:=(.region none [oP 2 (.box (.t 0)),
oP 3 (.box (.t 1)),
oP 4 (.alloc ([.int .i64 0]++List.replicate 32 (.int .u8 0)))])
def iP.r1:ACode:=(.region none [oP 7 (.fieldAddr 0 (.t 2)),
oP 8 (.load none (.t 7)),
oP 9 (.build ([.int .i64 0]++List.replicate 32 (.int .u8 0)) [(0,1, .t 8)]),
oP 5 (.alloc ([.int .i64 0]++List.replicate 32 (.int .u8 0))),
⟨none, .store 33 (.t 5) (.t 9),none⟩])
def iP.r2:ACode:=(.region none [oP 10 (.fieldAddr 0 (.t 2)),
oP 11 (.load none (.t 10)),
oP 12 (.move (.c (.int .i64 0)))])
def iP.r3:ACode:=(.region none [oP 13 (.bin .lss (.t 12) (.t 11))])
def iP.r4:ACode:=(.region none [oM 14 12,
oM 6 14])
def iP.r5:ACode:=(.region (some 11) [oM 15 6,
oP 16 (.indexAddr (some 16) 1 (.t 3) (.t 15)),
oP 17 (.load none (.t 16)),
oM 18 6,
oP 19 (.fieldAddr 1 (.t 2)),
oP 20 (.indexAddr (some 16) 1 (.t 19) (.t 18)),
oP 21 (.load none (.t 20)),
oP 22 (.indexAddr (some 16) 1 (.t 3) (.t 21)),
oP 23 (.load none (.t 22)),
oP 24 (.fieldAddr 1 (.t 5)),
oP 25 (.indexAddr (some 16) 1 (.t 24) (.t 17)),
⟨none, .store 1 (.t 25) (.t 23),none⟩])
def iP.r6:ACode:=(.region (some 11) [oM 26 6,
oP 27 (.indexAddr (some 16) 1 (.t 3) (.t 26)),
oP 28 (.load none (.t 27)),
oM 29 6,
oP 30 (.fieldAddr 17 (.t 2)),
oP 31 (.indexAddr (some 16) 1 (.t 30) (.t 29)),
oP 32 (.load none (.t 31)),
oP 33 (.indexAddr (some 16) 1 (.t 3) (.t 32)),
oP 34 (.load none (.t 33)),
oP 35 (.fieldAddr 17 (.t 5)),
oP 36 (.indexAddr (some 16) 1 (.t 35) (.t 28)),
⟨none, .store 1 (.t 36) (.t 34),none⟩])
def iP.r7:ACode:=(.region none [oP 37 (.bin .add (.t 12) (.c (.int .i64 1))),
oM 12 37])
def iP.l0:ACode:=(.seq iP.r3 (.seq (.cond (.t 13) .skip (.exit 0)) (.seq (.block 1 (.seq iP.r4 (.seq iP.r5 iP.r6))) iP.r7)))
def iP.r8:ACode:=(.region none [oP 38 (.load (some 33) (.t 5)),
⟨none, .store 33 (.t 4) (.t 38),none⟩])
def iP:AFunc:=⟨[.cell 4 (some 33)],(.seq iP.r0 (.seq iP.r1 (.seq (.seq iP.r2 (.block 0 (.loop iP.l0))) (.seq iP.r8 .ret))))⟩
def jh.r0:ACode:=(.region none [oP 2 (.box (.t 0)),
oP 4 (.alloc (List.replicate 16 (.int .u8 0)))])
def jh.r1:ACode:=(.region none [oP 8 (.build (List.replicate 16 (.int .u8 0)) []),
oP 5 (.alloc (List.replicate 16 (.int .u8 0))),
⟨none, .store 16 (.t 5) (.t 8),none⟩])
def jh.r2:ACode:=(.region none [oP 9 (.load (some 33) (.t 2)),
oM 10 1,
oP 11 (.call 221 [.t 9, .t 10]),
oP 12 (.len (.t 11)),
oP 13 (.move (.c (.int .i64 0)))])
def jh.r3:ACode:=(.region none [oP 14 (.bin .lss (.t 13) (.t 12))])
def jh.r4:ACode:=(.region none [oM 15 13,
oP 16 (.indexAddr none 1 (.t 11) (.t 13)),
oP 17 (.load none (.t 16)),
oM 6 15,
oM 7 17])
def jh.r5:ACode:=(.region none [oM 18 7,
oM 19 6,
oP 20 (.conv .u8 (.t 19)),
oP 21 (.indexAddr (some 16) 1 (.t 5) (.t 18)),
⟨none, .store 1 (.t 21) (.t 20),none⟩])
def jh.r6:ACode:=(.region none [oP 22 (.bin .add (.t 13) (.c (.int .i64 1))),
oM 13 22])
def jh.l0:ACode:=(.seq jh.r3 (.seq (.cond (.t 14) .skip (.exit 0)) (.seq (.block 1 (.seq jh.r4 jh.r5)) jh.r6)))
def jh.r7:ACode:=(.region none [oP 23 (.load (some 16) (.t 5)),
⟨none, .store 16 (.t 4) (.t 23),none⟩])
def jh:AFunc:=⟨[.cell 4 (some 16)],(.seq jh.r0 (.seq jh.r1 (.seq (.seq jh.r2 (.block 0 (.loop jh.l0))) (.seq jh.r7 .ret))))⟩
def qR.r0:ACode:=(.region none [oP 2 (.move (.c (.slice none 0 0)))])
def qR.r1:ACode:=(.region none [oP 3 (.buildSlice 1 0 [.int .i64 0] []),
oM 4 0,
oP 5 (.append 1 8 (.t 3) (.t 4)),
oM 2 5])
def qR:AFunc:=⟨[.tmp 2],(.seq qR.r0 (.seq qR.r1 .ret))⟩
def qU.r0:ACode:=(.region none [oP 1 (.box (.t 0)),
oP 2 (.move (.c (.bool false)))])
def qU.r1:ACode:=(.region none [oP 3 (.fieldAddr 1 (.t 1)),
oP 4 (.load (some 16) (.t 3)),
oP 5 (.fieldAddr 0 (.t 1)),
oP 6 (.load none (.t 5)),
oP 7 (.call 206 [.t 4, .t 6]),
oM 8 7,
⟨some 9, .fieldAddr 17 (.t 1),some (8,true)⟩,
⟨some 10, .load (some 16) (.t 9),some (8,true)⟩,
⟨some 11, .fieldAddr 0 (.t 1),some (8,true)⟩,
⟨some 12, .load none (.t 11),some (8,true)⟩,
⟨some 13, .call 206 [.t 10, .t 12],some (8,true)⟩,
oP 14 (.pick (.t 8) (.t 13) (.c (.bool false))),
oM 15 14,
⟨some 16, .fieldAddr 0 (.t 1),some (15,true)⟩,
⟨some 17, .load none (.t 16),some (15,true)⟩,
⟨some 18, .fieldAddr 1 (.t 1),some (15,true)⟩,
⟨some 19, .load (some 16) (.t 18),some (15,true)⟩,
⟨some 20, .fieldAddr 17 (.t 1),some (15,true)⟩,
⟨some 21, .load (some 16) (.t 20),some (15,true)⟩,
⟨some 22, .call 207 [.t 17, .t 19, .t 21],some (15,true)⟩,
oP 23 (.pick (.t 15) (.t 22) (.c (.bool false))),
oM 2 23])
def qU:AFunc:=⟨[.tmp 2],(.seq qU.r0 (.seq qU.r1 .ret))⟩
def gu.r0:ACode:=(.region none [oP 3 (.box (.t 1)),
oP 4 (.move (.c (.slice none 0 0)))])
def gu.r1:ACode:=(.region none [oM 9 0,
oP 10 (.len (.t 9)),
oP 5 (.move (.c (.int .i64 0))),
oM 6 10])
def gu.r2:ACode:=(.region none [oM 11 5,
oM 12 6,
oP 13 (.bin .lss (.t 11) (.t 12))])
def gu.r3:ACode:=(.region none [oM 14 5,
oM 15 6,
oP 16 (.bin .add (.t 14) (.t 15)),
oP 17 (.bin .quo (.t 16) (.c (.int .i64 2))),
oM 7 17])
def gu.r4:ACode:=(.region (some 6) [oM 18 0,
oM 19 7,
oP 20 (.indexAddr none 33 (.t 18) (.t 19)),
oP 21 (.load (some 33) (.t 20)),
oP 22 (.load (some 33) (.t 3)),
oP 23 (.call 375 [.t 21, .t 22])])
def gu.r5:ACode:=(.region none [oM 24 7,
oP 25 (.bin .add (.t 24) (.c (.int .i64 1))),
oM 5 25])
def gu.r6:ACode:=(.region none [oM 26 7,
oM 6 26])
def gu.l0:ACode:=(.seq (.seq gu.r2 (.cond (.t 13) .skip (.exit 0))) (.block 1 (.seq gu.r3 (.seq gu.r4 (.cond (.t 23) gu.r5 gu.r6)))))
def gu.r7:ACode:=(.region (some 12) [oM 27 5,
oM 28 0,
oP 29 (.len (.t 28)),
oP 30 (.bin .lss (.t 27) (.t 29)),
oM 31 30,
⟨some 32, .move (.t 0),some (31,true)⟩,
⟨some 33, .move (.t 5),some (31,true)⟩,
⟨some 34, .indexAddr none 33 (.t 32) (.t 33),some (31,true)⟩,
⟨some 35, .load (some 33) (.t 34),some (31,true)⟩,
⟨some 36, .load (some 33) (.t 3),some (31,true)⟩,
⟨some 37, .eqa false 33 (.t 35) (.t 36),some (31,true)⟩,
oP 38 (.pick (.t 31) (.t 37) (.c (.bool false)))])
def gu.r8:ACode:=(.region none [oM 39 0,
oM 4 39])
def gu.r9:ACode:=(.region (some 5) [oP 40 (.load (some 33) (.t 3)),
oP 41 (.buildSlice 33 1 ([.int .i64 0]++List.replicate 32 (.int .u8 0)) [(0,33, .t 40)]),
oM 42 0,
oM 43 5,
oP 44 (.slice 33 (.t 42) (some (.t 43)) none),
oP 45 (.append 33 40 (.t 41) (.t 44)),
oM 8 45])
def gu.r10:ACode:=(.region none [oP 46 (.buildSlice 33 0 ([.int .i64 0]++List.replicate 32 (.int .u8 0)) []),
oM 47 0,
oM 48 5,
oP 49 (.slice 33 (.t 47) none (some (.t 48))),
oP 50 (.append 33 40 (.t 46) (.t 49)),
oM 51 8,
oP 52 (.append 33 40 (.t 50) (.t 51)),
oM 4 52])
def gu:AFunc:=⟨[.tmp 4],(.seq gu.r0 (.seq gu.r1 (.seq (.block 0 (.loop gu.l0)) (.seq (.seq gu.r7 (.cond (.t 38) (.seq gu.r8 .ret) .skip)) (.seq gu.r9 (.seq gu.r10 .ret))))))⟩
def iQ.r0:ACode:=(.region none [oP 1 (.box (.t 0)),
oP 2 (.alloc ([.int .i64 0]++List.replicate 32 (.int .u8 0)))])
def iQ.r1:ACode:=(.region (some 5) [oP 6 (.load (some 33) (.t 1)),
oP 7 (.load (some 33) (.t 1)),
oP 8 (.call 358 [.t 7,(.c (.int .i64 0))]),
oP 9 (.call 357 [.t 6, .t 8]),
oP 3 (.alloc ([.int .i64 0]++List.replicate 32 (.int .u8 0))),
⟨none, .store 33 (.t 3) (.t 9),none⟩])
def iQ.r2:ACode:=(.region none [oP 4 (.move (.c (.int .i64 1)))])
def iQ.r3:ACode:=(.region none [oM 10 4,
oP 11 (.fieldAddr 0 (.t 1)),
oP 12 (.load none (.t 11)),
oP 13 (.bin .lss (.t 10) (.t 12))])
def iQ.r5:ACode:=(.region (some 6) [oP 16 (.load (some 33) (.t 1)),
oP 17 (.load (some 33) (.t 1)),
oM 18 4,
oP 19 (.call 358 [.t 17, .t 18]),
oP 20 (.call 357 [.t 16, .t 19]),
oP 5 (.alloc ([.int .i64 0]++List.replicate 32 (.int .u8 0))),
⟨none, .store 33 (.t 5) (.t 20),none⟩])
def iQ.r6:ACode:=(.region none [oP 21 (.load (some 33) (.t 5)),
oP 22 (.load (some 33) (.t 3)),
oP 23 (.call 375 [.t 21, .t 22])])
def iQ.r7:ACode:=(.region none [oP 24 (.load (some 33) (.t 5)),
⟨none, .store 33 (.t 3) (.t 24),none⟩])
def iQ.r4:ACode:=(.region none [oM 14 4,
oP 15 (.bin .add (.t 14) (.c (.int .i64 1))),
oM 4 15])
def iQ.l0:ACode:=(.seq (.seq iQ.r3 (.cond (.t 13) .skip (.exit 0))) (.seq (.block 1 (.seq iQ.r5 (.seq iQ.r6 (.cond (.t 23) iQ.r7 .skip)))) iQ.r4))
def iQ.r8:ACode:=(.region none [oP 25 (.load (some 33) (.t 3)),
⟨none, .store 33 (.t 2) (.t 25),none⟩])
def iQ:AFunc:=⟨[.cell 2 (some 33)],(.seq iQ.r0 (.seq iQ.r1 (.seq (.seq iQ.r2 (.block 0 (.loop iQ.l0))) (.seq iQ.r8 .ret))))⟩
def qV.r0:ACode:=(.region none [oP 1 (.box (.t 0)),
oP 2 (.move (.c (.slice none 0 0)))])
def qV.r1:ACode:=(.region (some 17) [oP 3 (.fieldAddr 1 (.t 1)),
oP 4 (.load (some 16) (.t 3)),
oP 5 (.fieldAddr 0 (.t 1)),
oP 6 (.load none (.t 5)),
oP 7 (.call 284 [.t 4, .t 6]),
oP 8 (.fieldAddr 17 (.t 1)),
oP 9 (.load (some 16) (.t 8)),
oP 10 (.fieldAddr 0 (.t 1)),
oP 11 (.load none (.t 10)),
oP 12 (.call 284 [.t 9, .t 11]),
oP 13 (.load (some 33) (.t 1)),
oP 14 (.call 192 [.t 13]),
oP 15 (.fieldAddr 0 (.t 1)),
oP 16 (.load none (.t 15)),
oP 17 (.call 284 [.t 14, .t 16]),
oP 18 (.buildSlice 1 3 [.slice none 0 0] [(0,1, .t 7),(1,1, .t 12),(2,1, .t 17)]),
oM 2 18])
def qV:AFunc:=⟨[.tmp 2],(.seq qV.r0 (.seq qV.r1 .ret))⟩
def gy.r0:ACode:=(.region none [oM 8 0,
oP 9 (.load none (.t 1)),
oP 10 (.bin .eql (.t 8) (.t 9))])
def gy.r1:ACode:=(.region none [oP 11 (.load none (.t 2)),
oP 12 (.load (some 16) (.t 3)),
oP 13 (.callv (.t 11) [.t 12])])
def gy.r2:ACode:=(.region none [oP 14 (.load none (.t 1)),
oP 15 (.move (.c (.int .i64 0)))])
def gy.r3:ACode:=(.region none [oP 16 (.bin .lss (.t 15) (.t 14))])
def gy.r4:ACode:=(.region none [oM 17 15,
oM 7 17])
def gy.r5:ACode:=(.region none [oM 18 7,
oP 19 (.indexAddr (some 16) 1 (.t 4) (.t 18)),
oP 20 (.load none (.t 19)),
oP 21 (.not (.t 20))])
def gy.r6:ACode:=(.region none [oM 22 7,
oP 23 (.indexAddr (some 16) 1 (.t 4) (.t 22)),
⟨none, .store 1 (.t 23) (.c (.bool true)),none⟩])
def gy.r7:ACode:=(.region none [oM 24 0,
oM 25 7,
oP 26 (.conv .u8 (.t 25)),
oP 27 (.indexAddr (some 16) 1 (.t 3) (.t 24)),
⟨none, .store 1 (.t 27) (.t 26),none⟩])
def gy.r8:ACode:=(.region none [oP 28 (.load none (.t 5)),
oM 29 0,
oP 30 (.bin .add (.t 29) (.c (.int .i64 1))),
oP 31 (.callv (.t 28) [.t 30])])
def gy.r9:ACode:=(.region none [oM 32 7,
oP 33 (.indexAddr (some 16) 1 (.t 4) (.t 32)),
⟨none, .store 1 (.t 33) (.c (.bool false)),none⟩])
def gy.r10:ACode:=(.region none [oP 34 (.bin .add (.t 15) (.c (.int .i64 1))),
oM 15 34])
def gy.l0:ACode:=(.seq gy.r3 (.seq (.cond (.t 16) .skip (.exit 0)) (.seq (.block 1 (.seq gy.r4 (.seq gy.r5 (.cond (.t 21) (.seq gy.r6 (.seq gy.r7 (.seq gy.r8 gy.r9))) .skip)))) gy.r10)))
def gy:AFunc:=⟨[],(.seq (.seq gy.r0 (.cond (.t 10) (.seq gy.r1 .ret) .skip)) (.seq gy.r2 (.block 0 (.loop gy.l0))))⟩
def dI.r0:ACode:=(.region none [oP 2 (.box (.t 0)),
oP 4 (.move (.c (.slice none 0 0)))])
def dI.r1:ACode:=(.region none [oP 10 (.buildSlice 1 0 [.slice none 0 0] []),
oM 5 10])
def dI.r2:ACode:=(.region none [oP 11 (.build (List.replicate 16 (.bool false)) []),
oP 6 (.alloc (List.replicate 16 (.bool false))),
⟨none, .store 16 (.t 6) (.t 11),none⟩])
def dI.r3:ACode:=(.region none [oM 12 1,
oP 13 (.move (.c (.int .i64 0)))])
def dI.r4:ACode:=(.region none [oP 14 (.bin .lss (.t 13) (.t 12))])
def dI.r5:ACode:=(.region none [oM 15 13,
oM 7 15])
def dI.r6:ACode:=(.region none [oM 16 7,
oP 17 (.indexAddr (some 16) 1 (.t 6) (.t 16)),
oP 18 (.load none (.t 17))])
def dI.r7:ACode:=(.region none [oP 19 (.buildSlice 1 0 [.int .i64 0] []),
oM 8 19])
def dI.r8:ACode:=(.region none [oM 20 7,
oM 9 20])
def dI.r9:ACode:=(.region none [oM 21 9,
oP 22 (.indexAddr (some 16) 1 (.t 6) (.t 21)),
oP 23 (.load none (.t 22)),
oP 24 (.not (.t 23))])
def dI.r11:ACode:=(.region none [oM 29 9,
oP 30 (.indexAddr (some 16) 1 (.t 6) (.t 29)),
⟨none, .store 1 (.t 30) (.c (.bool true)),none⟩])
def dI.r12:ACode:=(.region none [oM 31 8,
oM 32 9,
oP 33 (.buildSlice 1 1 [.int .i64 0] [(0,1, .t 32)]),
oP 34 (.append 1 8 (.t 31) (.t 33)),
oM 8 34])
def dI.r10:ACode:=(.region none [oM 25 9,
oP 26 (.indexAddr (some 16) 1 (.t 2) (.t 25)),
oP 27 (.load none (.t 26)),
oP 28 (.conv .i64 (.t 27)),
oM 9 28])
def dI.l0:ACode:=(.seq (.seq dI.r9 (.cond (.t 24) .skip (.exit 2))) (.seq (.block 3 (.seq dI.r11 dI.r12)) dI.r10))
def dI.r13:ACode:=(.region none [oM 35 5,
oM 36 8,
oP 37 (.buildSlice 1 1 [.slice none 0 0] [(0,1, .t 36)]),
oP 38 (.append 1 24 (.t 35) (.t 37)),
oM 5 38])
def dI.iq:ACode:=(.region none [oP 39 (.bin .add (.t 13) (.c (.int .i64 1))),
oM 13 39])
def dI.l1:ACode:=(.seq dI.r4 (.seq (.cond (.t 14) .skip (.exit 0)) (.seq (.block 1 (.seq dI.r5 (.seq (.seq dI.r6 (.cond (.t 18) (.exit 1) .skip)) (.seq dI.r7 (.seq (.seq dI.r8 (.block 2 (.loop dI.l0))) dI.r13))))) dI.iq)))
def dI.kC:ACode:=(.region none [oM 40 5,
oM 4 40])
def dI:AFunc:=⟨[.tmp 4],(.seq dI.r0 (.seq dI.r1 (.seq dI.r2 (.seq (.seq dI.r3 (.block 0 (.loop dI.l1))) (.seq dI.kC .ret)))))⟩
def mY.r0:ACode:=(.region none [oP 2 (.move (.c (.slice none 0 0)))])
def mY.r1:ACode:=(.region none [oM 3 0,
oP 4 (.call 224 [.t 3])])
def mY.r2:ACode:=(.region none [oM 5 0,
oP 6 (.call 225 [.t 5])])
def mY.r3:ACode:=(.region none [oM 7 0,
oM 2 7])
def mY:AFunc:=⟨[.tmp 2],(.seq mY.r0 (.seq mY.r1 (.seq mY.r2 (.seq mY.r3 .ret))))⟩
def ji.r0:ACode:=(.region none [oP 2 (.box (.t 0)),
oP 4 (.alloc (List.replicate 16 (.int .u8 0)))])
def ji.r1:ACode:=(.region none [oP 7 (.build (List.replicate 16 (.int .u8 0)) []),
oP 5 (.alloc (List.replicate 16 (.int .u8 0))),
⟨none, .store 16 (.t 5) (.t 7),none⟩])
def ji.r2:ACode:=(.region none [oM 8 1,
oP 9 (.move (.c (.int .i64 0)))])
def ji.r3:ACode:=(.region none [oP 10 (.bin .lss (.t 9) (.t 8))])
def ji.r4:ACode:=(.region none [oM 11 9,
oM 6 11])
def ji.r5:ACode:=(.region none [oM 12 6,
oP 13 (.indexAddr (some 16) 1 (.t 2) (.t 12)),
oP 14 (.load none (.t 13)),
oM 15 6,
oP 16 (.conv .u8 (.t 15)),
oP 17 (.indexAddr (some 16) 1 (.t 5) (.t 14)),
⟨none, .store 1 (.t 17) (.t 16),none⟩])
def ji.r6:ACode:=(.region none [oP 18 (.bin .add (.t 9) (.c (.int .i64 1))),
oM 9 18])
def ji.l0:ACode:=(.seq ji.r3 (.seq (.cond (.t 10) .skip (.exit 0)) (.seq (.block 1 (.seq ji.r4 ji.r5)) ji.r6)))
def ji.r7:ACode:=(.region none [oP 19 (.load (some 16) (.t 5)),
⟨none, .store 16 (.t 4) (.t 19),none⟩])
def ji:AFunc:=⟨[.cell 4 (some 16)],(.seq ji.r0 (.seq ji.r1 (.seq (.seq ji.r2 (.block 0 (.loop ji.l0))) (.seq ji.r7 .ret))))⟩
def jk.r0:ACode:=(.region none [oP 3 (.box (.t 0)),
oP 4 (.box (.t 1)),
oP 6 (.alloc (List.replicate 16 (.int .u8 0)))])
def jk.r1:ACode:=(.region none [oP 9 (.build (List.replicate 16 (.int .u8 0)) []),
oP 7 (.alloc (List.replicate 16 (.int .u8 0))),
⟨none, .store 16 (.t 7) (.t 9),none⟩])
def jk.r2:ACode:=(.region none [oM 10 2,
oP 11 (.move (.c (.int .i64 0)))])
def jk.r3:ACode:=(.region none [oP 12 (.bin .lss (.t 11) (.t 10))])
def jk.r4:ACode:=(.region none [oM 13 11,
oM 8 13])
def jk.r5:ACode:=(.region none [oM 14 8,
oM 15 8,
oP 16 (.indexAddr (some 16) 1 (.t 3) (.t 15)),
oP 17 (.load none (.t 16)),
oP 18 (.indexAddr (some 16) 1 (.t 4) (.t 17)),
oP 19 (.load none (.t 18)),
oP 20 (.indexAddr (some 16) 1 (.t 7) (.t 14)),
⟨none, .store 1 (.t 20) (.t 19),none⟩])
def jk.r6:ACode:=(.region none [oP 21 (.bin .add (.t 11) (.c (.int .i64 1))),
oM 11 21])
def jk.l0:ACode:=(.seq jk.r3 (.seq (.cond (.t 12) .skip (.exit 0)) (.seq (.block 1 (.seq jk.r4 jk.r5)) jk.r6)))
def jk.r7:ACode:=(.region none [oP 22 (.load (some 16) (.t 7)),
⟨none, .store 16 (.t 6) (.t 22),none⟩])
def jk:AFunc:=⟨[.cell 6 (some 16)],(.seq jk.r0 (.seq jk.r1 (.seq (.seq jk.r2 (.block 0 (.loop jk.l0))) (.seq jk.r7 .ret))))⟩
def jl.r0:ACode:=(.region none [oM 10 1,
oP 11 (.bin .add (.t 10) (.c (.int .i64 1))),
oM 8 11])
def jl.r1:ACode:=(.region none [oM 12 8,
oM 13 2,
oP 14 (.bin .lss (.t 12) (.t 13))])
def jl.r3:ACode:=(.region none [oM 17 8,
oM 9 17])
def jl.r4:ACode:=(.region (some 17) [oM 18 9,
oM 19 1,
oP 20 (.bin .gtr (.t 18) (.t 19)),
oM 21 20,
⟨some 22, .move (.t 3),some (21,true)⟩,
⟨some 23, .move (.t 0),some (21,true)⟩,
⟨some 24, .move (.t 9),some (21,true)⟩,
⟨some 25, .indexAddr none 1 (.t 23) (.t 24),some (21,true)⟩,
⟨some 26, .load none (.t 25),some (21,true)⟩,
⟨some 27, .move (.t 0),some (21,true)⟩,
⟨some 28, .move (.t 9),some (21,true)⟩,
⟨some 29, .bin .sub (.t 28) (.c (.int .i64 1)),some (21,true)⟩,
⟨some 30, .indexAddr none 1 (.t 27) (.t 29),some (21,true)⟩,
⟨some 31, .load none (.t 30),some (21,true)⟩,
⟨some 32, .callv (.t 22) [.t 26, .t 31],some (21,true)⟩,
⟨some 33, .bin .lss (.t 32) (.c (.int .i64 0)),some (21,true)⟩,
oP 34 (.pick (.t 21) (.t 33) (.c (.bool false)))])
def jl.r6:ACode:=(.region (some 15) [oM 37 0,
oM 38 9,
oM 39 0,
oM 40 9,
oP 41 (.bin .sub (.t 40) (.c (.int .i64 1))),
oM 42 0,
oM 43 9,
oP 44 (.bin .sub (.t 43) (.c (.int .i64 1))),
oP 45 (.indexAddr none 1 (.t 42) (.t 44)),
oP 46 (.load none (.t 45)),
oM 47 0,
oM 48 9,
oP 49 (.indexAddr none 1 (.t 47) (.t 48)),
oP 50 (.load none (.t 49)),
oP 51 (.indexAddr none 1 (.t 37) (.t 38)),
⟨none, .storeF 1 (.t 51) (.t 46) [],none⟩,
oP 52 (.indexAddr none 1 (.t 39) (.t 41)),
⟨none, .store 1 (.t 52) (.t 50),none⟩])
def jl.r5:ACode:=(.region none [oM 35 9,
oP 36 (.bin .sub (.t 35) (.c (.int .i64 1))),
oM 9 36])
def jl.l0:ACode:=(.seq (.seq jl.r4 (.cond (.t 34) .skip (.exit 2))) (.seq (.block 3 jl.r6) jl.r5))
def jl.r2:ACode:=(.region none [oM 15 8,
oP 16 (.bin .add (.t 15) (.c (.int .i64 1))),
oM 8 16])
def jl.l1:ACode:=(.seq (.seq jl.r1 (.cond (.t 14) .skip (.exit 0))) (.seq (.block 1 (.seq jl.r3 (.block 2 (.loop jl.l0)))) jl.r2))
def jl:AFunc:=⟨[],(.seq jl.r0 (.block 0 (.loop jl.l1)))⟩
def iG.r0:ACode:=(.region none [oP 2 (.move (.c (.int .i64 0)))])
def iG.r1:ACode:=(.region none [oM 3 0,
oP 4 (.bin .geq (.t 3) (.c (.int .u64 4294967296)))])
def iG.r2:ACode:=(.region none [oM 5 0,
oP 6 (.bin .shr (.t 5) (.c (.int .u64 32))),
oM 0 6])
def iG.r3:ACode:=(.region none [oP 2 (.move (.c (.int .i64 32)))])
def iG.r4:ACode:=(.region none [oM 7 0,
oP 8 (.bin .geq (.t 7) (.c (.int .u64 65536)))])
def iG.r5:ACode:=(.region none [oM 9 0,
oP 10 (.bin .shr (.t 9) (.c (.int .u64 16))),
oM 0 10])
def iG.r6:ACode:=(.region none [oM 11 2,
oP 12 (.bin .add (.t 11) (.c (.int .i64 16))),
oM 2 12])
def iG.r7:ACode:=(.region none [oM 13 0,
oP 14 (.bin .geq (.t 13) (.c (.int .u64 256)))])
def iG.r8:ACode:=(.region none [oM 15 0,
oP 16 (.bin .shr (.t 15) (.c (.int .u64 8))),
oM 0 16])
def iG.r9:ACode:=(.region none [oM 17 2,
oP 18 (.bin .add (.t 17) (.c (.int .i64 8))),
oM 2 18])
def iG.r10:ACode:=(.region none [oM 19 2,
oM 20 0,
oP 21 (.conv .u8 (.t 20)),
oP 22 (.indexStr (.c (.string ⟨#[0,1,2,2,3,3,3,3,4,4,4,4,4,4,4,4,5,5,5,5,5,5,5,5,5,5,5,5,5,5,5,5,6,6,6,6,6,6,6,6,6,6,6,6,6,6,6,6,6,6,6,6,6,6,6,6,6,6,6,6,6,6,6,6,7,7,7,7,7,7,7,7,7,7,7,7,7,7,7,7,7,7,7,7,7,7,7,7,7,7,7,7,7,7,7,7,7,7,7,7,7,7,7,7,7,7,7,7,7,7,7,7,7,7,7,7,7,7,7,7,7,7,7,7,7,7,7,7,8,8,8,8,8,8,8,8,8,8,8,8,8,8,8,8,8,8,8,8,8,8,8,8,8,8,8,8,8,8,8,8,8,8,8,8,8,8,8,8,8,8,8,8,8,8,8,8,8,8,8,8,8,8,8,8,8,8,8,8,8,8,8,8,8,8,8,8,8,8,8,8,8,8,8,8,8,8,8,8,8,8,8,8,8,8,8,8,8,8,8,8,8,8,8,8,8,8,8,8,8,8,8,8,8,8,8,8,8,8,8,8,8,8,8,8,8,8,8,8,8,8,8,8,8,8,8,8]⟩)) (.t 21)),
oP 23 (.conv .i64 (.t 22)),
oP 24 (.bin .add (.t 19) (.t 23)),
oM 2 24])
def iG:AFunc:=⟨[.tmp 2],(.seq iG.r0 (.seq (.seq iG.r1 (.cond (.t 4) (.seq iG.r2 iG.r3) .skip)) (.seq (.seq iG.r4 (.cond (.t 8) (.seq iG.r5 iG.r6) .skip)) (.seq (.seq iG.r7 (.cond (.t 14) (.seq iG.r8 iG.r9) .skip)) (.seq iG.r10 .ret)))))⟩
def fP.r0:ACode:=(.region none [oP 4 (.move (.c (.int .i64 0)))])
def fP.r1:ACode:=(.region none [oM 7 0,
oP 8 (.call 247 [.t 7]),
oM 5 8])
def fP.r2:ACode:=(.region none [oM 9 1,
oP 10 (.call 247 [.t 9]),
oM 6 10])
def fP.r3:ACode:=(.region none [oM 11 5])
def fP.r4:ACode:=(.region none [oM 12 6])
def fP.r5:ACode:=(.region none [oP 4 (.move (.c (.int .i64 0)))])
def fP.r6:ACode:=(.region none [oP 4 (.move (.c (.int .i64 (-1))))])
def fP.r7:ACode:=(.region none [oM 13 6])
def fP.r8:ACode:=(.region none [oP 4 (.move (.c (.int .i64 1)))])
def fP.r9:ACode:=(.region none [oM 14 0,
oM 15 1,
oP 16 (.bin .lss (.t 14) (.t 15))])
def fP.r10:ACode:=(.region none [oP 4 (.move (.c (.int .i64 (-1))))])
def fP.r11:ACode:=(.region none [oM 17 0,
oM 18 1,
oP 19 (.bin .gtr (.t 17) (.t 18))])
def fP.r12:ACode:=(.region none [oP 4 (.move (.c (.int .i64 1)))])
def fP.r13:ACode:=(.region none [oP 4 (.move (.c (.int .i64 0)))])
def fP:AFunc:=⟨[.tmp 4],(.seq fP.r0 (.seq fP.r1 (.seq fP.r2 (.seq (.seq fP.r3 (.cond (.t 11) (.seq (.seq fP.r4 (.cond (.t 12) (.seq fP.r5 .ret) .skip)) (.seq fP.r6 .ret)) .skip)) (.seq (.seq fP.r7 (.cond (.t 13) (.seq fP.r8 .ret) .skip)) (.seq (.seq fP.r9 (.cond (.t 16) (.seq fP.r10 .ret) .skip)) (.seq (.seq fP.r11 (.cond (.t 19) (.seq fP.r12 .ret) .skip)) (.seq fP.r13 .ret))))))))⟩
def pV.r0:ACode:=(.region none [oP 2 (.box (.t 0)),
oP 3 (.box (.t 1)),
oP 4 (.move (.c (.int .i64 0)))])
def pV.r1:ACode:=(.region (some 4) [oP 5 (.sliceArr 16 1 (.t 2) none none),
oP 6 (.sliceArr 16 1 (.t 3) none none),
oP 7 (.call 226 [.t 5, .t 6]),
oM 4 7])
def pV:AFunc:=⟨[.tmp 4],(.seq pV.r0 (.seq pV.r1 .ret))⟩
def dQ.r0:ACode:=(.region none [oP 2 (.box (.t 0)),
oP 4 (.move (.c (.slice none 0 0)))])
def dQ.r1:ACode:=(.region none [oP 10 (.build (List.replicate 16 (.bool false)) []),
oP 5 (.alloc (List.replicate 16 (.bool false))),
⟨none, .store 16 (.t 5) (.t 10),none⟩])
def dQ.r2:ACode:=(.region none [oM 11 1,
oP 12 (.indexAddr (some 16) 1 (.t 5) (.t 11)),
⟨none, .store 1 (.t 12) (.c (.bool true)),none⟩])
def dQ.r3:ACode:=(.region none [oM 13 1,
oP 14 (.conv .u8 (.t 13)),
oP 15 (.buildSlice 1 1 [.int .u8 0] [(0,1, .t 14)]),
oM 6 15])
def dQ.r4:ACode:=(.region none [oP 7 (.move (.c (.int .i64 0)))])
def dQ.r5:ACode:=(.region none [oM 16 7,
oM 17 6,
oP 18 (.len (.t 17)),
oP 19 (.bin .lss (.t 16) (.t 18))])
def dQ.r7:ACode:=(.region (some 17) [oM 22 6,
oM 23 7,
oP 24 (.indexAddr none 1 (.t 22) (.t 23)),
oP 25 (.load none (.t 24)),
oP 26 (.fieldAddr 1 (.t 2)),
oP 27 (.indexAddr (some 16) 1 (.t 26) (.t 25)),
oP 28 (.load none (.t 27)),
oM 29 6,
oM 30 7,
oP 31 (.indexAddr none 1 (.t 29) (.t 30)),
oP 32 (.load none (.t 31)),
oP 33 (.fieldAddr 17 (.t 2)),
oP 34 (.indexAddr (some 16) 1 (.t 33) (.t 32)),
oP 35 (.load none (.t 34)),
oP 36 (.buildSlice 1 2 [.int .u8 0] [(0,1, .t 28),(1,1, .t 35)]),
oP 37 (.len (.t 36)),
oP 38 (.move (.c (.int .i64 0)))])
def dQ.r8:ACode:=(.region none [oP 39 (.bin .lss (.t 38) (.t 37))])
def dQ.r9:ACode:=(.region none [oP 40 (.indexAddr none 1 (.t 36) (.t 38)),
oP 41 (.load none (.t 40)),
oM 9 41])
def dQ.r10:ACode:=(.region none [oM 42 9,
oP 43 (.indexAddr (some 16) 1 (.t 5) (.t 42)),
oP 44 (.load none (.t 43)),
oP 45 (.not (.t 44))])
def dQ.r11:ACode:=(.region none [oM 46 9,
oP 47 (.indexAddr (some 16) 1 (.t 5) (.t 46)),
⟨none, .store 1 (.t 47) (.c (.bool true)),none⟩])
def dQ.r12:ACode:=(.region none [oM 48 6,
oM 49 9,
oP 50 (.buildSlice 1 1 [.int .u8 0] [(0,1, .t 49)]),
oP 51 (.append 1 1 (.t 48) (.t 50)),
oM 6 51])
def dQ.r13:ACode:=(.region none [oP 52 (.bin .add (.t 38) (.c (.int .i64 1))),
oM 38 52])
def dQ.l0:ACode:=(.seq dQ.r8 (.seq (.cond (.t 39) .skip (.exit 2)) (.seq (.block 3 (.seq dQ.r9 (.seq dQ.r10 (.cond (.t 45) (.seq dQ.r11 dQ.r12) .skip)))) dQ.r13)))
def dQ.r6:ACode:=(.region none [oM 20 7,
oP 21 (.bin .add (.t 20) (.c (.int .i64 1))),
oM 7 21])
def dQ.l1:ACode:=(.seq (.seq dQ.r5 (.cond (.t 19) .skip (.exit 0))) (.seq (.block 1 (.seq dQ.r7 (.block 2 (.loop dQ.l0)))) dQ.r6))
def dQ.iq:ACode:=(.region none [oM 53 6,
oM 4 53])
def dQ:AFunc:=⟨[.tmp 4],(.seq dQ.r0 (.seq dQ.r1 (.seq dQ.r2 (.seq dQ.r3 (.seq (.seq dQ.r4 (.block 0 (.loop dQ.l1))) (.seq dQ.iq .ret))))))⟩
def fF.r0:ACode:=(.region none [oP 2 (.box (.t 0)),
oP 4 (.move (.c (.bool false)))])
def fF.r1:ACode:=(.region none [oM 7 1,
oP 8 (.call 58 [.t 7,(.c (.int .i64 1)),(.c (.int .i64 16))]),
oP 9 (.not (.t 8))])
def fF.r2:ACode:=(.region none [oP 4 (.move (.c (.bool false)))])
def fF.r3:ACode:=(.region none [oP 10 (.build (List.replicate 16 (.bool false)) []),
oP 5 (.alloc (List.replicate 16 (.bool false))),
⟨none, .store 16 (.t 5) (.t 10),none⟩])
def fF.r4:ACode:=(.region none [oP 6 (.move (.c (.int .i64 0)))])
def fF.r5:ACode:=(.region none [oM 11 6,
oP 12 (.bin .lss (.t 11) (.c (.int .i64 16)))])
def fF.r8:ACode:=(.region none [oM 20 6,
oM 21 1,
oP 22 (.bin .geq (.t 20) (.t 21)),
oM 19 22])
def fF.r9:ACode:=(.region none [oM 23 6,
oP 24 (.indexAddr (some 16) 1 (.t 2) (.t 23)),
oP 25 (.load none (.t 24)),
oP 26 (.bin .neq (.t 25) (.c (.int .u8 0)))])
def fF.r10:ACode:=(.region none [oP 4 (.move (.c (.bool false)))])
def fF.r11:ACode:=(.region none [oM 28 6,
oP 29 (.indexAddr (some 16) 1 (.t 2) (.t 28)),
oP 30 (.load none (.t 29)),
oP 31 (.conv .i64 (.t 30)),
oM 32 1,
oP 33 (.bin .geq (.t 31) (.t 32)),
oM 34 33,
⟨some 35, .move (.t 6),some (34,false)⟩,
⟨some 36, .indexAddr (some 16) 1 (.t 2) (.t 35),some (34,false)⟩,
⟨some 37, .load none (.t 36),some (34,false)⟩,
⟨some 38, .indexAddr (some 16) 1 (.t 5) (.t 37),some (34,false)⟩,
⟨some 39, .load none (.t 38),some (34,false)⟩,
oP 40 (.pick (.t 34) (.c (.bool true)) (.t 39)),
oM 27 40])
def fF.r12:ACode:=(.region none [oP 4 (.move (.c (.bool false)))])
def fF.r7:ACode:=(.region none [oM 15 6,
oP 16 (.indexAddr (some 16) 1 (.t 2) (.t 15)),
oP 17 (.load none (.t 16)),
oP 18 (.indexAddr (some 16) 1 (.t 5) (.t 17)),
⟨none, .store 1 (.t 18) (.c (.bool true)),none⟩])
def fF.r6:ACode:=(.region none [oM 13 6,
oP 14 (.bin .add (.t 13) (.c (.int .i64 1))),
oM 6 14])
def fF.l0:ACode:=(.seq (.seq fF.r5 (.cond (.t 12) .skip (.exit 0))) (.seq (.block 1 (.block 2 (.seq fF.r8 (.cond (.t 19) (.seq fF.r9 (.cond (.t 26) (.seq fF.r10 .ret) .skip)) (.seq fF.r11 (.cond (.t 27) (.seq fF.r12 .ret) fF.r7)))))) fF.r6))
def fF.r13:ACode:=(.region none [oP 4 (.move (.c (.bool true)))])
def fF:AFunc:=⟨[.tmp 4],(.seq fF.r0 (.seq (.seq fF.r1 (.cond (.t 9) (.seq fF.r2 .ret) .skip)) (.seq fF.r3 (.seq (.seq fF.r4 (.block 0 (.loop fF.l0))) (.seq fF.r13 .ret)))))⟩
def eu.r0:ACode:=(.region none [oP 4 (.box (.t 1)),
oP 5 (.box (.t 2)),
oP 6 (.move (.c (.bool false)))])
def eu.r1:ACode:=(.region none [oP 12 (.build (List.replicate 16 (.bool false)) []),
oP 13 (.buildSlice 1 1 [.int .u8 0] [(0,1,(.c (.int .u8 0)))]),
oP 7 (.alloc (List.replicate 16 (.bool false))),
⟨none, .store 16 (.t 7) (.t 12),none⟩,
oM 8 13])
def eu.r2:ACode:=(.region none [oP 14 (.indexAddr (some 16) 1 (.t 7) (.c (.int .i64 0))),
⟨none, .store 1 (.t 14) (.c (.bool true)),none⟩])
def eu.r3:ACode:=(.region none [oP 9 (.move (.c (.int .i64 0)))])
def eu.r4:ACode:=(.region none [oM 15 9,
oM 16 8,
oP 17 (.len (.t 16)),
oP 18 (.bin .lss (.t 15) (.t 17))])
def eu.r6:ACode:=(.region (some 14) [oM 21 8,
oM 22 9,
oP 23 (.indexAddr none 1 (.t 21) (.t 22)),
oP 24 (.load none (.t 23)),
oP 25 (.indexAddr (some 16) 1 (.t 4) (.t 24)),
oP 26 (.load none (.t 25)),
oM 27 8,
oM 28 9,
oP 29 (.indexAddr none 1 (.t 27) (.t 28)),
oP 30 (.load none (.t 29)),
oP 31 (.indexAddr (some 16) 1 (.t 5) (.t 30)),
oP 32 (.load none (.t 31)),
oP 33 (.buildSlice 1 2 [.int .u8 0] [(0,1, .t 26),(1,1, .t 32)]),
oM 10 33])
def eu.r7:ACode:=(.region none [oP 11 (.move (.c (.int .i64 0)))])
def eu.r8:ACode:=(.region none [oM 34 11,
oP 35 (.bin .lss (.t 34) (.c (.int .i64 2)))])
def eu.r10:ACode:=(.region none [oM 38 10,
oM 39 11,
oP 40 (.indexAddr none 1 (.t 38) (.t 39)),
oP 41 (.load none (.t 40)),
oP 42 (.indexAddr (some 16) 1 (.t 7) (.t 41)),
oP 43 (.load none (.t 42)),
oP 44 (.not (.t 43))])
def eu.r11:ACode:=(.region none [oM 45 10,
oM 46 11,
oP 47 (.indexAddr none 1 (.t 45) (.t 46)),
oP 48 (.load none (.t 47)),
oP 49 (.indexAddr (some 16) 1 (.t 7) (.t 48)),
⟨none, .store 1 (.t 49) (.c (.bool true)),none⟩])
def eu.r12:ACode:=(.region none [oM 50 8,
oM 51 10,
oM 52 11,
oP 53 (.indexAddr none 1 (.t 51) (.t 52)),
oP 54 (.load none (.t 53)),
oP 55 (.buildSlice 1 1 [.int .u8 0] [(0,1, .t 54)]),
oP 56 (.append 1 1 (.t 50) (.t 55)),
oM 8 56])
def eu.r9:ACode:=(.region none [oM 36 11,
oP 37 (.bin .add (.t 36) (.c (.int .i64 1))),
oM 11 37])
def eu.l0:ACode:=(.seq (.seq eu.r8 (.cond (.t 35) .skip (.exit 2))) (.seq (.block 3 (.seq eu.r10 (.cond (.t 44) (.seq eu.r11 eu.r12) .skip))) eu.r9))
def eu.r5:ACode:=(.region none [oM 19 9,
oP 20 (.bin .add (.t 19) (.c (.int .i64 1))),
oM 9 20])
def eu.l1:ACode:=(.seq (.seq eu.r4 (.cond (.t 18) .skip (.exit 0))) (.seq (.block 1 (.seq eu.r6 (.seq eu.r7 (.block 2 (.loop eu.l0))))) eu.r5))
def eu.r13:ACode:=(.region none [oM 57 8,
oP 58 (.len (.t 57)),
oM 59 0,
oP 60 (.bin .eql (.t 58) (.t 59)),
oM 6 60])
def eu:AFunc:=⟨[.tmp 6],(.seq eu.r0 (.seq eu.r1 (.seq eu.r2 (.seq (.seq eu.r3 (.block 0 (.loop eu.l1))) (.seq eu.r13 .ret)))))⟩
def mZ.r0:ACode:=(.region none [oP 2 (.box (.t 0)),
oP 3 (.box (.t 1)),
oP 4 (.move (.c (.bool false)))])
def mZ.r1:ACode:=(.region none [oP 5 (.fieldAddr 1 (.t 2)),
oP 6 (.load (some 16) (.t 5)),
oP 7 (.fieldAddr 1 (.t 3)),
oP 8 (.load (some 16) (.t 7)),
oP 9 (.eqa true 16 (.t 6) (.t 8))])
def mZ.r2:ACode:=(.region none [oP 10 (.fieldAddr 1 (.t 2)),
oP 11 (.load (some 16) (.t 10)),
oP 12 (.fieldAddr 1 (.t 3)),
oP 13 (.load (some 16) (.t 12)),
oP 14 (.call 389 [.t 11, .t 13]),
oM 4 14])
def mZ.r3:ACode:=(.region none [oP 15 (.fieldAddr 17 (.t 2)),
oP 16 (.load (some 16) (.t 15)),
oP 17 (.fieldAddr 17 (.t 3)),
oP 18 (.load (some 16) (.t 17)),
oP 19 (.call 389 [.t 16, .t 18]),
oM 4 19])
def mZ:AFunc:=⟨[.tmp 4],(.seq mZ.r0 (.seq (.seq mZ.r1 (.cond (.t 9) (.seq mZ.r2 .ret) .skip)) (.seq mZ.r3 .ret)))⟩
def jm.r0:ACode:=(.region none [oP 2 (.box (.t 0)),
oP 3 (.box (.t 1)),
oP 4 (.alloc ([.int .i64 0]++List.replicate 32 (.int .u8 0)))])
def jm.r1:ACode:=(.region none [oP 7 (.fieldAddr 0 (.t 2)),
oP 8 (.load none (.t 7)),
oP 9 (.build ([.int .i64 0]++List.replicate 32 (.int .u8 0)) [(0,1, .t 8)]),
oP 5 (.alloc ([.int .i64 0]++List.replicate 32 (.int .u8 0))),
⟨none, .store 33 (.t 5) (.t 9),none⟩])
def jm.r2:ACode:=(.region none [oP 6 (.move (.c (.int .i64 0)))])
def jm.r3:ACode:=(.region none [oM 10 6,
oP 11 (.fieldAddr 0 (.t 2)),
oP 12 (.load none (.t 11)),
oP 13 (.bin .lss (.t 10) (.t 12))])
def jm.r5:ACode:=(.region (some 11) [oM 16 6,
oP 17 (.indexAddr (some 16) 1 (.t 3) (.t 16)),
oP 18 (.load none (.t 17)),
oM 19 6,
oP 20 (.fieldAddr 1 (.t 2)),
oP 21 (.indexAddr (some 16) 1 (.t 20) (.t 19)),
oP 22 (.load none (.t 21)),
oP 23 (.indexAddr (some 16) 1 (.t 3) (.t 22)),
oP 24 (.load none (.t 23)),
oP 25 (.fieldAddr 1 (.t 5)),
oP 26 (.indexAddr (some 16) 1 (.t 25) (.t 18)),
⟨none, .store 1 (.t 26) (.t 24),none⟩])
def jm.r6:ACode:=(.region (some 11) [oM 27 6,
oP 28 (.indexAddr (some 16) 1 (.t 3) (.t 27)),
oP 29 (.load none (.t 28)),
oM 30 6,
oP 31 (.fieldAddr 17 (.t 2)),
oP 32 (.indexAddr (some 16) 1 (.t 31) (.t 30)),
oP 33 (.load none (.t 32)),
oP 34 (.indexAddr (some 16) 1 (.t 3) (.t 33)),
oP 35 (.load none (.t 34)),
oP 36 (.fieldAddr 17 (.t 5)),
oP 37 (.indexAddr (some 16) 1 (.t 36) (.t 29)),
⟨none, .store 1 (.t 37) (.t 35),none⟩])
def jm.r4:ACode:=(.region none [oM 14 6,
oP 15 (.bin .add (.t 14) (.c (.int .i64 1))),
oM 6 15])
def jm.l0:ACode:=(.seq (.seq jm.r3 (.cond (.t 13) .skip (.exit 0))) (.seq (.block 1 (.seq jm.r5 jm.r6)) jm.r4))
def jm.r7:ACode:=(.region none [oP 38 (.load (some 33) (.t 5)),
⟨none, .store 33 (.t 4) (.t 38),none⟩])
def jm:AFunc:=⟨[.cell 4 (some 33)],(.seq jm.r0 (.seq jm.r1 (.seq (.seq jm.r2 (.block 0 (.loop jm.l0))) (.seq jm.r7 .ret))))⟩
def bU.r0:ACode:=(.region none [oP 2 (.box (.t 0)),
oP 4 (.alloc (List.replicate 16 (.int .u8 0)))])
def bU.r1:ACode:=(.region none [oP 12 (.build (List.replicate 16 (.int .u8 0)) []),
oP 13 (.build (List.replicate 16 (.bool false)) []),
oM 14 1,
oP 15 (.conv .u8 (.t 14)),
oP 16 (.buildSlice 1 1 [.int .u8 0] [(0,1, .t 15)]),
oP 5 (.alloc (List.replicate 16 (.int .u8 0))),
oP 6 (.alloc (List.replicate 16 (.bool false))),
⟨none, .store 16 (.t 5) (.t 12),none⟩,
⟨none, .store 16 (.t 6) (.t 13),none⟩,
oM 7 16])
def bU.r2:ACode:=(.region none [oM 17 1,
oP 18 (.indexAddr (some 16) 1 (.t 6) (.t 17)),
⟨none, .store 1 (.t 18) (.c (.bool true)),none⟩])
def bU.r3:ACode:=(.region none [oP 8 (.move (.c (.int .i64 0)))])
def bU.r4:ACode:=(.region none [oM 19 8,
oM 20 7,
oP 21 (.len (.t 20)),
oP 22 (.bin .lss (.t 19) (.t 21))])
def bU.r6:ACode:=(.region none [oM 25 7,
oM 26 8,
oP 27 (.indexAddr none 1 (.t 25) (.t 26)),
oP 28 (.load none (.t 27)),
oM 9 28])
def bU.r7:ACode:=(.region none [oM 29 9,
oM 30 8,
oP 31 (.conv .u8 (.t 30)),
oP 32 (.indexAddr (some 16) 1 (.t 5) (.t 29)),
⟨none, .store 1 (.t 32) (.t 31),none⟩])
def bU.r8:ACode:=(.region none [oP 10 (.move (.c (.int .i64 0)))])
def bU.r9:ACode:=(.region none [oM 33 10,
oP 34 (.bin .lss (.t 33) (.c (.int .i64 2)))])
def bU.r11:ACode:=(.region none [oM 37 9,
oP 38 (.fieldAddr 1 (.t 2)),
oP 39 (.indexAddr (some 16) 1 (.t 38) (.t 37)),
oP 40 (.load none (.t 39)),
oM 11 40])
def bU.r12:ACode:=(.region none [oM 41 10,
oP 42 (.bin .eql (.t 41) (.c (.int .i64 1)))])
def bU.r13:ACode:=(.region none [oM 43 9,
oP 44 (.fieldAddr 17 (.t 2)),
oP 45 (.indexAddr (some 16) 1 (.t 44) (.t 43)),
oP 46 (.load none (.t 45)),
oM 11 46])
def bU.iq:ACode:=(.region none [oM 47 11,
oP 48 (.indexAddr (some 16) 1 (.t 6) (.t 47)),
oP 49 (.load none (.t 48)),
oP 50 (.not (.t 49))])
def bU.kC:ACode:=(.region none [oM 51 11,
oP 52 (.indexAddr (some 16) 1 (.t 6) (.t 51)),
⟨none, .store 1 (.t 52) (.c (.bool true)),none⟩])
def bU.r16:ACode:=(.region none [oM 53 7,
oM 54 11,
oP 55 (.buildSlice 1 1 [.int .u8 0] [(0,1, .t 54)]),
oP 56 (.append 1 1 (.t 53) (.t 55)),
oM 7 56])
def bU.r10:ACode:=(.region none [oM 35 10,
oP 36 (.bin .add (.t 35) (.c (.int .i64 1))),
oM 10 36])
def bU.l0:ACode:=(.seq (.seq bU.r9 (.cond (.t 34) .skip (.exit 2))) (.seq (.block 3 (.seq bU.r11 (.seq (.seq bU.r12 (.cond (.t 42) bU.r13 .skip)) (.seq bU.iq (.cond (.t 50) (.seq bU.kC bU.r16) .skip))))) bU.r10))
def bU.r5:ACode:=(.region none [oM 23 8,
oP 24 (.bin .add (.t 23) (.c (.int .i64 1))),
oM 8 24])
def bU.l1:ACode:=(.seq (.seq bU.r4 (.cond (.t 22) .skip (.exit 0))) (.seq (.block 1 (.seq bU.r6 (.seq bU.r7 (.seq bU.r8 (.block 2 (.loop bU.l0)))))) bU.r5))
def bU.mF:ACode:=(.region none [oP 57 (.load (some 16) (.t 5)),
⟨none, .store 16 (.t 4) (.t 57),none⟩])
def bU:AFunc:=⟨[.cell 4 (some 16)],(.seq bU.r0 (.seq bU.r1 (.seq bU.r2 (.seq (.seq bU.r3 (.block 0 (.loop bU.l1))) (.seq bU.mF .ret)))))⟩
def qW.r0:ACode:=(.region none [oM 3 0,
oP 4 (.len (.t 3)),
oM 2 4])
def qW.r1:ACode:=(.region none [oM 5 0,
oM 6 2,
oM 7 2,
oP 8 (.conv .u64 (.t 7)),
oP 9 (.call 227 [.t 8]),
oP 10 (.call 228 [.t 5,(.c (.int .i64 0)), .t 6, .t 9])])
def qW:AFunc:=⟨[],(.seq qW.r0 qW.r1)⟩
def lF.r0:ACode:=(.region none [oM 4 0,
oP 5 (.len (.t 4)),
oP 6 (.bin .sub (.t 5) (.c (.int .i64 1))),
oP 2 (.move (.c (.int .i64 0))),
oM 3 6])
def lF.r1:ACode:=(.region none [oM 7 2,
oM 8 3,
oP 9 (.bin .lss (.t 7) (.t 8))])
def lF.r3:ACode:=(.region (some 13) [oM 14 0,
oM 15 2,
oM 16 0,
oM 17 3,
oM 18 0,
oM 19 3,
oP 20 (.indexAddr none 1 (.t 18) (.t 19)),
oP 21 (.load none (.t 20)),
oM 22 0,
oM 23 2,
oP 24 (.indexAddr none 1 (.t 22) (.t 23)),
oP 25 (.load none (.t 24)),
oP 26 (.indexAddr none 1 (.t 14) (.t 15)),
⟨none, .storeF 1 (.t 26) (.t 21) [],none⟩,
oP 27 (.indexAddr none 1 (.t 16) (.t 17)),
⟨none, .store 1 (.t 27) (.t 25),none⟩])
def lF.r2:ACode:=(.region none [oM 10 2,
oP 11 (.bin .add (.t 10) (.c (.int .i64 1))),
oM 12 3,
oP 13 (.bin .sub (.t 12) (.c (.int .i64 1))),
oM 2 11,
oM 3 13])
def lF.l0:ACode:=(.seq (.seq lF.r1 (.cond (.t 9) .skip (.exit 0))) (.seq (.block 1 lF.r3) lF.r2))
def lF:AFunc:=⟨[],(.seq lF.r0 (.block 0 (.loop lF.l0)))⟩
def qX.r0:ACode:=(.region none [oP 2 (.move (.c (.int .u64 0)))])
def qX.r1:ACode:=(.region none [oM 3 0,
oP 4 (.conv .u64 (.t 3)),
oP 5 (.call 227 [.t 4]),
oP 6 (.bin .shl (.c (.int .u64 1)) (.t 5)),
oM 2 6])
def qX:AFunc:=⟨[.tmp 2],(.seq qX.r0 (.seq qX.r1 .ret))⟩
def lQ.r0:ACode:=(.region none [oP 2 (.move (.c (.int .u64 0)))])
def lQ.r1:ACode:=(.region (some 9) [oM 3 0,
oP 4 (.nilCheck (.t 3)),
oP 5 (.load none (.t 4)),
oM 6 0,
oP 7 (.nilCheck (.t 6)),
oP 8 (.load none (.t 7)),
oP 9 (.bin .shl (.t 8) (.c (.int .u64 13))),
oP 10 (.bin .xor (.t 5) (.t 9)),
oP 11 (.nilCheck (.t 3)),
⟨none, .store 1 (.t 11) (.t 10),none⟩])
def lQ.r2:ACode:=(.region (some 9) [oM 12 0,
oP 13 (.nilCheck (.t 12)),
oP 14 (.load none (.t 13)),
oM 15 0,
oP 16 (.nilCheck (.t 15)),
oP 17 (.load none (.t 16)),
oP 18 (.bin .shr (.t 17) (.c (.int .u64 7))),
oP 19 (.bin .xor (.t 14) (.t 18)),
oP 20 (.nilCheck (.t 12)),
⟨none, .store 1 (.t 20) (.t 19),none⟩])
def lQ.r3:ACode:=(.region (some 9) [oM 21 0,
oP 22 (.nilCheck (.t 21)),
oP 23 (.load none (.t 22)),
oM 24 0,
oP 25 (.nilCheck (.t 24)),
oP 26 (.load none (.t 25)),
oP 27 (.bin .shl (.t 26) (.c (.int .u64 17))),
oP 28 (.bin .xor (.t 23) (.t 27)),
oP 29 (.nilCheck (.t 21)),
⟨none, .store 1 (.t 29) (.t 28),none⟩])
def lQ.r4:ACode:=(.region none [oM 30 0,
oP 31 (.nilCheck (.t 30)),
oP 32 (.load none (.t 31)),
oM 2 32])
def lQ:AFunc:=⟨[.tmp 2],(.seq lQ.r0 (.seq lQ.r1 (.seq lQ.r2 (.seq lQ.r3 (.seq lQ.r4 .ret)))))⟩
def oU.r0:ACode:=(.region none [oP 2 (.move (.c (.bool false)))])
def oU.r1:ACode:=(.region none [oM 3 0,
oM 4 0,
oP 5 (.bin .neq (.t 3) (.t 4)),
oM 2 5])
def oU:AFunc:=⟨[.tmp 2],(.seq oU.r0 (.seq oU.r1 .ret))⟩
def jK.r0:ACode:=(.region none [oP 2 (.box (.t 0)),
oP 3 (.box (.t 1)),
oP 4 (.move (.c (.bool false)))])
def jK.r1:ACode:=(.region none [oP 5 (.move (.c (.int .i64 0)))])
def jK.r2:ACode:=(.region none [oM 6 5,
oP 7 (.bin .lss (.t 6) (.c (.int .i64 16)))])
def jK.r4:ACode:=(.region (some 7) [oM 10 5,
oP 11 (.indexAddr (some 16) 1 (.t 2) (.t 10)),
oP 12 (.load none (.t 11)),
oM 13 5,
oP 14 (.indexAddr (some 16) 1 (.t 3) (.t 13)),
oP 15 (.load none (.t 14)),
oP 16 (.bin .neq (.t 12) (.t 15))])
def jK.r5:ACode:=(.region (some 8) [oM 17 5,
oP 18 (.indexAddr (some 16) 1 (.t 2) (.t 17)),
oP 19 (.load none (.t 18)),
oM 20 5,
oP 21 (.indexAddr (some 16) 1 (.t 3) (.t 20)),
oP 22 (.load none (.t 21)),
oP 23 (.bin .lss (.t 19) (.t 22)),
oM 4 23])
def jK.r3:ACode:=(.region none [oM 8 5,
oP 9 (.bin .add (.t 8) (.c (.int .i64 1))),
oM 5 9])
def jK.l0:ACode:=(.seq (.seq jK.r2 (.cond (.t 7) .skip (.exit 0))) (.seq (.block 1 (.seq jK.r4 (.cond (.t 16) (.seq jK.r5 .ret) .skip))) jK.r3))
def jK.r6:ACode:=(.region none [oP 4 (.move (.c (.bool false)))])
def jK:AFunc:=⟨[.tmp 4],(.seq jK.r0 (.seq (.seq jK.r1 (.block 0 (.loop jK.l0))) (.seq jK.r6 .ret)))⟩
def aZ.r0:ACode:=(.region none [oP 8 (.move (.c (.bool true)))])
def aZ.r1:ACode:=(.region none [oP 9 (.move (.c (.bool true)))])
def aZ.r2:ACode:=(.region none [oM 19 2,
oM 20 1,
oP 21 (.bin .sub (.t 19) (.t 20)),
oM 10 21])
def aZ.r3:ACode:=(.region none [oM 22 10,
oP 23 (.bin .leq (.t 22) (.c (.int .i64 12)))])
def aZ.r4:ACode:=(.region none [oM 24 0,
oM 25 1,
oM 26 2,
oP 27 (.call 229 [.t 24, .t 25, .t 26])])
def aZ.r5:ACode:=(.region none [oM 28 3,
oP 29 (.bin .eql (.t 28) (.c (.int .i64 0)))])
def aZ.r6:ACode:=(.region none [oM 30 0,
oM 31 1,
oM 32 2,
oP 33 (.call 230 [.t 30, .t 31, .t 32])])
def aZ.r7:ACode:=(.region none [oM 34 8,
oP 35 (.not (.t 34))])
def aZ.r8:ACode:=(.region none [oM 36 0,
oM 37 1,
oM 38 2,
oP 39 (.call 231 [.t 36, .t 37, .t 38])])
def aZ.r9:ACode:=(.region none [oM 40 3,
oP 41 (.bin .sub (.t 40) (.c (.int .i64 1))),
oM 3 41])
def aZ.r10:ACode:=(.region none [oM 43 0,
oM 44 1,
oM 45 2,
oP 46 (.call 232 [.t 43, .t 44, .t 45]),
oM 42 46,
oP 47 (.extract (.t 42) 0),
oP 48 (.extract (.t 42) 1),
oM 11 47,
oM 12 48])
def aZ.r11:ACode:=(.region none [oM 49 12,
oP 50 (.bin .eql (.t 49) (.c (.int .i64 2)))])
def aZ.r12:ACode:=(.region none [oM 51 0,
oM 52 1,
oM 53 2,
oP 54 (.call 233 [.t 51, .t 52, .t 53])])
def aZ.r13:ACode:=(.region none [oM 55 2,
oP 56 (.bin .sub (.t 55) (.c (.int .i64 1))),
oM 57 11,
oM 58 1,
oP 59 (.bin .sub (.t 57) (.t 58)),
oP 60 (.bin .sub (.t 56) (.t 59)),
oM 11 60])
def aZ.iq:ACode:=(.region none [oP 12 (.move (.c (.int .i64 1)))])
def aZ.kC:ACode:=(.region none [oM 61 8,
oM 62 61,
⟨some 63, .move (.t 9),some (62,true)⟩,
oP 64 (.pick (.t 62) (.t 63) (.c (.bool false))),
oM 65 64,
⟨some 66, .move (.t 12),some (65,true)⟩,
⟨some 67, .bin .eql (.t 66) (.c (.int .i64 1)),some (65,true)⟩,
oP 68 (.pick (.t 65) (.t 67) (.c (.bool false)))])
def aZ.r16:ACode:=(.region none [oM 69 0,
oM 70 1,
oM 71 2,
oP 72 (.call 234 [.t 69, .t 70, .t 71])])
def aZ.mF:ACode:=(.region (some 15) [oM 73 1,
oP 74 (.bin .gtr (.t 73) (.c (.int .i64 0))),
oM 75 74,
⟨some 76, .move (.t 0),some (75,true)⟩,
⟨some 77, .move (.t 1),some (75,true)⟩,
⟨some 78, .bin .sub (.t 77) (.c (.int .i64 1)),some (75,true)⟩,
⟨some 79, .indexAddr none 1 (.t 76) (.t 78),some (75,true)⟩,
⟨some 80, .load none (.t 79),some (75,true)⟩,
⟨some 81, .move (.t 0),some (75,true)⟩,
⟨some 82, .move (.t 11),some (75,true)⟩,
⟨some 83, .indexAddr none 1 (.t 81) (.t 82),some (75,true)⟩,
⟨some 84, .load none (.t 83),some (75,true)⟩,
⟨some 85, .call 235 [.t 80, .t 84],some (75,true)⟩,
⟨some 86, .not (.t 85),some (75,true)⟩,
oP 87 (.pick (.t 75) (.t 86) (.c (.bool false)))])
def aZ.pW:ACode:=(.region none [oM 88 0,
oM 89 1,
oM 90 2,
oM 91 11,
oP 92 (.call 236 [.t 88, .t 89, .t 90, .t 91]),
oM 13 92])
def aZ.pX:ACode:=(.region none [oM 93 13,
oM 1 93])
def aZ.pY:ACode:=(.region none [oM 95 0,
oM 96 1,
oM 97 2,
oM 98 11,
oP 99 (.call 237 [.t 95, .t 96, .t 97, .t 98]),
oM 94 99,
oP 100 (.extract (.t 94) 0),
oP 101 (.extract (.t 94) 1),
oM 14 100,
oM 15 101])
def aZ.qc:ACode:=(.region none [oM 102 15,
oM 9 102])
def aZ.r22:ACode:=(.region none [oM 103 14,
oM 104 1,
oP 105 (.bin .sub (.t 103) (.t 104)),
oM 106 2,
oM 107 14,
oP 108 (.bin .sub (.t 106) (.t 107)),
oM 16 105,
oM 17 108])
def aZ.yA:ACode:=(.region none [oM 109 10,
oP 110 (.bin .quo (.t 109) (.c (.int .i64 8))),
oM 18 110])
def aZ.yB:ACode:=(.region none [oM 111 16,
oM 112 17,
oP 113 (.bin .lss (.t 111) (.t 112))])
def aZ.r25:ACode:=(.region none [oM 114 16,
oM 115 18,
oP 116 (.bin .geq (.t 114) (.t 115)),
oM 8 116])
def aZ.ET:ACode:=(.region none [oM 117 0,
oM 118 1,
oM 119 14,
oM 120 3,
oP 121 (.call 228 [.t 117, .t 118, .t 119, .t 120])])
def aZ.r27:ACode:=(.region none [oM 122 14,
oP 123 (.bin .add (.t 122) (.c (.int .i64 1))),
oM 1 123])
def aZ.r28:ACode:=(.region none [oM 124 17,
oM 125 18,
oP 126 (.bin .geq (.t 124) (.t 125)),
oM 8 126])
def aZ.EU:ACode:=(.region none [oM 127 0,
oM 128 14,
oP 129 (.bin .add (.t 128) (.c (.int .i64 1))),
oM 130 2,
oM 131 3,
oP 132 (.call 228 [.t 127, .t 129, .t 130, .t 131])])
def aZ.EW:ACode:=(.region none [oM 133 14,
oM 2 133])
def aZ.l0:ACode:=(.block 1 (.seq aZ.r2 (.seq (.seq aZ.r3 (.cond (.t 23) (.seq aZ.r4 .ret) .skip)) (.seq (.seq aZ.r5 (.cond (.t 29) (.seq aZ.r6 .ret) .skip)) (.seq (.seq aZ.r7 (.cond (.t 35) (.seq aZ.r8 aZ.r9) .skip)) (.seq aZ.r10 (.seq (.seq aZ.r11 (.cond (.t 50) (.seq aZ.r12 (.seq aZ.r13 aZ.iq)) .skip)) (.seq (.seq aZ.kC (.cond (.t 68) (.seq aZ.r16 (.cond (.t 72) .ret .skip)) .skip)) (.seq (.seq aZ.mF (.cond (.t 87) (.seq aZ.pW (.seq aZ.pX (.exit 1))) .skip)) (.seq aZ.pY (.seq aZ.qc (.seq aZ.r22 (.seq aZ.yA (.seq aZ.yB (.cond (.t 113) (.seq aZ.r25 (.seq aZ.ET aZ.r27)) (.seq aZ.r28 (.seq aZ.EU aZ.EW)))))))))))))))))
def aZ:AFunc:=⟨[],(.seq aZ.r0 (.seq aZ.r1 (.block 0 (.loop aZ.l0))))⟩
def iR.r0:ACode:=(.region none [oM 8 1,
oP 9 (.bin .add (.t 8) (.c (.int .i64 1))),
oM 6 9])
def iR.r1:ACode:=(.region none [oM 10 6,
oM 11 2,
oP 12 (.bin .lss (.t 10) (.t 11))])
def iR.r3:ACode:=(.region none [oM 15 6,
oM 7 15])
def iR.r4:ACode:=(.region (some 15) [oM 16 7,
oM 17 1,
oP 18 (.bin .gtr (.t 16) (.t 17)),
oM 19 18,
⟨some 20, .move (.t 0),some (19,true)⟩,
⟨some 21, .move (.t 7),some (19,true)⟩,
⟨some 22, .indexAddr none 1 (.t 20) (.t 21),some (19,true)⟩,
⟨some 23, .load none (.t 22),some (19,true)⟩,
⟨some 24, .move (.t 0),some (19,true)⟩,
⟨some 25, .move (.t 7),some (19,true)⟩,
⟨some 26, .bin .sub (.t 25) (.c (.int .i64 1)),some (19,true)⟩,
⟨some 27, .indexAddr none 1 (.t 24) (.t 26),some (19,true)⟩,
⟨some 28, .load none (.t 27),some (19,true)⟩,
⟨some 29, .call 235 [.t 23, .t 28],some (19,true)⟩,
oP 30 (.pick (.t 19) (.t 29) (.c (.bool false)))])
def iR.r6:ACode:=(.region (some 15) [oM 33 0,
oM 34 7,
oM 35 0,
oM 36 7,
oP 37 (.bin .sub (.t 36) (.c (.int .i64 1))),
oM 38 0,
oM 39 7,
oP 40 (.bin .sub (.t 39) (.c (.int .i64 1))),
oP 41 (.indexAddr none 1 (.t 38) (.t 40)),
oP 42 (.load none (.t 41)),
oM 43 0,
oM 44 7,
oP 45 (.indexAddr none 1 (.t 43) (.t 44)),
oP 46 (.load none (.t 45)),
oP 47 (.indexAddr none 1 (.t 33) (.t 34)),
⟨none, .storeF 1 (.t 47) (.t 42) [],none⟩,
oP 48 (.indexAddr none 1 (.t 35) (.t 37)),
⟨none, .store 1 (.t 48) (.t 46),none⟩])
def iR.r5:ACode:=(.region none [oM 31 7,
oP 32 (.bin .sub (.t 31) (.c (.int .i64 1))),
oM 7 32])
def iR.l0:ACode:=(.seq (.seq iR.r4 (.cond (.t 30) .skip (.exit 2))) (.seq (.block 3 iR.r6) iR.r5))
def iR.r2:ACode:=(.region none [oM 13 6,
oP 14 (.bin .add (.t 13) (.c (.int .i64 1))),
oM 6 14])
def iR.l1:ACode:=(.seq (.seq iR.r1 (.cond (.t 12) .skip (.exit 0))) (.seq (.block 1 (.seq iR.r3 (.block 2 (.loop iR.l0)))) iR.r2))
def iR:AFunc:=⟨[],(.seq iR.r0 (.block 0 (.loop iR.l1)))⟩
def gB.r0:ACode:=(.region none [oM 11 2,
oM 12 1,
oP 13 (.bin .sub (.t 11) (.t 12)),
oM 6 13])
def gB.r1:ACode:=(.region none [oM 14 6,
oP 15 (.bin .geq (.t 14) (.c (.int .i64 8)))])
def gB.r2:ACode:=(.region none [oM 16 6,
oP 17 (.conv .u64 (.t 16)),
oP 7 (.alloc [.int .u64 0]),
⟨none, .store 1 (.t 7) (.t 17),none⟩])
def gB.r3:ACode:=(.region none [oM 18 6,
oP 19 (.call 240 [.t 18]),
oM 8 19])
def gB.r4:ACode:=(.region none [oM 20 1,
oM 21 6,
oP 22 (.bin .quo (.t 21) (.c (.int .i64 4))),
oP 23 (.bin .mul (.t 22) (.c (.int .i64 2))),
oP 24 (.bin .add (.t 20) (.t 23)),
oP 25 (.bin .sub (.t 24) (.c (.int .i64 1))),
oM 9 25])
def gB.r5:ACode:=(.region none [oM 26 9,
oM 27 1,
oM 28 6,
oP 29 (.bin .quo (.t 28) (.c (.int .i64 4))),
oP 30 (.bin .mul (.t 29) (.c (.int .i64 2))),
oP 31 (.bin .add (.t 27) (.t 30)),
oP 32 (.bin .add (.t 31) (.c (.int .i64 1))),
oP 33 (.bin .leq (.t 26) (.t 32))])
def gB.r7:ACode:=(.region none [oP 36 (.call 241 [.t 7]),
oM 37 8,
oP 38 (.bin .sub (.t 37) (.c (.int .u64 1))),
oP 39 (.bin .and (.t 36) (.t 38)),
oP 40 (.conv .i64 (.t 39)),
oM 10 40])
def gB.r8:ACode:=(.region none [oM 41 10,
oM 42 6,
oP 43 (.bin .geq (.t 41) (.t 42))])
def gB.r9:ACode:=(.region none [oM 44 10,
oM 45 6,
oP 46 (.bin .sub (.t 44) (.t 45)),
oM 10 46])
def gB.r10:ACode:=(.region (some 17) [oM 47 0,
oM 48 9,
oM 49 0,
oM 50 1,
oM 51 10,
oP 52 (.bin .add (.t 50) (.t 51)),
oM 53 0,
oM 54 1,
oM 55 10,
oP 56 (.bin .add (.t 54) (.t 55)),
oP 57 (.indexAddr none 1 (.t 53) (.t 56)),
oP 58 (.load none (.t 57)),
oM 59 0,
oM 60 9,
oP 61 (.indexAddr none 1 (.t 59) (.t 60)),
oP 62 (.load none (.t 61)),
oP 63 (.indexAddr none 1 (.t 47) (.t 48)),
⟨none, .storeF 1 (.t 63) (.t 58) [],none⟩,
oP 64 (.indexAddr none 1 (.t 49) (.t 52)),
⟨none, .store 1 (.t 64) (.t 62),none⟩])
def gB.r6:ACode:=(.region none [oM 34 9,
oP 35 (.bin .add (.t 34) (.c (.int .i64 1))),
oM 9 35])
def gB.l0:ACode:=(.seq (.seq gB.r5 (.cond (.t 33) .skip (.exit 0))) (.seq (.block 1 (.seq gB.r7 (.seq (.seq gB.r8 (.cond (.t 43) gB.r9 .skip)) gB.r10))) gB.r6))
def gB:AFunc:=⟨[],(.seq gB.r0 (.seq gB.r1 (.cond (.t 15) (.seq gB.r2 (.seq gB.r3 (.seq gB.r4 (.block 0 (.loop gB.l0))))) .skip)))⟩
def dU.r0:ACode:=(.region none [oP 6 (.move (.c (.int .i64 0))),
oP 7 (.move (.c (.int .i64 0)))])
def dU.r1:ACode:=(.region none [oM 13 2,
oM 14 1,
oP 15 (.bin .sub (.t 13) (.t 14)),
oM 8 15])
def dU.r2:ACode:=(.region none [oP 9 (.alloc [.int .i64 0])])
def dU.r3:ACode:=(.region none [oM 16 1,
oM 17 8,
oP 18 (.bin .quo (.t 17) (.c (.int .i64 4))),
oP 19 (.bin .mul (.t 18) (.c (.int .i64 1))),
oP 20 (.bin .add (.t 16) (.t 19)),
oM 10 20])
def dU.r4:ACode:=(.region none [oM 21 1,
oM 22 8,
oP 23 (.bin .quo (.t 22) (.c (.int .i64 4))),
oP 24 (.bin .mul (.t 23) (.c (.int .i64 2))),
oP 25 (.bin .add (.t 21) (.t 24)),
oM 11 25])
def dU.r5:ACode:=(.region none [oM 26 1,
oM 27 8,
oP 28 (.bin .quo (.t 27) (.c (.int .i64 4))),
oP 29 (.bin .mul (.t 28) (.c (.int .i64 3))),
oP 30 (.bin .add (.t 26) (.t 29)),
oM 12 30])
def dU.r6:ACode:=(.region none [oM 31 8,
oP 32 (.bin .geq (.t 31) (.c (.int .i64 8)))])
def dU.r7:ACode:=(.region none [oM 33 8,
oP 34 (.bin .geq (.t 33) (.c (.int .i64 50)))])
def dU.r8:ACode:=(.region none [oM 35 0,
oM 36 10,
oP 37 (.call 242 [.t 35, .t 36, .t 9]),
oM 10 37])
def dU.r9:ACode:=(.region none [oM 38 0,
oM 39 11,
oP 40 (.call 242 [.t 38, .t 39, .t 9]),
oM 11 40])
def dU.r10:ACode:=(.region none [oM 41 0,
oM 42 12,
oP 43 (.call 242 [.t 41, .t 42, .t 9]),
oM 12 43])
def dU.r11:ACode:=(.region none [oM 44 0,
oM 45 10,
oM 46 11,
oM 47 12,
oP 48 (.call 243 [.t 44, .t 45, .t 46, .t 47, .t 9]),
oM 11 48])
def dU.r12:ACode:=(.region none [oP 49 (.load none (.t 9))])
def dU.iq:ACode:=(.region none [oP 52 (.bin .eql (.t 49) (.c (.int .i64 0))),
oM 51 52])
def dU.kC:ACode:=(.region none [oM 53 11,
oM 6 53,
oP 7 (.move (.c (.int .i64 1)))])
def dU.r16:ACode:=(.region none [oP 55 (.bin .eql (.t 49) (.c (.int .i64 12))),
oM 54 55])
def dU.mF:ACode:=(.region none [oM 56 11,
oM 6 56,
oP 7 (.move (.c (.int .i64 2)))])
def dU.r13:ACode:=(.region none [oM 50 11,
oM 6 50,
oP 7 (.move (.c (.int .i64 0)))])
def dU:AFunc:=⟨[.tmp 6, .tmp 7],(.seq dU.r0 (.seq dU.r1 (.seq dU.r2 (.seq dU.r3 (.seq dU.r4 (.seq dU.r5 (.seq (.seq dU.r6 (.cond (.t 32) (.seq (.seq dU.r7 (.cond (.t 34) (.seq dU.r8 (.seq dU.r9 dU.r10)) .skip)) dU.r11) .skip)) (.seq dU.r12 (.block 0 (.seq dU.iq (.cond (.t 51) (.seq dU.kC .ret) (.seq dU.r16 (.cond (.t 54) (.seq dU.mF .ret) (.seq dU.r13 .ret))))))))))))))⟩
def ku.r0:ACode:=(.region none [oM 8 1,
oM 6 8])
def ku.r1:ACode:=(.region none [oM 9 2,
oP 10 (.bin .sub (.t 9) (.c (.int .i64 1))),
oM 7 10])
def ku.r2:ACode:=(.region none [oM 11 6,
oM 12 7,
oP 13 (.bin .lss (.t 11) (.t 12))])
def ku.r3:ACode:=(.region (some 13) [oM 14 0,
oM 15 6,
oM 16 0,
oM 17 7,
oM 18 0,
oM 19 7,
oP 20 (.indexAddr none 1 (.t 18) (.t 19)),
oP 21 (.load none (.t 20)),
oM 22 0,
oM 23 6,
oP 24 (.indexAddr none 1 (.t 22) (.t 23)),
oP 25 (.load none (.t 24)),
oP 26 (.indexAddr none 1 (.t 14) (.t 15)),
⟨none, .storeF 1 (.t 26) (.t 21) [],none⟩,
oP 27 (.indexAddr none 1 (.t 16) (.t 17)),
⟨none, .store 1 (.t 27) (.t 25),none⟩])
def ku.r4:ACode:=(.region none [oM 28 6,
oP 29 (.bin .add (.t 28) (.c (.int .i64 1))),
oM 6 29])
def ku.r5:ACode:=(.region none [oM 30 7,
oP 31 (.bin .sub (.t 30) (.c (.int .i64 1))),
oM 7 31])
def ku.l0:ACode:=(.seq (.seq ku.r2 (.cond (.t 13) .skip (.exit 0))) (.block 1 (.seq ku.r3 (.seq ku.r4 ku.r5))))
def ku:AFunc:=⟨[],(.seq ku.r0 (.seq ku.r1 (.block 0 (.loop ku.l0))))⟩
def bC.r0:ACode:=(.region none [oP 6 (.move (.c (.bool false)))])
def bC.r1:ACode:=(.region none [oM 11 1,
oP 12 (.bin .add (.t 11) (.c (.int .i64 1))),
oM 7 12])
def bC.r2:ACode:=(.region none [oP 8 (.move (.c (.int .i64 0)))])
def bC.r3:ACode:=(.region none [oM 13 8,
oP 14 (.bin .lss (.t 13) (.c (.int .i64 5)))])
def bC.r5:ACode:=(.region (some 16) [oM 17 7,
oM 18 2,
oP 19 (.bin .lss (.t 17) (.t 18)),
oM 20 19,
⟨some 21, .move (.t 0),some (20,true)⟩,
⟨some 22, .move (.t 7),some (20,true)⟩,
⟨some 23, .indexAddr none 1 (.t 21) (.t 22),some (20,true)⟩,
⟨some 24, .load none (.t 23),some (20,true)⟩,
⟨some 25, .move (.t 0),some (20,true)⟩,
⟨some 26, .move (.t 7),some (20,true)⟩,
⟨some 27, .bin .sub (.t 26) (.c (.int .i64 1)),some (20,true)⟩,
⟨some 28, .indexAddr none 1 (.t 25) (.t 27),some (20,true)⟩,
⟨some 29, .load none (.t 28),some (20,true)⟩,
⟨some 30, .call 235 [.t 24, .t 29],some (20,true)⟩,
⟨some 31, .not (.t 30),some (20,true)⟩,
oP 32 (.pick (.t 20) (.t 31) (.c (.bool false)))])
def bC.r6:ACode:=(.region none [oM 33 7,
oP 34 (.bin .add (.t 33) (.c (.int .i64 1))),
oM 7 34])
def bC.l0:ACode:=(.seq (.seq bC.r5 (.cond (.t 32) .skip (.exit 2))) (.block 3 bC.r6))
def bC.r7:ACode:=(.region none [oM 35 7,
oM 36 2,
oP 37 (.bin .eql (.t 35) (.t 36))])
def bC.r8:ACode:=(.region none [oP 6 (.move (.c (.bool true)))])
def bC.r9:ACode:=(.region none [oM 38 2,
oM 39 1,
oP 40 (.bin .sub (.t 38) (.t 39)),
oP 41 (.bin .lss (.t 40) (.c (.int .i64 50)))])
def bC.r10:ACode:=(.region none [oP 6 (.move (.c (.bool false)))])
def bC.r11:ACode:=(.region (some 15) [oM 42 0,
oM 43 7,
oM 44 0,
oM 45 7,
oP 46 (.bin .sub (.t 45) (.c (.int .i64 1))),
oM 47 0,
oM 48 7,
oP 49 (.bin .sub (.t 48) (.c (.int .i64 1))),
oP 50 (.indexAddr none 1 (.t 47) (.t 49)),
oP 51 (.load none (.t 50)),
oM 52 0,
oM 53 7,
oP 54 (.indexAddr none 1 (.t 52) (.t 53)),
oP 55 (.load none (.t 54)),
oP 56 (.indexAddr none 1 (.t 42) (.t 43)),
⟨none, .storeF 1 (.t 56) (.t 51) [],none⟩,
oP 57 (.indexAddr none 1 (.t 44) (.t 46)),
⟨none, .store 1 (.t 57) (.t 55),none⟩])
def bC.r12:ACode:=(.region none [oM 58 7,
oM 59 1,
oP 60 (.bin .sub (.t 58) (.t 59)),
oP 61 (.bin .geq (.t 60) (.c (.int .i64 2)))])
def bC.r13:ACode:=(.region none [oM 62 7,
oP 63 (.bin .sub (.t 62) (.c (.int .i64 1))),
oM 9 63])
def bC.iq:ACode:=(.region none [oM 64 9,
oP 65 (.bin .geq (.t 64) (.c (.int .i64 1)))])
def bC.r16:ACode:=(.region (some 11) [oM 68 0,
oM 69 9,
oP 70 (.indexAddr none 1 (.t 68) (.t 69)),
oP 71 (.load none (.t 70)),
oM 72 0,
oM 73 9,
oP 74 (.bin .sub (.t 73) (.c (.int .i64 1))),
oP 75 (.indexAddr none 1 (.t 72) (.t 74)),
oP 76 (.load none (.t 75)),
oP 77 (.call 235 [.t 71, .t 76]),
oP 78 (.not (.t 77))])
def bC.mF:ACode:=(.region (some 15) [oM 79 0,
oM 80 9,
oM 81 0,
oM 82 9,
oP 83 (.bin .sub (.t 82) (.c (.int .i64 1))),
oM 84 0,
oM 85 9,
oP 86 (.bin .sub (.t 85) (.c (.int .i64 1))),
oP 87 (.indexAddr none 1 (.t 84) (.t 86)),
oP 88 (.load none (.t 87)),
oM 89 0,
oM 90 9,
oP 91 (.indexAddr none 1 (.t 89) (.t 90)),
oP 92 (.load none (.t 91)),
oP 93 (.indexAddr none 1 (.t 79) (.t 80)),
⟨none, .storeF 1 (.t 93) (.t 88) [],none⟩,
oP 94 (.indexAddr none 1 (.t 81) (.t 83)),
⟨none, .store 1 (.t 94) (.t 92),none⟩])
def bC.kC:ACode:=(.region none [oM 66 9,
oP 67 (.bin .sub (.t 66) (.c (.int .i64 1))),
oM 9 67])
def bC.l1:ACode:=(.seq (.seq bC.iq (.cond (.t 65) .skip (.exit 4))) (.seq (.block 5 (.seq (.seq bC.r16 (.cond (.t 78) (.exit 4) .skip)) bC.mF)) bC.kC))
def bC.pW:ACode:=(.region none [oM 95 2,
oM 96 7,
oP 97 (.bin .sub (.t 95) (.t 96)),
oP 98 (.bin .geq (.t 97) (.c (.int .i64 2)))])
def bC.pX:ACode:=(.region none [oM 99 7,
oP 100 (.bin .add (.t 99) (.c (.int .i64 1))),
oM 10 100])
def bC.pY:ACode:=(.region none [oM 101 10,
oM 102 2,
oP 103 (.bin .lss (.t 101) (.t 102))])
def bC.r22:ACode:=(.region (some 11) [oM 106 0,
oM 107 10,
oP 108 (.indexAddr none 1 (.t 106) (.t 107)),
oP 109 (.load none (.t 108)),
oM 110 0,
oM 111 10,
oP 112 (.bin .sub (.t 111) (.c (.int .i64 1))),
oP 113 (.indexAddr none 1 (.t 110) (.t 112)),
oP 114 (.load none (.t 113)),
oP 115 (.call 235 [.t 109, .t 114]),
oP 116 (.not (.t 115))])
def bC.yA:ACode:=(.region (some 15) [oM 117 0,
oM 118 10,
oM 119 0,
oM 120 10,
oP 121 (.bin .sub (.t 120) (.c (.int .i64 1))),
oM 122 0,
oM 123 10,
oP 124 (.bin .sub (.t 123) (.c (.int .i64 1))),
oP 125 (.indexAddr none 1 (.t 122) (.t 124)),
oP 126 (.load none (.t 125)),
oM 127 0,
oM 128 10,
oP 129 (.indexAddr none 1 (.t 127) (.t 128)),
oP 130 (.load none (.t 129)),
oP 131 (.indexAddr none 1 (.t 117) (.t 118)),
⟨none, .storeF 1 (.t 131) (.t 126) [],none⟩,
oP 132 (.indexAddr none 1 (.t 119) (.t 121)),
⟨none, .store 1 (.t 132) (.t 130),none⟩])
def bC.qc:ACode:=(.region none [oM 104 10,
oP 105 (.bin .add (.t 104) (.c (.int .i64 1))),
oM 10 105])
def bC.l2:ACode:=(.seq (.seq bC.pY (.cond (.t 103) .skip (.exit 6))) (.seq (.block 7 (.seq (.seq bC.r22 (.cond (.t 116) (.exit 6) .skip)) bC.yA)) bC.qc))
def bC.r4:ACode:=(.region none [oM 15 8,
oP 16 (.bin .add (.t 15) (.c (.int .i64 1))),
oM 8 16])
def bC.l3:ACode:=(.seq (.seq bC.r3 (.cond (.t 14) .skip (.exit 0))) (.seq (.block 1 (.seq (.block 2 (.loop bC.l0)) (.seq (.seq bC.r7 (.cond (.t 37) (.seq bC.r8 .ret) .skip)) (.seq (.seq bC.r9 (.cond (.t 41) (.seq bC.r10 .ret) .skip)) (.seq bC.r11 (.seq (.seq bC.r12 (.cond (.t 61) (.seq bC.r13 (.block 4 (.loop bC.l1))) .skip)) (.seq bC.pW (.cond (.t 98) (.seq bC.pX (.block 6 (.loop bC.l2))) .skip)))))))) bC.r4))
def bC.yB:ACode:=(.region none [oP 6 (.move (.c (.bool false)))])
def bC:AFunc:=⟨[.tmp 6],(.seq bC.r0 (.seq bC.r1 (.seq (.seq bC.r2 (.block 0 (.loop bC.l3))) (.seq bC.yB .ret))))⟩
def qY.r0:ACode:=(.region none [oP 4 (.move (.c (.bool false)))])
def qY.r1:ACode:=(.region none [oM 5 0,
oP 6 (.call 247 [.t 5]),
oM 7 6,
⟨some 8, .move (.t 1),some (7,true)⟩,
⟨some 9, .call 247 [.t 8],some (7,true)⟩,
⟨some 10, .not (.t 9),some (7,true)⟩,
oP 11 (.pick (.t 7) (.t 10) (.c (.bool false))),
oM 12 11,
⟨some 13, .move (.t 0),some (12,false)⟩,
⟨some 14, .move (.t 1),some (12,false)⟩,
⟨some 15, .bin .lss (.t 13) (.t 14),some (12,false)⟩,
oP 16 (.pick (.t 12) (.c (.bool true)) (.t 15)),
oM 4 16])
def qY:AFunc:=⟨[.tmp 4],(.seq qY.r0 (.seq qY.r1 .ret))⟩
def eX.r0:ACode:=(.region none [oP 8 (.move (.c (.int .i64 0)))])
def eX.r1:ACode:=(.region (some 13) [oM 11 0,
oM 12 1,
oM 13 0,
oM 14 3,
oM 15 0,
oM 16 3,
oP 17 (.indexAddr none 1 (.t 15) (.t 16)),
oP 18 (.load none (.t 17)),
oM 19 0,
oM 20 1,
oP 21 (.indexAddr none 1 (.t 19) (.t 20)),
oP 22 (.load none (.t 21)),
oP 23 (.indexAddr none 1 (.t 11) (.t 12)),
⟨none, .storeF 1 (.t 23) (.t 18) [],none⟩,
oP 24 (.indexAddr none 1 (.t 13) (.t 14)),
⟨none, .store 1 (.t 24) (.t 22),none⟩])
def eX.r2:ACode:=(.region none [oM 25 1,
oP 26 (.bin .add (.t 25) (.c (.int .i64 1))),
oM 27 2,
oP 28 (.bin .sub (.t 27) (.c (.int .i64 1))),
oM 9 26,
oM 10 28])
def eX.r3:ACode:=(.region (some 15) [oM 29 9,
oM 30 10,
oP 31 (.bin .leq (.t 29) (.t 30)),
oM 32 31,
⟨some 33, .move (.t 0),some (32,true)⟩,
⟨some 34, .move (.t 1),some (32,true)⟩,
⟨some 35, .indexAddr none 1 (.t 33) (.t 34),some (32,true)⟩,
⟨some 36, .load none (.t 35),some (32,true)⟩,
⟨some 37, .move (.t 0),some (32,true)⟩,
⟨some 38, .move (.t 9),some (32,true)⟩,
⟨some 39, .indexAddr none 1 (.t 37) (.t 38),some (32,true)⟩,
⟨some 40, .load none (.t 39),some (32,true)⟩,
⟨some 41, .call 235 [.t 36, .t 40],some (32,true)⟩,
⟨some 42, .not (.t 41),some (32,true)⟩,
oP 43 (.pick (.t 32) (.t 42) (.c (.bool false)))])
def eX.r4:ACode:=(.region none [oM 44 9,
oP 45 (.bin .add (.t 44) (.c (.int .i64 1))),
oM 9 45])
def eX.l0:ACode:=(.seq (.seq eX.r3 (.cond (.t 43) .skip (.exit 2))) (.block 3 eX.r4))
def eX.r5:ACode:=(.region (some 14) [oM 46 9,
oM 47 10,
oP 48 (.bin .leq (.t 46) (.t 47)),
oM 49 48,
⟨some 50, .move (.t 0),some (49,true)⟩,
⟨some 51, .move (.t 1),some (49,true)⟩,
⟨some 52, .indexAddr none 1 (.t 50) (.t 51),some (49,true)⟩,
⟨some 53, .load none (.t 52),some (49,true)⟩,
⟨some 54, .move (.t 0),some (49,true)⟩,
⟨some 55, .move (.t 10),some (49,true)⟩,
⟨some 56, .indexAddr none 1 (.t 54) (.t 55),some (49,true)⟩,
⟨some 57, .load none (.t 56),some (49,true)⟩,
⟨some 58, .call 235 [.t 53, .t 57],some (49,true)⟩,
oP 59 (.pick (.t 49) (.t 58) (.c (.bool false)))])
def eX.r6:ACode:=(.region none [oM 60 10,
oP 61 (.bin .sub (.t 60) (.c (.int .i64 1))),
oM 10 61])
def eX.l1:ACode:=(.seq (.seq eX.r5 (.cond (.t 59) .skip (.exit 4))) (.block 5 eX.r6))
def eX.r7:ACode:=(.region none [oM 62 9,
oM 63 10,
oP 64 (.bin .gtr (.t 62) (.t 63))])
def eX.r8:ACode:=(.region (some 13) [oM 65 0,
oM 66 9,
oM 67 0,
oM 68 10,
oM 69 0,
oM 70 10,
oP 71 (.indexAddr none 1 (.t 69) (.t 70)),
oP 72 (.load none (.t 71)),
oM 73 0,
oM 74 9,
oP 75 (.indexAddr none 1 (.t 73) (.t 74)),
oP 76 (.load none (.t 75)),
oP 77 (.indexAddr none 1 (.t 65) (.t 66)),
⟨none, .storeF 1 (.t 77) (.t 72) [],none⟩,
oP 78 (.indexAddr none 1 (.t 67) (.t 68)),
⟨none, .store 1 (.t 78) (.t 76),none⟩])
def eX.r9:ACode:=(.region none [oM 79 9,
oP 80 (.bin .add (.t 79) (.c (.int .i64 1))),
oM 9 80])
def eX.r10:ACode:=(.region none [oM 81 10,
oP 82 (.bin .sub (.t 81) (.c (.int .i64 1))),
oM 10 82])
def eX.l2:ACode:=(.block 1 (.seq (.block 2 (.loop eX.l0)) (.seq (.block 4 (.loop eX.l1)) (.seq (.seq eX.r7 (.cond (.t 64) (.exit 0) .skip)) (.seq eX.r8 (.seq eX.r9 eX.r10))))))
def eX.r11:ACode:=(.region none [oM 83 9,
oM 8 83])
def eX:AFunc:=⟨[.tmp 8],(.seq eX.r0 (.seq eX.r1 (.seq eX.r2 (.seq (.block 0 (.loop eX.l2)) (.seq eX.r11 .ret)))))⟩
def bg.r0:ACode:=(.region none [oP 8 (.move (.c (.int .i64 0))),
oP 9 (.move (.c (.bool false)))])
def bg.r1:ACode:=(.region (some 13) [oM 12 0,
oM 13 1,
oM 14 0,
oM 15 3,
oM 16 0,
oM 17 3,
oP 18 (.indexAddr none 1 (.t 16) (.t 17)),
oP 19 (.load none (.t 18)),
oM 20 0,
oM 21 1,
oP 22 (.indexAddr none 1 (.t 20) (.t 21)),
oP 23 (.load none (.t 22)),
oP 24 (.indexAddr none 1 (.t 12) (.t 13)),
⟨none, .storeF 1 (.t 24) (.t 19) [],none⟩,
oP 25 (.indexAddr none 1 (.t 14) (.t 15)),
⟨none, .store 1 (.t 25) (.t 23),none⟩])
def bg.r2:ACode:=(.region none [oM 26 1,
oP 27 (.bin .add (.t 26) (.c (.int .i64 1))),
oM 28 2,
oP 29 (.bin .sub (.t 28) (.c (.int .i64 1))),
oM 10 27,
oM 11 29])
def bg.r3:ACode:=(.region (some 14) [oM 30 10,
oM 31 11,
oP 32 (.bin .leq (.t 30) (.t 31)),
oM 33 32,
⟨some 34, .move (.t 0),some (33,true)⟩,
⟨some 35, .move (.t 10),some (33,true)⟩,
⟨some 36, .indexAddr none 1 (.t 34) (.t 35),some (33,true)⟩,
⟨some 37, .load none (.t 36),some (33,true)⟩,
⟨some 38, .move (.t 0),some (33,true)⟩,
⟨some 39, .move (.t 1),some (33,true)⟩,
⟨some 40, .indexAddr none 1 (.t 38) (.t 39),some (33,true)⟩,
⟨some 41, .load none (.t 40),some (33,true)⟩,
⟨some 42, .call 235 [.t 37, .t 41],some (33,true)⟩,
oP 43 (.pick (.t 33) (.t 42) (.c (.bool false)))])
def bg.r4:ACode:=(.region none [oM 44 10,
oP 45 (.bin .add (.t 44) (.c (.int .i64 1))),
oM 10 45])
def bg.l0:ACode:=(.seq (.seq bg.r3 (.cond (.t 43) .skip (.exit 0))) (.block 1 bg.r4))
def bg.r5:ACode:=(.region (some 15) [oM 46 10,
oM 47 11,
oP 48 (.bin .leq (.t 46) (.t 47)),
oM 49 48,
⟨some 50, .move (.t 0),some (49,true)⟩,
⟨some 51, .move (.t 11),some (49,true)⟩,
⟨some 52, .indexAddr none 1 (.t 50) (.t 51),some (49,true)⟩,
⟨some 53, .load none (.t 52),some (49,true)⟩,
⟨some 54, .move (.t 0),some (49,true)⟩,
⟨some 55, .move (.t 1),some (49,true)⟩,
⟨some 56, .indexAddr none 1 (.t 54) (.t 55),some (49,true)⟩,
⟨some 57, .load none (.t 56),some (49,true)⟩,
⟨some 58, .call 235 [.t 53, .t 57],some (49,true)⟩,
⟨some 59, .not (.t 58),some (49,true)⟩,
oP 60 (.pick (.t 49) (.t 59) (.c (.bool false)))])
def bg.r6:ACode:=(.region none [oM 61 11,
oP 62 (.bin .sub (.t 61) (.c (.int .i64 1))),
oM 11 62])
def bg.l1:ACode:=(.seq (.seq bg.r5 (.cond (.t 60) .skip (.exit 2))) (.block 3 bg.r6))
def bg.r7:ACode:=(.region none [oM 63 10,
oM 64 11,
oP 65 (.bin .gtr (.t 63) (.t 64))])
def bg.r8:ACode:=(.region (some 13) [oM 66 0,
oM 67 11,
oM 68 0,
oM 69 1,
oM 70 0,
oM 71 1,
oP 72 (.indexAddr none 1 (.t 70) (.t 71)),
oP 73 (.load none (.t 72)),
oM 74 0,
oM 75 11,
oP 76 (.indexAddr none 1 (.t 74) (.t 75)),
oP 77 (.load none (.t 76)),
oP 78 (.indexAddr none 1 (.t 66) (.t 67)),
⟨none, .storeF 1 (.t 78) (.t 73) [],none⟩,
oP 79 (.indexAddr none 1 (.t 68) (.t 69)),
⟨none, .store 1 (.t 79) (.t 77),none⟩])
def bg.r9:ACode:=(.region none [oM 80 11,
oM 8 80,
oP 9 (.move (.c (.bool true)))])
def bg.r10:ACode:=(.region (some 13) [oM 81 0,
oM 82 10,
oM 83 0,
oM 84 11,
oM 85 0,
oM 86 11,
oP 87 (.indexAddr none 1 (.t 85) (.t 86)),
oP 88 (.load none (.t 87)),
oM 89 0,
oM 90 10,
oP 91 (.indexAddr none 1 (.t 89) (.t 90)),
oP 92 (.load none (.t 91)),
oP 93 (.indexAddr none 1 (.t 81) (.t 82)),
⟨none, .storeF 1 (.t 93) (.t 88) [],none⟩,
oP 94 (.indexAddr none 1 (.t 83) (.t 84)),
⟨none, .store 1 (.t 94) (.t 92),none⟩])
def bg.r11:ACode:=(.region none [oM 95 10,
oP 96 (.bin .add (.t 95) (.c (.int .i64 1))),
oM 10 96])
def bg.r12:ACode:=(.region none [oM 97 11,
oP 98 (.bin .sub (.t 97) (.c (.int .i64 1))),
oM 11 98])
def bg.r13:ACode:=(.region (some 14) [oM 99 10,
oM 100 11,
oP 101 (.bin .leq (.t 99) (.t 100)),
oM 102 101,
⟨some 103, .move (.t 0),some (102,true)⟩,
⟨some 104, .move (.t 10),some (102,true)⟩,
⟨some 105, .indexAddr none 1 (.t 103) (.t 104),some (102,true)⟩,
⟨some 106, .load none (.t 105),some (102,true)⟩,
⟨some 107, .move (.t 0),some (102,true)⟩,
⟨some 108, .move (.t 1),some (102,true)⟩,
⟨some 109, .indexAddr none 1 (.t 107) (.t 108),some (102,true)⟩,
⟨some 110, .load none (.t 109),some (102,true)⟩,
⟨some 111, .call 235 [.t 106, .t 110],some (102,true)⟩,
oP 112 (.pick (.t 102) (.t 111) (.c (.bool false)))])
def bg.iq:ACode:=(.region none [oM 113 10,
oP 114 (.bin .add (.t 113) (.c (.int .i64 1))),
oM 10 114])
def bg.l2:ACode:=(.seq (.seq bg.r13 (.cond (.t 112) .skip (.exit 6))) (.block 7 bg.iq))
def bg.kC:ACode:=(.region (some 15) [oM 115 10,
oM 116 11,
oP 117 (.bin .leq (.t 115) (.t 116)),
oM 118 117,
⟨some 119, .move (.t 0),some (118,true)⟩,
⟨some 120, .move (.t 11),some (118,true)⟩,
⟨some 121, .indexAddr none 1 (.t 119) (.t 120),some (118,true)⟩,
⟨some 122, .load none (.t 121),some (118,true)⟩,
⟨some 123, .move (.t 0),some (118,true)⟩,
⟨some 124, .move (.t 1),some (118,true)⟩,
⟨some 125, .indexAddr none 1 (.t 123) (.t 124),some (118,true)⟩,
⟨some 126, .load none (.t 125),some (118,true)⟩,
⟨some 127, .call 235 [.t 122, .t 126],some (118,true)⟩,
⟨some 128, .not (.t 127),some (118,true)⟩,
oP 129 (.pick (.t 118) (.t 128) (.c (.bool false)))])
def bg.r16:ACode:=(.region none [oM 130 11,
oP 131 (.bin .sub (.t 130) (.c (.int .i64 1))),
oM 11 131])
def bg.l3:ACode:=(.seq (.seq bg.kC (.cond (.t 129) .skip (.exit 8))) (.block 9 bg.r16))
def bg.mF:ACode:=(.region none [oM 132 10,
oM 133 11,
oP 134 (.bin .gtr (.t 132) (.t 133))])
def bg.pW:ACode:=(.region (some 13) [oM 135 0,
oM 136 10,
oM 137 0,
oM 138 11,
oM 139 0,
oM 140 11,
oP 141 (.indexAddr none 1 (.t 139) (.t 140)),
oP 142 (.load none (.t 141)),
oM 143 0,
oM 144 10,
oP 145 (.indexAddr none 1 (.t 143) (.t 144)),
oP 146 (.load none (.t 145)),
oP 147 (.indexAddr none 1 (.t 135) (.t 136)),
⟨none, .storeF 1 (.t 147) (.t 142) [],none⟩,
oP 148 (.indexAddr none 1 (.t 137) (.t 138)),
⟨none, .store 1 (.t 148) (.t 146),none⟩])
def bg.pX:ACode:=(.region none [oM 149 10,
oP 150 (.bin .add (.t 149) (.c (.int .i64 1))),
oM 10 150])
def bg.pY:ACode:=(.region none [oM 151 11,
oP 152 (.bin .sub (.t 151) (.c (.int .i64 1))),
oM 11 152])
def bg.l4:ACode:=(.block 5 (.seq (.block 6 (.loop bg.l2)) (.seq (.block 8 (.loop bg.l3)) (.seq (.seq bg.mF (.cond (.t 134) (.exit 4) .skip)) (.seq bg.pW (.seq bg.pX bg.pY))))))
def bg.qc:ACode:=(.region (some 13) [oM 153 0,
oM 154 11,
oM 155 0,
oM 156 1,
oM 157 0,
oM 158 1,
oP 159 (.indexAddr none 1 (.t 157) (.t 158)),
oP 160 (.load none (.t 159)),
oM 161 0,
oM 162 11,
oP 163 (.indexAddr none 1 (.t 161) (.t 162)),
oP 164 (.load none (.t 163)),
oP 165 (.indexAddr none 1 (.t 153) (.t 154)),
⟨none, .storeF 1 (.t 165) (.t 160) [],none⟩,
oP 166 (.indexAddr none 1 (.t 155) (.t 156)),
⟨none, .store 1 (.t 166) (.t 164),none⟩])
def bg.r22:ACode:=(.region none [oM 167 11,
oM 8 167,
oP 9 (.move (.c (.bool false)))])
def bg:AFunc:=⟨[.tmp 8, .tmp 9],(.seq bg.r0 (.seq bg.r1 (.seq bg.r2 (.seq (.block 0 (.loop bg.l0)) (.seq (.block 2 (.loop bg.l1)) (.seq (.seq bg.r7 (.cond (.t 65) (.seq bg.r8 (.seq bg.r9 .ret)) .skip)) (.seq bg.r10 (.seq bg.r11 (.seq bg.r12 (.seq (.block 4 (.loop bg.l4)) (.seq bg.qc (.seq bg.r22 .ret))))))))))))⟩
def lS.r0:ACode:=(.region none [oP 10 (.move (.c (.int .i64 0)))])
def lS.r1:ACode:=(.region none [oM 12 0,
oM 13 1,
oM 14 2,
oM 15 4,
oP 16 (.call 246 [.t 12, .t 13, .t 14, .t 15]),
oM 11 16,
oP 17 (.extract (.t 11) 0),
oP 18 (.extract (.t 11) 1),
oM 1 17,
oM 2 18])
def lS.r2:ACode:=(.region none [oM 20 0,
oM 21 2,
oM 22 3,
oM 23 4,
oP 24 (.call 246 [.t 20, .t 21, .t 22, .t 23]),
oM 19 24,
oP 25 (.extract (.t 19) 0),
oP 26 (.extract (.t 19) 1),
oM 2 25,
oM 3 26])
def lS.r3:ACode:=(.region none [oM 28 0,
oM 29 1,
oM 30 2,
oM 31 4,
oP 32 (.call 246 [.t 28, .t 29, .t 30, .t 31]),
oM 27 32,
oP 33 (.extract (.t 27) 0),
oP 34 (.extract (.t 27) 1),
oM 1 33,
oM 2 34])
def lS.r4:ACode:=(.region none [oM 35 2,
oM 10 35])
def lS:AFunc:=⟨[.tmp 10],(.seq lS.r0 (.seq lS.r1 (.seq lS.r2 (.seq lS.r3 (.seq lS.r4 .ret)))))⟩
def lU.r0:ACode:=(.region none [oP 8 (.move (.c (.int .i64 0))),
oP 9 (.move (.c (.int .i64 0)))])
def lU.r1:ACode:=(.region (some 9) [oM 10 0,
oM 11 2,
oP 12 (.indexAddr none 1 (.t 10) (.t 11)),
oP 13 (.load none (.t 12)),
oM 14 0,
oM 15 1,
oP 16 (.indexAddr none 1 (.t 14) (.t 15)),
oP 17 (.load none (.t 16)),
oP 18 (.call 235 [.t 13, .t 17])])
def lU.r2:ACode:=(.region none [oM 19 3,
oP 20 (.nilCheck (.t 19)),
oP 21 (.load none (.t 20)),
oP 22 (.bin .add (.t 21) (.c (.int .i64 1))),
oP 23 (.nilCheck (.t 19)),
⟨none, .store 1 (.t 23) (.t 22),none⟩])
def lU.r3:ACode:=(.region none [oM 24 2,
oM 25 1,
oM 8 24,
oM 9 25])
def lU.r4:ACode:=(.region none [oM 26 1,
oM 27 2,
oM 8 26,
oM 9 27])
def lU:AFunc:=⟨[.tmp 8, .tmp 9],(.seq lU.r0 (.seq (.seq lU.r1 (.cond (.t 18) (.seq lU.r2 (.seq lU.r3 .ret)) .skip)) (.seq lU.r4 .ret)))⟩
end Go.Am
