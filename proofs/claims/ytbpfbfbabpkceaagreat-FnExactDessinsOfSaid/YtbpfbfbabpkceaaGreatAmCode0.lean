/- The code of the functions that the claim reaches, in the small machine's form: written by a program of mine, off the loaded program; the checks compare the two. -/
import Derived.Test.YtbpfbfbabpkceaaGreatAmCore
set_option linter.unusedVariables false
set_option maxRecDepth 100000
namespace Go.Am
open Go
def aV.r0:ACode:=(.region none [oP 2 (.move (.c (.bool false)))])
def aV.r1:ACode:=(.region none [oP 3 (.move (.c (.int .i64 1048576)))])
def aV.r2:ACode:=(.region none [oM 14 0,
oM 15 3,
oP 16 (.call 20 [.t 14, .t 15]),
oM 3 16])
def aV.r3:ACode:=(.region none [oM 17 3,
oP 18 (.bin .lss (.t 17) (.c (.int .i64 0)))])
def aV.r4:ACode:=(.region none [oP 2 (.move (.c (.bool true)))])
def aV.r5:ACode:=(.region none [oM 20 0,
oP 21 (.call 21 [.t 20]),
oP 22 (.call 456 [.t 21]),
oM 19 22,
oP 23 (.extract (.t 19) 0),
oP 24 (.extract (.t 19) 1),
oM 4 23,
oM 5 24])
def aV.r6:ACode:=(.region none [oM 25 0,
oP 26 (.call 21 [.t 25]),
oM 6 26])
def aV.r7:ACode:=(.region none [oM 28 6,
oP 29 (.call 457 [.t 28]),
oM 27 29,
oP 30 (.extract (.t 27) 0),
oP 31 (.extract (.t 27) 1),
oM 7 30,
oM 8 31])
def aV.r8:ACode:=(.region none [oM 32 7,
oM 33 4,
oP 34 (.call 407 [.t 32, .t 33]),
oP 35 (.not (.t 34)),
oM 36 35,
⟨some 37, .move (.t 8),some (36,false)⟩,
⟨some 38, .move (.t 5),some (36,false)⟩,
⟨some 39, .bin .neq (.t 37) (.t 38),some (36,false)⟩,
oP 40 (.pick (.t 36) (.c (.bool true)) (.t 39))])
def aV.r9:ACode:=(.region none [oP 2 (.move (.c (.bool false)))])
def aV.r10:ACode:=(.region none [oM 41 6,
oM 42 0,
oP 43 (.call 21 [.t 42]),
oP 44 (.call 24 [.t 41, .t 43]),
oP 45 (.not (.t 44))])
def aV.r11:ACode:=(.region none [oP 2 (.move (.c (.bool false)))])
def aV.r12:ACode:=(.region none [oP 9 (.move (.c (.int .i64 1)))])
def aV.r13:ACode:=(.region none [oM 46 6,
oM 47 9,
oP 48 (.call 39 [.t 46, .t 47]),
oM 9 48])
def aV.iE:ACode:=(.region none [oM 49 9,
oP 50 (.bin .lss (.t 49) (.c (.int .i64 0))),
oM 51 50,
⟨some 52, .move (.t 7),some (51,false)⟩,
⟨some 53, .move (.t 4),some (51,false)⟩,
⟨some 54, .call 407 [.t 52, .t 53],some (51,false)⟩,
⟨some 55, .not (.t 54),some (51,false)⟩,
oP 56 (.pick (.t 51) (.c (.bool true)) (.t 55)),
oM 57 56,
⟨some 58, .move (.t 8),some (57,false)⟩,
⟨some 59, .move (.t 5),some (57,false)⟩,
⟨some 60, .bin .neq (.t 58) (.t 59),some (57,false)⟩,
oP 61 (.pick (.t 57) (.c (.bool true)) (.t 60))])
def aV.jL:ACode:=(.region none [oP 2 (.move (.c (.bool false)))])
def aV.r16:ACode:=(.region none [oP 10 (.move (.c (.int .i64 1)))])
def aV.lF:ACode:=(.region none [oM 62 7,
oM 63 10,
oP 64 (.call 408 [.t 62, .t 63]),
oM 10 64])
def aV.oQ:ACode:=(.region none [oP 11 (.move (.c (.int .i64 1)))])
def aV.oU:ACode:=(.region none [oM 65 7,
oM 66 11,
oP 67 (.call 409 [.t 65, .t 66]),
oM 11 67])
def aV.qR:ACode:=(.region none [oM 68 11,
oP 69 (.bin .lss (.t 68) (.c (.int .i64 0)))])
def aV.qU:ACode:=(.region none [oP 2 (.move (.c (.bool false)))])
def aV.r22:ACode:=(.region none [oM 70 11,
oM 71 10,
oP 72 (.bin .neq (.t 70) (.t 71))])
def aV.wJ:ACode:=(.region none [oP 2 (.move (.c (.bool false)))])
def aV.wK:ACode:=(.region none [oM 74 0,
oP 75 (.call 21 [.t 74]),
oP 76 (.call 457 [.t 75]),
oM 73 76,
oP 77 (.extract (.t 73) 0),
oP 78 (.extract (.t 73) 1),
oM 12 77,
oM 13 78])
def aV.r25:ACode:=(.region none [oM 79 12,
oM 80 4,
oP 81 (.call 407 [.t 79, .t 80]),
oP 82 (.not (.t 81)),
oM 83 82,
⟨some 84, .move (.t 13),some (83,false)⟩,
⟨some 85, .move (.t 5),some (83,false)⟩,
⟨some 86, .bin .neq (.t 84) (.t 85),some (83,false)⟩,
oP 87 (.pick (.t 83) (.c (.bool true)) (.t 86))])
def aV.CO:ACode:=(.region none [oP 2 (.move (.c (.bool false)))])
def aV.r27:ACode:=(.region none [oP 11 (.move (.c (.int .i64 1)))])
def aV.r28:ACode:=(.region none [oM 88 7,
oM 89 11,
oP 90 (.call 409 [.t 88, .t 89]),
oM 11 90])
def aV.CP:ACode:=(.region none [oM 91 11,
oP 92 (.bin .lss (.t 91) (.c (.int .i64 0)))])
def aV.CQ:ACode:=(.region none [oP 2 (.move (.c (.bool false)))])
def aV.XK:ACode:=(.region none [oM 93 11,
oM 94 10,
oP 95 (.bin .neq (.t 93) (.t 94))])
def aV.r32:ACode:=(.region none [oP 2 (.move (.c (.bool false)))])
def aV.XL:ACode:=(.region none [oP 2 (.move (.c (.bool true)))])
def aV:AFunc:=⟨[.tmp 2],(.seq aV.r0 (.seq aV.r1 (.seq aV.r2 (.seq (.seq aV.r3 (.cond (.t 18) (.seq aV.r4 .ret) .skip)) (.seq aV.r5 (.seq aV.r6 (.seq aV.r7 (.seq (.seq aV.r8 (.cond (.t 40) (.seq aV.r9 .ret) .skip)) (.seq (.seq aV.r10 (.cond (.t 45) (.seq aV.r11 .ret) .skip)) (.seq aV.r12 (.seq aV.r13 (.seq (.seq aV.iE (.cond (.t 61) (.seq aV.jL .ret) .skip)) (.seq aV.r16 (.seq aV.lF (.seq aV.oQ (.seq aV.oU (.seq (.seq aV.qR (.cond (.t 69) (.seq aV.qU .ret) .skip)) (.seq (.seq aV.r22 (.cond (.t 72) (.seq aV.wJ .ret) .skip)) (.seq aV.wK (.seq (.seq aV.r25 (.cond (.t 87) (.seq aV.CO .ret) .skip)) (.seq aV.r27 (.seq aV.r28 (.seq (.seq aV.CP (.cond (.t 92) (.seq aV.CQ .ret) .skip)) (.seq (.seq aV.XK (.cond (.t 95) (.seq aV.r32 .ret) .skip)) (.seq aV.XL .ret)))))))))))))))))))))))))⟩
def fG.r0:ACode:=(.region none [oP 4 (.move (.c (.int .i64 0)))])
def fG.r1:ACode:=(.region none [oM 6 1,
oM 7 0,
oP 8 (.len (.t 7)),
oP 9 (.bin .sub (.t 6) (.t 8)),
oM 1 9])
def fG.r2:ACode:=(.region none [oM 10 1,
oP 11 (.bin .lss (.t 10) (.c (.int .i64 0)))])
def fG.r3:ACode:=(.region none [oP 4 (.move (.c (.int .i64 (-1))))])
def fG.r4:ACode:=(.region none [oP 5 (.move (.c (.int .i64 0)))])
def fG.r5:ACode:=(.region none [oM 12 5,
oM 13 0,
oP 14 (.len (.t 13)),
oP 15 (.bin .lss (.t 12) (.t 14))])
def fG.r7:ACode:=(.region none [oM 18 0,
oM 19 5,
oP 20 (.indexAddr none 1 (.t 18) (.t 19)),
oP 21 (.load none (.t 20)),
oM 22 1,
oP 23 (.call 77 [.t 21, .t 22]),
oM 1 23])
def fG.r8:ACode:=(.region none [oM 24 1,
oP 25 (.bin .lss (.t 24) (.c (.int .i64 0)))])
def fG.r9:ACode:=(.region none [oP 4 (.move (.c (.int .i64 (-1))))])
def fG.r6:ACode:=(.region none [oM 16 5,
oP 17 (.bin .add (.t 16) (.c (.int .i64 1))),
oM 5 17])
def fG.l0:ACode:=(.seq (.seq fG.r5 (.cond (.t 15) .skip (.exit 0))) (.seq (.block 1 (.seq fG.r7 (.seq fG.r8 (.cond (.t 25) (.seq fG.r9 .ret) .skip)))) fG.r6))
def fG.r10:ACode:=(.region none [oM 26 1,
oM 4 26])
def fG:AFunc:=⟨[.tmp 4],(.seq fG.r0 (.seq fG.r1 (.seq (.seq fG.r2 (.cond (.t 11) (.seq fG.r3 .ret) .skip)) (.seq (.seq fG.r4 (.block 0 (.loop fG.l0))) (.seq fG.r10 .ret)))))⟩
def iV.r0:ACode:=(.region none [oP 2 (.move (.c (.slice none 0 0))),
oP 3 (.move (.c (.int .i64 0)))])
def iV.r1:ACode:=(.region none [oM 6 0,
oP 7 (.call 335 [.t 6]),
oM 4 7])
def iV.r2:ACode:=(.region none [oM 8 4,
oP 9 (.bin .neq (.t 8) (.c (.int .i64 0)))])
def iV.r3:ACode:=(.region none [oM 10 4,
oP 2 (.move (.c (.slice none 0 0))),
oM 3 10])
def iV.r4:ACode:=(.region none [oM 11 0,
oP 12 (.call 336 [.t 11,(.c (.bool true))]),
oP 13 (.field none 2 (.t 12)),
oM 5 13])
def iV.r5:ACode:=(.region none [oM 14 5,
oP 15 (.len (.t 14)),
oP 16 (.bin .gtr (.t 15) (.c (.int .i64 3000)))])
def iV.r6:ACode:=(.region none [oP 2 (.move (.c (.slice none 0 0))),
oP 3 (.move (.c (.int .i64 3)))])
def iV.r7:ACode:=(.region none [oM 17 5,
oM 2 17,
oP 3 (.move (.c (.int .i64 0)))])
def iV:AFunc:=⟨[.tmp 2, .tmp 3],(.seq iV.r0 (.seq (.seq iV.r1 (.seq iV.r2 (.cond (.t 9) (.seq iV.r3 .ret) .skip))) (.seq iV.r4 (.seq (.seq iV.r5 (.cond (.t 16) (.seq iV.r6 .ret) .skip)) (.seq iV.r7 .ret)))))⟩
def iI.r0:ACode:=(.region none [oP 2 (.move (.c (.slice none 0 0)))])
def iI.r1:ACode:=(.region none [oM 5 0,
oP 6 (.len (.t 5)),
oP 7 (.makeSlice 1 24 [.slice none 0 0] (.t 6) (.t 6)),
oM 3 7])
def iI.r2:ACode:=(.region none [oP 4 (.move (.c (.int .i64 0)))])
def iI.r3:ACode:=(.region none [oM 8 4,
oM 9 0,
oP 10 (.len (.t 9)),
oP 11 (.bin .lss (.t 8) (.t 10))])
def iI.r5:ACode:=(.region none [oM 14 3,
oM 15 4,
oM 16 0,
oM 17 4,
oP 18 (.indexAddr none 1 (.t 16) (.t 17)),
oP 19 (.load none (.t 18)),
oP 20 (.call 0 [.t 19]),
oP 21 (.indexAddr none 1 (.t 14) (.t 15)),
⟨none, .store 1 (.t 21) (.t 20),none⟩])
def iI.r4:ACode:=(.region none [oM 12 4,
oP 13 (.bin .add (.t 12) (.c (.int .i64 1))),
oM 4 13])
def iI.l0:ACode:=(.seq (.seq iI.r3 (.cond (.t 11) .skip (.exit 0))) (.seq (.block 1 iI.r5) iI.r4))
def iI.r6:ACode:=(.region none [oM 22 3,
oM 2 22])
def iI:AFunc:=⟨[.tmp 2],(.seq iI.r0 (.seq iI.r1 (.seq (.seq iI.r2 (.block 0 (.loop iI.l0))) (.seq iI.r6 .ret))))⟩
def iQ.r0:ACode:=(.region none [oP 2 (.move (.c (.slice none 0 0))),
oP 3 (.move (.c (.int .i64 0)))])
def iQ.r1:ACode:=(.region none [oM 6 0,
oP 7 (.call 339 [.t 6]),
oM 4 7])
def iQ.r2:ACode:=(.region none [oM 8 4,
oP 9 (.bin .neq (.t 8) (.c (.int .i64 0)))])
def iQ.r3:ACode:=(.region none [oM 10 4,
oP 2 (.move (.c (.slice none 0 0))),
oM 3 10])
def iQ.r4:ACode:=(.region none [oP 11 (.makeMap),
oP 5 (.alloc [.map none]),
⟨none, .store 1 (.t 5) (.t 11),none⟩])
def iQ.r5:ACode:=(.region none [oM 12 0,
oP 13 (.makeFunc 470 [.t 5]),
oP 14 (.call 341 [.t 12, .t 13])])
def iQ.r6:ACode:=(.region none [oP 15 (.load none (.t 5)),
oP 16 (.lenMap ([.i64]++List.replicate 32 .u8) (.t 15)),
oP 17 (.bin .gtr (.t 16) (.c (.int .i64 3000)))])
def iQ.r7:ACode:=(.region none [oP 2 (.move (.c (.slice none 0 0))),
oP 3 (.move (.c (.int .i64 3)))])
def iQ.r8:ACode:=(.region none [oP 18 (.load none (.t 5)),
oP 19 (.call 421 [.t 18]),
oM 2 19,
oP 3 (.move (.c (.int .i64 0)))])
def iQ:AFunc:=⟨[.tmp 2, .tmp 3],(.seq iQ.r0 (.seq (.seq iQ.r1 (.seq iQ.r2 (.cond (.t 9) (.seq iQ.r3 .ret) .skip))) (.seq iQ.r4 (.seq iQ.r5 (.seq (.seq iQ.r6 (.cond (.t 17) (.seq iQ.r7 .ret) .skip)) (.seq iQ.r8 .ret))))))⟩
def fV.r0:ACode:=(.region none [oP 4 (.move (.c (.bool false)))])
def fV.r1:ACode:=(.region none [oM 6 0,
oP 7 (.len (.t 6)),
oM 8 1,
oP 9 (.len (.t 8)),
oP 10 (.bin .neq (.t 7) (.t 9))])
def fV.r2:ACode:=(.region none [oP 4 (.move (.c (.bool false)))])
def fV.r3:ACode:=(.region none [oP 5 (.move (.c (.int .i64 0)))])
def fV.r4:ACode:=(.region none [oM 11 5,
oM 12 0,
oP 13 (.len (.t 12)),
oP 14 (.bin .lss (.t 11) (.t 13))])
def fV.r6:ACode:=(.region (some 10) [oM 17 0,
oM 18 5,
oP 19 (.indexAddr none 33 (.t 17) (.t 18)),
oP 20 (.load (some 33) (.t 19)),
oM 21 1,
oM 22 5,
oP 23 (.indexAddr none 33 (.t 21) (.t 22)),
oP 24 (.load (some 33) (.t 23)),
oP 25 (.call 142 [.t 20, .t 24]),
oP 26 (.not (.t 25))])
def fV.r7:ACode:=(.region none [oP 4 (.move (.c (.bool false)))])
def fV.r5:ACode:=(.region none [oM 15 5,
oP 16 (.bin .add (.t 15) (.c (.int .i64 1))),
oM 5 16])
def fV.l0:ACode:=(.seq (.seq fV.r4 (.cond (.t 14) .skip (.exit 0))) (.seq (.block 1 (.seq fV.r6 (.cond (.t 26) (.seq fV.r7 .ret) .skip))) fV.r5))
def fV.r8:ACode:=(.region none [oP 4 (.move (.c (.bool true)))])
def fV:AFunc:=⟨[.tmp 4],(.seq fV.r0 (.seq (.seq fV.r1 (.cond (.t 10) (.seq fV.r2 .ret) .skip)) (.seq (.seq fV.r3 (.block 0 (.loop fV.l0))) (.seq fV.r8 .ret))))⟩
def gW.r0:ACode:=(.region none [oP 4 (.move (.c (.bool false)))])
def gW.r1:ACode:=(.region none [oM 6 0,
oP 7 (.len (.t 6)),
oM 8 1,
oP 9 (.len (.t 8)),
oP 10 (.bin .neq (.t 7) (.t 9))])
def gW.r2:ACode:=(.region none [oP 4 (.move (.c (.bool false)))])
def gW.r3:ACode:=(.region none [oP 5 (.move (.c (.int .i64 0)))])
def gW.r4:ACode:=(.region none [oM 11 5,
oM 12 0,
oP 13 (.len (.t 12)),
oP 14 (.bin .lss (.t 11) (.t 13))])
def gW.r6:ACode:=(.region (some 10) [oM 17 0,
oM 18 5,
oP 19 (.indexAddr none 1 (.t 17) (.t 18)),
oP 20 (.load none (.t 19)),
oM 21 1,
oM 22 5,
oP 23 (.indexAddr none 1 (.t 21) (.t 22)),
oP 24 (.load none (.t 23)),
oP 25 (.call 3 [.t 20, .t 24]),
oP 26 (.not (.t 25))])
def gW.r7:ACode:=(.region none [oP 4 (.move (.c (.bool false)))])
def gW.r5:ACode:=(.region none [oM 15 5,
oP 16 (.bin .add (.t 15) (.c (.int .i64 1))),
oM 5 16])
def gW.l0:ACode:=(.seq (.seq gW.r4 (.cond (.t 14) .skip (.exit 0))) (.seq (.block 1 (.seq gW.r6 (.cond (.t 26) (.seq gW.r7 .ret) .skip))) gW.r5))
def gW.r8:ACode:=(.region none [oP 4 (.move (.c (.bool true)))])
def gW:AFunc:=⟨[.tmp 4],(.seq gW.r0 (.seq (.seq gW.r1 (.cond (.t 10) (.seq gW.r2 .ret) .skip)) (.seq (.seq gW.r3 (.block 0 (.loop gW.l0))) (.seq gW.r8 .ret))))⟩
def jy.r0:ACode:=(.region none [oP 4 (.move (.c (.int .i64 0)))])
def jy.r1:ACode:=(.region none [oP 5 (.move (.c (.int .i64 0)))])
def jy.r2:ACode:=(.region none [oM 6 5,
oM 7 0,
oP 8 (.len (.t 7)),
oP 9 (.bin .lss (.t 6) (.t 8))])
def jy.r4:ACode:=(.region none [oM 12 0,
oM 13 5,
oP 14 (.indexAddr none 1 (.t 12) (.t 13)),
oP 15 (.load none (.t 14)),
oM 16 1,
oP 17 (.call 6 [.t 15, .t 16]),
oM 1 17])
def jy.r3:ACode:=(.region none [oM 10 5,
oP 11 (.bin .add (.t 10) (.c (.int .i64 1))),
oM 5 11])
def jy.l0:ACode:=(.seq (.seq jy.r2 (.cond (.t 9) .skip (.exit 0))) (.seq (.block 1 jy.r4) jy.r3))
def jy.r5:ACode:=(.region none [oM 18 1,
oM 4 18])
def jy:AFunc:=⟨[.tmp 4],(.seq jy.r0 (.seq (.seq jy.r1 (.block 0 (.loop jy.l0))) (.seq jy.r5 .ret)))⟩
def bT.r0:ACode:=(.region none [oP 4 (.move (.c (.int .i64 0)))])
def bT.r1:ACode:=(.region none [oP 5 (.move (.c (.int .i64 0)))])
def bT.r2:ACode:=(.region none [oM 8 5,
oM 9 0,
oP 10 (.len (.t 9)),
oP 11 (.bin .lss (.t 8) (.t 10))])
def bT.r4:ACode:=(.region none [oM 14 0,
oM 15 5,
oM 16 1,
oP 17 (.indexAddr none 33 (.t 14) (.t 15)),
oP 18 (.fieldAddr 0 (.t 17)),
⟨none, .store 1 (.t 18) (.t 16),none⟩])
def bT.r5:ACode:=(.region none [oM 19 1,
oP 20 (.bin .add (.t 19) (.c (.int .i64 1))),
oM 1 20])
def bT.r6:ACode:=(.region none [oP 6 (.move (.c (.int .i64 0)))])
def bT.r7:ACode:=(.region none [oM 21 6,
oP 22 (.bin .lss (.t 21) (.c (.int .i64 16)))])
def bT.r9:ACode:=(.region none [oM 25 0,
oM 26 5,
oM 27 6,
oM 28 1,
oP 29 (.conv .u8 (.t 28)),
oP 30 (.indexAddr none 33 (.t 25) (.t 26)),
oP 31 (.fieldAddr 1 (.t 30)),
oP 32 (.indexAddr (some 16) 1 (.t 31) (.t 27)),
⟨none, .store 1 (.t 32) (.t 29),none⟩])
def bT.r10:ACode:=(.region none [oM 33 1,
oP 34 (.bin .add (.t 33) (.c (.int .i64 1))),
oM 1 34])
def bT.r8:ACode:=(.region none [oM 23 6,
oP 24 (.bin .add (.t 23) (.c (.int .i64 1))),
oM 6 24])
def bT.l0:ACode:=(.seq (.seq bT.r7 (.cond (.t 22) .skip (.exit 2))) (.seq (.block 3 (.seq bT.r9 bT.r10)) bT.r8))
def bT.r11:ACode:=(.region none [oP 7 (.move (.c (.int .i64 0)))])
def bT.r12:ACode:=(.region none [oM 35 7,
oP 36 (.bin .lss (.t 35) (.c (.int .i64 16)))])
def bT.iE:ACode:=(.region none [oM 39 0,
oM 40 5,
oM 41 7,
oM 42 1,
oP 43 (.conv .u8 (.t 42)),
oP 44 (.indexAddr none 33 (.t 39) (.t 40)),
oP 45 (.fieldAddr 17 (.t 44)),
oP 46 (.indexAddr (some 16) 1 (.t 45) (.t 41)),
⟨none, .store 1 (.t 46) (.t 43),none⟩])
def bT.jL:ACode:=(.region none [oM 47 1,
oP 48 (.bin .add (.t 47) (.c (.int .i64 1))),
oM 1 48])
def bT.r13:ACode:=(.region none [oM 37 7,
oP 38 (.bin .add (.t 37) (.c (.int .i64 1))),
oM 7 38])
def bT.l1:ACode:=(.seq (.seq bT.r12 (.cond (.t 36) .skip (.exit 4))) (.seq (.block 5 (.seq bT.iE bT.jL)) bT.r13))
def bT.r3:ACode:=(.region none [oM 12 5,
oP 13 (.bin .add (.t 12) (.c (.int .i64 1))),
oM 5 13])
def bT.l2:ACode:=(.seq (.seq bT.r2 (.cond (.t 11) .skip (.exit 0))) (.seq (.block 1 (.seq bT.r4 (.seq bT.r5 (.seq (.seq bT.r6 (.block 2 (.loop bT.l0))) (.seq bT.r11 (.block 4 (.loop bT.l1))))))) bT.r3))
def bT.r16:ACode:=(.region none [oM 49 1,
oM 4 49])
def bT:AFunc:=⟨[.tmp 4],(.seq bT.r0 (.seq (.seq bT.r1 (.block 0 (.loop bT.l2))) (.seq bT.r16 .ret)))⟩
def bG.r0:ACode:=(.region none [oP 4 (.move (.c (.int .i64 0)))])
def bG.r1:ACode:=(.region none [oP 5 (.move (.c (.int .i64 0)))])
def bG.r2:ACode:=(.region none [oM 8 5,
oM 9 0,
oP 10 (.len (.t 9)),
oP 11 (.bin .lss (.t 8) (.t 10))])
def bG.r4:ACode:=(.region none [oM 14 0,
oM 15 5,
oP 16 (.indexAddr none 33 (.t 14) (.t 15)),
oP 17 (.fieldAddr 0 (.t 16)),
oP 18 (.load none (.t 17)),
oM 19 1,
oP 20 (.bin .neq (.t 18) (.t 19))])
def bG.r5:ACode:=(.region none [oP 4 (.move (.c (.int .i64 (-1))))])
def bG.r6:ACode:=(.region none [oM 21 1,
oP 22 (.bin .add (.t 21) (.c (.int .i64 1))),
oM 1 22])
def bG.r7:ACode:=(.region none [oP 6 (.move (.c (.int .i64 0)))])
def bG.r8:ACode:=(.region none [oM 23 6,
oP 24 (.bin .lss (.t 23) (.c (.int .i64 16)))])
def bG.r10:ACode:=(.region none [oM 27 0,
oM 28 5,
oM 29 6,
oP 30 (.indexAddr none 33 (.t 27) (.t 28)),
oP 31 (.fieldAddr 1 (.t 30)),
oP 32 (.indexAddr (some 16) 1 (.t 31) (.t 29)),
oP 33 (.load none (.t 32)),
oM 34 1,
oP 35 (.conv .u8 (.t 34)),
oP 36 (.bin .neq (.t 33) (.t 35))])
def bG.r11:ACode:=(.region none [oP 4 (.move (.c (.int .i64 (-1))))])
def bG.r12:ACode:=(.region none [oM 37 1,
oP 38 (.bin .add (.t 37) (.c (.int .i64 1))),
oM 1 38])
def bG.r9:ACode:=(.region none [oM 25 6,
oP 26 (.bin .add (.t 25) (.c (.int .i64 1))),
oM 6 26])
def bG.l0:ACode:=(.seq (.seq bG.r8 (.cond (.t 24) .skip (.exit 2))) (.seq (.block 3 (.seq (.seq bG.r10 (.cond (.t 36) (.seq bG.r11 .ret) .skip)) bG.r12)) bG.r9))
def bG.r13:ACode:=(.region none [oP 7 (.move (.c (.int .i64 0)))])
def bG.iE:ACode:=(.region none [oM 39 7,
oP 40 (.bin .lss (.t 39) (.c (.int .i64 16)))])
def bG.r16:ACode:=(.region none [oM 43 0,
oM 44 5,
oM 45 7,
oP 46 (.indexAddr none 33 (.t 43) (.t 44)),
oP 47 (.fieldAddr 17 (.t 46)),
oP 48 (.indexAddr (some 16) 1 (.t 47) (.t 45)),
oP 49 (.load none (.t 48)),
oM 50 1,
oP 51 (.conv .u8 (.t 50)),
oP 52 (.bin .neq (.t 49) (.t 51))])
def bG.lF:ACode:=(.region none [oP 4 (.move (.c (.int .i64 (-1))))])
def bG.oQ:ACode:=(.region none [oM 53 1,
oP 54 (.bin .add (.t 53) (.c (.int .i64 1))),
oM 1 54])
def bG.jL:ACode:=(.region none [oM 41 7,
oP 42 (.bin .add (.t 41) (.c (.int .i64 1))),
oM 7 42])
def bG.l1:ACode:=(.seq (.seq bG.iE (.cond (.t 40) .skip (.exit 4))) (.seq (.block 5 (.seq (.seq bG.r16 (.cond (.t 52) (.seq bG.lF .ret) .skip)) bG.oQ)) bG.jL))
def bG.r3:ACode:=(.region none [oM 12 5,
oP 13 (.bin .add (.t 12) (.c (.int .i64 1))),
oM 5 13])
def bG.l2:ACode:=(.seq (.seq bG.r2 (.cond (.t 11) .skip (.exit 0))) (.seq (.block 1 (.seq (.seq bG.r4 (.cond (.t 20) (.seq bG.r5 .ret) .skip)) (.seq bG.r6 (.seq (.seq bG.r7 (.block 2 (.loop bG.l0))) (.seq bG.r13 (.block 4 (.loop bG.l1))))))) bG.r3))
def bG.oU:ACode:=(.region none [oM 55 1,
oM 4 55])
def bG:AFunc:=⟨[.tmp 4],(.seq bG.r0 (.seq (.seq bG.r1 (.block 0 (.loop bG.l2))) (.seq bG.oU .ret)))⟩
def pY.r0:ACode:=(.region none [oP 6 (.move (.c (.bool false)))])
def pY.r1:ACode:=(.region none [oM 7 0,
oM 8 1,
oP 9 (.bin .geq (.t 7) (.t 8)),
oM 10 9,
⟨some 11, .move (.t 0),some (10,true)⟩,
⟨some 12, .move (.t 2),some (10,true)⟩,
⟨some 13, .bin .leq (.t 11) (.t 12),some (10,true)⟩,
oP 14 (.pick (.t 10) (.t 13) (.c (.bool false))),
oM 6 14])
def pY:AFunc:=⟨[.tmp 6],(.seq pY.r0 (.seq pY.r1 .ret))⟩
def dB.r0:ACode:=(.region none [oP 2 (.box (.t 0)),
oP 4 (.move (.c (.slice none 0 0)))])
def dB.r1:ACode:=(.region none [oP 11 (.build (List.replicate 17 (.int .i64 0)) []),
oP 12 (.load (some 16) (.t 2)),
oM 13 1,
oP 14 (.call 285 [.t 12, .t 13]),
oP 15 (.buildSlice 1 0 [.int .i64 0] []),
oP 5 (.alloc (List.replicate 17 (.int .i64 0))),
⟨none, .store 17 (.t 5) (.t 11),none⟩,
oM 6 14,
oM 7 15])
def dB.r2:ACode:=(.region none [oP 8 (.move (.c (.int .i64 0)))])
def dB.r3:ACode:=(.region none [oM 16 8,
oM 17 6,
oP 18 (.len (.t 17)),
oP 19 (.bin .lss (.t 16) (.t 18))])
def dB.r5:ACode:=(.region none [oM 22 6,
oM 23 8,
oP 24 (.indexAddr none 1 (.t 22) (.t 23)),
oP 25 (.load none (.t 24)),
oP 26 (.len (.t 25)),
oP 27 (.indexAddr (some 17) 1 (.t 5) (.t 26)),
oP 28 (.load none (.t 27)),
oP 29 (.bin .add (.t 28) (.c (.int .i64 1))),
oP 30 (.indexAddr (some 17) 1 (.t 5) (.t 26)),
⟨none, .store 1 (.t 30) (.t 29),none⟩])
def dB.r4:ACode:=(.region none [oM 20 8,
oP 21 (.bin .add (.t 20) (.c (.int .i64 1))),
oM 8 21])
def dB.l0:ACode:=(.seq (.seq dB.r3 (.cond (.t 19) .skip (.exit 0))) (.seq (.block 1 dB.r5) dB.r4))
def dB.r6:ACode:=(.region none [oM 31 1,
oM 9 31])
def dB.r7:ACode:=(.region none [oM 32 9,
oP 33 (.bin .gtr (.t 32) (.c (.int .i64 0)))])
def dB.r9:ACode:=(.region none [oM 36 9,
oP 37 (.indexAddr (some 17) 1 (.t 5) (.t 36)),
oP 38 (.load none (.t 37)),
oM 10 38])
def dB.r10:ACode:=(.region none [oM 39 10,
oP 40 (.bin .gtr (.t 39) (.c (.int .i64 0)))])
def dB.r12:ACode:=(.region none [oM 43 7,
oM 44 9,
oP 45 (.buildSlice 1 1 [.int .i64 0] [(0,1, .t 44)]),
oP 46 (.append 1 8 (.t 43) (.t 45)),
oM 7 46])
def dB.r11:ACode:=(.region none [oM 41 10,
oP 42 (.bin .sub (.t 41) (.c (.int .i64 1))),
oM 10 42])
def dB.l1:ACode:=(.seq (.seq dB.r10 (.cond (.t 40) .skip (.exit 4))) (.seq (.block 5 dB.r12) dB.r11))
def dB.r8:ACode:=(.region none [oM 34 9,
oP 35 (.bin .sub (.t 34) (.c (.int .i64 1))),
oM 9 35])
def dB.l2:ACode:=(.seq (.seq dB.r7 (.cond (.t 33) .skip (.exit 2))) (.seq (.block 3 (.seq dB.r9 (.block 4 (.loop dB.l1)))) dB.r8))
def dB.r13:ACode:=(.region none [oM 47 7,
oM 4 47])
def dB:AFunc:=⟨[.tmp 4],(.seq dB.r0 (.seq dB.r1 (.seq (.seq dB.r2 (.block 0 (.loop dB.l0))) (.seq (.seq dB.r6 (.block 2 (.loop dB.l2))) (.seq dB.r13 .ret)))))⟩
def qc.r0:ACode:=(.region none [oP 1 (.box (.t 0)),
oP 2 (.alloc (List.replicate 16 (.int .u8 0)))])
def qc.r1:ACode:=(.region (some 10) [oP 3 (.fieldAddr 1 (.t 1)),
oP 4 (.load (some 16) (.t 3)),
oP 5 (.fieldAddr 17 (.t 1)),
oP 6 (.load (some 16) (.t 5)),
oP 7 (.fieldAddr 0 (.t 1)),
oP 8 (.load none (.t 7)),
oP 9 (.call 212 [.t 4, .t 6, .t 8]),
oP 10 (.fieldAddr 0 (.t 1)),
oP 11 (.load none (.t 10)),
oP 12 (.call 208 [.t 9, .t 11]),
⟨none, .store 16 (.t 2) (.t 12),none⟩])
def qc:AFunc:=⟨[.cell 2 (some 16)],(.seq qc.r0 (.seq qc.r1 .ret))⟩
def kU.r0:ACode:=(.region none [oP 4 (.move (.c (.int .i64 0)))])
def kU.r1:ACode:=(.region none [oM 5 1,
oM 6 0,
oP 7 (.len (.t 6)),
oP 8 (.bin .sub (.t 5) (.t 7)),
oM 1 8])
def kU.r2:ACode:=(.region none [oM 9 1,
oP 10 (.bin .lss (.t 9) (.c (.int .i64 0)))])
def kU.r3:ACode:=(.region none [oP 4 (.move (.c (.int .i64 (-1))))])
def kU.r4:ACode:=(.region none [oM 11 1,
oM 4 11])
def kU:AFunc:=⟨[.tmp 4],(.seq kU.r0 (.seq kU.r1 (.seq (.seq kU.r2 (.cond (.t 10) (.seq kU.r3 .ret) .skip)) (.seq kU.r4 .ret))))⟩
def jY.r0:ACode:=(.region none [oP 2 (.move (.c (.int .i64 0)))])
def jY.r1:ACode:=(.region none [oM 4 0,
oP 5 (.call 78 [.t 4]),
oP 6 (.not (.t 5)),
oM 3 6])
def jY.r2:ACode:=(.region none [oP 2 (.move (.c (.int .i64 1)))])
def jY.r3:ACode:=(.region none [oM 8 0,
oP 9 (.indexAddr none 1 (.t 8) (.c (.int .i64 0))),
oP 10 (.load none (.t 9)),
oP 11 (.call 79 [.t 10]),
oP 12 (.bin .gtr (.t 11) (.c (.int .i64 8))),
oM 7 12])
def jY.r4:ACode:=(.region none [oP 2 (.move (.c (.int .i64 2)))])
def jY.r5:ACode:=(.region none [oP 2 (.move (.c (.int .i64 0)))])
def jY:AFunc:=⟨[.tmp 2],(.seq jY.r0 (.seq (.block 0 (.seq jY.r1 (.cond (.t 3) (.seq jY.r2 .ret) (.seq jY.r3 (.cond (.t 7) (.seq jY.r4 .ret) .skip))))) (.seq jY.r5 .ret)))⟩
def nR.r0:ACode:=(.region none [oP 4 (.alloc ([.int .i64 0, .int .i64 0]++[.slice none 0 0]++[.bool false]))])
def nR.r1:ACode:=(.region none [oM 6 0,
oP 7 (.indexAddr none 1 (.t 6) (.c (.int .i64 0))),
oP 8 (.load none (.t 7)),
oP 9 (.call 79 [.t 8]),
oM 5 9])
def nR.r2:ACode:=(.region none [oM 10 1,
oP 11 (.build ([.int .i64 0, .int .i64 0]++[.slice none 0 0]++[.bool false]) [(3,1, .t 10)]),
oM 12 0,
oP 13 (.indexAddr none 1 (.t 12) (.c (.int .i64 0))),
oP 14 (.load none (.t 13)),
oP 15 (.call 363 [.t 14]),
oM 16 5,
oP 17 (.call 364 [.t 16]),
oM 18 5,
oM 19 0,
oP 20 (.call 365 [.t 11, .t 15, .t 17,(.c (.int .i64 0)), .t 18, .t 19]),
⟨none, .store 4 (.t 4) (.t 20),none⟩])
def nR:AFunc:=⟨[.cell 4 (some 4)],(.seq nR.r0 (.seq nR.r1 (.seq nR.r2 .ret)))⟩
def iW.r0:ACode:=(.region none [oP 2 (.move (.c (.slice none 0 0)))])
def iW.r1:ACode:=(.region none [oM 5 0,
oP 6 (.len (.t 5)),
oP 7 (.makeSlice 1 8 [.int .i64 0] (.t 6) (.t 6)),
oM 3 7])
def iW.r2:ACode:=(.region none [oP 4 (.move (.c (.int .i64 0)))])
def iW.r3:ACode:=(.region none [oM 8 4,
oM 9 0,
oP 10 (.len (.t 9)),
oP 11 (.bin .lss (.t 8) (.t 10))])
def iW.r5:ACode:=(.region none [oM 14 3,
oM 15 4,
oM 16 0,
oM 17 4,
oP 18 (.indexAddr none 1 (.t 16) (.t 17)),
oP 19 (.load none (.t 18)),
oP 20 (.indexAddr none 1 (.t 14) (.t 15)),
⟨none, .store 1 (.t 20) (.t 19),none⟩])
def iW.r4:ACode:=(.region none [oM 12 4,
oP 13 (.bin .add (.t 12) (.c (.int .i64 1))),
oM 4 13])
def iW.l0:ACode:=(.seq (.seq iW.r3 (.cond (.t 11) .skip (.exit 0))) (.seq (.block 1 iW.r5) iW.r4))
def iW.r6:ACode:=(.region none [oM 21 3,
oM 2 21])
def iW:AFunc:=⟨[.tmp 2],(.seq iW.r0 (.seq iW.r1 (.seq (.seq iW.r2 (.block 0 (.loop iW.l0))) (.seq iW.r6 .ret))))⟩
def jJ.r0:ACode:=(.region none [oP 2 (.move (.c (.int .i64 0)))])
def jJ.r1:ACode:=(.region none [oM 4 0,
oP 5 (.call 80 [.t 4]),
oM 3 5])
def jJ.r2:ACode:=(.region none [oM 7 3,
oP 8 (.bin .eql (.t 7) (.c (.int .i64 0))),
oM 6 8])
def jJ.r3:ACode:=(.region none [oP 2 (.move (.c (.int .i64 1)))])
def jJ.r4:ACode:=(.region none [oM 10 3,
oP 11 (.bin .gtr (.t 10) (.c (.int .i64 8))),
oM 9 11])
def jJ.r5:ACode:=(.region none [oP 2 (.move (.c (.int .i64 2)))])
def jJ.r6:ACode:=(.region none [oP 2 (.move (.c (.int .i64 0)))])
def jJ:AFunc:=⟨[.tmp 2],(.seq jJ.r0 (.seq (.seq jJ.r1 (.block 0 (.seq jJ.r2 (.cond (.t 6) (.seq jJ.r3 .ret) (.seq jJ.r4 (.cond (.t 9) (.seq jJ.r5 .ret) .skip)))))) (.seq jJ.r6 .ret)))⟩
def kV.r0:ACode:=(.region none [oP 2 (.box (.t 0)),
oP 3 (.box (.t 1)),
oP 4 (.move (.c (.int .i64 0)))])
def kV.r1:ACode:=(.region none [oP 7 (.load none (.t 2)),
oP 8 (.call 80 [.t 7]),
oP 5 (.alloc [.int .i64 0]),
⟨none, .store 1 (.t 5) (.t 8),none⟩])
def kV.r2:ACode:=(.region none [oP 9 (.load none (.t 2)),
oP 10 (.indexAddr none 1 (.t 9) (.c (.int .i64 0))),
oP 11 (.load none (.t 10)),
oP 12 (.call 366 [.t 11]),
oP 6 (.alloc (List.replicate 16 (.int .u8 0))),
⟨none, .store 16 (.t 6) (.t 12),none⟩])
def kV.r3:ACode:=(.region none [oP 13 (.load none (.t 5)),
oP 14 (.makeFunc 367 [.t 5, .t 6, .t 2, .t 3]),
oP 15 (.call 368 [.t 13, .t 14])])
def kV.r4:ACode:=(.region (some 8) [oP 16 (.load none (.t 5)),
oP 17 (.call 69 [.t 16]),
oP 18 (.load none (.t 2)),
oP 19 (.indexAddr none 1 (.t 18) (.c (.int .i64 0))),
oP 20 (.load none (.t 19)),
oP 21 (.call 354 [.t 20]),
oP 22 (.bin .quo (.t 17) (.t 21)),
oM 4 22])
def kV:AFunc:=⟨[.tmp 4],(.seq kV.r0 (.seq kV.r1 (.seq kV.r2 (.seq kV.r3 (.seq kV.r4 .ret)))))⟩
def nS.r0:ACode:=(.region none [oP 2 (.box (.t 0))])
def nS.r1:ACode:=(.region none [oP 3 (.load (some 33) (.t 2)),
oP 4 (.call 369 [.t 3])])
def nS.r2:ACode:=(.region (some 3) [oP 5 (.load none (.t 1)),
oP 6 (.load (some 33) (.t 2)),
oP 7 (.call 198 [.t 6]),
⟨none, .mapPut ([.i64]++List.replicate 32 .u8) (.t 5) (.t 7),none⟩])
def nS:AFunc:=⟨[],(.seq nS.r0 (.seq nS.r1 (.cond (.t 4) nS.r2 .skip)))⟩
def jm.r0:ACode:=(.region none [oP 2 (.box (.t 0)),
oP 3 (.box (.t 1)),
oP 4 (.move (.c (.bool false)))])
def jm.r1:ACode:=(.region none [oP 5 (.fieldAddr 0 (.t 2)),
oP 6 (.load none (.t 5)),
oP 7 (.fieldAddr 0 (.t 3)),
oP 8 (.load none (.t 7)),
oP 9 (.bin .neq (.t 6) (.t 8))])
def jm.r2:ACode:=(.region none [oP 4 (.move (.c (.bool false)))])
def jm.r3:ACode:=(.region none [oP 10 (.fieldAddr 1 (.t 2)),
oP 11 (.load (some 16) (.t 10)),
oP 12 (.fieldAddr 1 (.t 3)),
oP 13 (.load (some 16) (.t 12)),
oP 14 (.call 189 [.t 11, .t 13]),
oP 15 (.not (.t 14))])
def jm.r4:ACode:=(.region none [oP 4 (.move (.c (.bool false)))])
def jm.r5:ACode:=(.region none [oP 16 (.fieldAddr 17 (.t 2)),
oP 17 (.load (some 16) (.t 16)),
oP 18 (.fieldAddr 17 (.t 3)),
oP 19 (.load (some 16) (.t 18)),
oP 20 (.call 189 [.t 17, .t 19]),
oP 21 (.not (.t 20))])
def jm.r6:ACode:=(.region none [oP 4 (.move (.c (.bool false)))])
def jm.r7:ACode:=(.region none [oP 4 (.move (.c (.bool true)))])
def jm:AFunc:=⟨[.tmp 4],(.seq jm.r0 (.seq (.seq jm.r1 (.cond (.t 9) (.seq jm.r2 .ret) .skip)) (.seq (.seq jm.r3 (.cond (.t 15) (.seq jm.r4 .ret) .skip)) (.seq (.seq jm.r5 (.cond (.t 21) (.seq jm.r6 .ret) .skip)) (.seq jm.r7 .ret)))))⟩
def gX.r0:ACode:=(.region none [oP 4 (.move (.c (.bool false)))])
def gX.r1:ACode:=(.region none [oM 6 0,
oP 7 (.len (.t 6)),
oM 8 1,
oP 9 (.len (.t 8)),
oP 10 (.bin .neq (.t 7) (.t 9))])
def gX.r2:ACode:=(.region none [oP 4 (.move (.c (.bool false)))])
def gX.r3:ACode:=(.region none [oP 5 (.move (.c (.int .i64 0)))])
def gX.r4:ACode:=(.region none [oM 11 5,
oM 12 0,
oP 13 (.len (.t 12)),
oP 14 (.bin .lss (.t 11) (.t 13))])
def gX.r6:ACode:=(.region (some 9) [oM 17 0,
oM 18 5,
oP 19 (.indexAddr none 1 (.t 17) (.t 18)),
oP 20 (.load none (.t 19)),
oM 21 1,
oM 22 5,
oP 23 (.indexAddr none 1 (.t 21) (.t 22)),
oP 24 (.load none (.t 23)),
oP 25 (.bin .neq (.t 20) (.t 24))])
def gX.r7:ACode:=(.region none [oP 4 (.move (.c (.bool false)))])
def gX.r5:ACode:=(.region none [oM 15 5,
oP 16 (.bin .add (.t 15) (.c (.int .i64 1))),
oM 5 16])
def gX.l0:ACode:=(.seq (.seq gX.r4 (.cond (.t 14) .skip (.exit 0))) (.seq (.block 1 (.seq gX.r6 (.cond (.t 25) (.seq gX.r7 .ret) .skip))) gX.r5))
def gX.r8:ACode:=(.region none [oP 4 (.move (.c (.bool true)))])
def gX:AFunc:=⟨[.tmp 4],(.seq gX.r0 (.seq (.seq gX.r1 (.cond (.t 10) (.seq gX.r2 .ret) .skip)) (.seq (.seq gX.r3 (.block 0 (.loop gX.l0))) (.seq gX.r8 .ret))))⟩
def iY.r0:ACode:=(.region none [oP 4 (.move (.c (.int .i64 0)))])
def iY.r1:ACode:=(.region none [oP 5 (.move (.c (.int .i64 0)))])
def iY.r2:ACode:=(.region none [oM 6 5,
oM 7 0,
oP 8 (.len (.t 7)),
oP 9 (.bin .lss (.t 6) (.t 8))])
def iY.r4:ACode:=(.region none [oM 12 0,
oM 13 5,
oM 14 1,
oP 15 (.indexAddr none 1 (.t 12) (.t 13)),
⟨none, .store 1 (.t 15) (.t 14),none⟩])
def iY.r5:ACode:=(.region none [oM 16 1,
oP 17 (.bin .add (.t 16) (.c (.int .i64 1))),
oM 1 17])
def iY.r3:ACode:=(.region none [oM 10 5,
oP 11 (.bin .add (.t 10) (.c (.int .i64 1))),
oM 5 11])
def iY.l0:ACode:=(.seq (.seq iY.r2 (.cond (.t 9) .skip (.exit 0))) (.seq (.block 1 (.seq iY.r4 iY.r5)) iY.r3))
def iY.r6:ACode:=(.region none [oM 18 1,
oM 4 18])
def iY:AFunc:=⟨[.tmp 4],(.seq iY.r0 (.seq (.seq iY.r1 (.block 0 (.loop iY.l0))) (.seq iY.r6 .ret)))⟩
def iZ.r0:ACode:=(.region none [oP 2 (.move (.c (.int .i64 0)))])
def iZ.r1:ACode:=(.region none [oP 3 (.move (.c (.int .i64 0)))])
def iZ.r2:ACode:=(.region none [oP 4 (.move (.c (.int .i64 0)))])
def iZ.r3:ACode:=(.region none [oM 5 4,
oM 6 0,
oP 7 (.len (.t 6)),
oP 8 (.bin .lss (.t 5) (.t 7))])
def iZ.r5:ACode:=(.region none [oM 11 3,
oM 12 0,
oM 13 4,
oP 14 (.indexAddr none 1 (.t 12) (.t 13)),
oP 15 (.load none (.t 14)),
oP 16 (.bin .add (.t 11) (.t 15)),
oM 3 16])
def iZ.r4:ACode:=(.region none [oM 9 4,
oP 10 (.bin .add (.t 9) (.c (.int .i64 1))),
oM 4 10])
def iZ.l0:ACode:=(.seq (.seq iZ.r3 (.cond (.t 8) .skip (.exit 0))) (.seq (.block 1 iZ.r5) iZ.r4))
def iZ.r6:ACode:=(.region none [oM 17 3,
oM 2 17])
def iZ:AFunc:=⟨[.tmp 2],(.seq iZ.r0 (.seq iZ.r1 (.seq (.seq iZ.r2 (.block 0 (.loop iZ.l0))) (.seq iZ.r6 .ret))))⟩
def gY.r0:ACode:=(.region none [oP 1 (.box (.t 0)),
oP 2 (.alloc ([.int .i64 0]++List.replicate 32 (.int .u8 0)))])
def gY.r1:ACode:=(.region (some 5) [oP 6 (.load (some 33) (.t 1)),
oP 7 (.load (some 33) (.t 1)),
oP 8 (.call 215 [.t 7,(.c (.int .i64 0))]),
oP 9 (.call 216 [.t 6, .t 8]),
oP 3 (.alloc ([.int .i64 0]++List.replicate 32 (.int .u8 0))),
⟨none, .store 33 (.t 3) (.t 9),none⟩])
def gY.r2:ACode:=(.region none [oP 4 (.move (.c (.int .i64 1)))])
def gY.r3:ACode:=(.region none [oM 10 4,
oP 11 (.fieldAddr 0 (.t 1)),
oP 12 (.load none (.t 11)),
oP 13 (.bin .lss (.t 10) (.t 12))])
def gY.r5:ACode:=(.region (some 6) [oP 16 (.load (some 33) (.t 1)),
oP 17 (.load (some 33) (.t 1)),
oM 18 4,
oP 19 (.call 215 [.t 17, .t 18]),
oP 20 (.call 216 [.t 16, .t 19]),
oP 5 (.alloc ([.int .i64 0]++List.replicate 32 (.int .u8 0))),
⟨none, .store 33 (.t 5) (.t 20),none⟩])
def gY.r6:ACode:=(.region none [oP 21 (.load (some 33) (.t 5)),
oP 22 (.load (some 33) (.t 3)),
oP 23 (.call 217 [.t 21, .t 22]),
oP 24 (.bin .lss (.t 23) (.c (.int .i64 0)))])
def gY.r7:ACode:=(.region none [oP 25 (.load (some 33) (.t 5)),
⟨none, .store 33 (.t 3) (.t 25),none⟩])
def gY.r4:ACode:=(.region none [oM 14 4,
oP 15 (.bin .add (.t 14) (.c (.int .i64 1))),
oM 4 15])
def gY.l0:ACode:=(.seq (.seq gY.r3 (.cond (.t 13) .skip (.exit 0))) (.seq (.block 1 (.seq gY.r5 (.seq gY.r6 (.cond (.t 24) gY.r7 .skip)))) gY.r4))
def gY.r8:ACode:=(.region none [oP 26 (.load (some 33) (.t 3)),
⟨none, .store 33 (.t 2) (.t 26),none⟩])
def gY:AFunc:=⟨[.cell 2 (some 33)],(.seq gY.r0 (.seq gY.r1 (.seq (.seq gY.r2 (.block 0 (.loop gY.l0))) (.seq gY.r8 .ret))))⟩
def jK.r0:ACode:=(.region none [oP 2 (.move (.c (.int .i64 0)))])
def jK.r1:ACode:=(.region none [oM 4 0,
oP 5 (.len (.t 4)),
oP 6 (.bin .neq (.t 5) (.c (.int .i64 3)))])
def jK.r2:ACode:=(.region none [oP 2 (.move (.c (.int .i64 0)))])
def jK.r3:ACode:=(.region none [oM 7 0,
oP 8 (.indexAddr none 1 (.t 7) (.c (.int .i64 0))),
oP 9 (.load none (.t 8)),
oP 10 (.call 68 [.t 9]),
oM 3 10])
def jK.r4:ACode:=(.region none [oM 11 0,
oP 12 (.indexAddr none 1 (.t 11) (.c (.int .i64 1))),
oP 13 (.load none (.t 12)),
oP 14 (.call 68 [.t 13]),
oM 15 3,
oP 16 (.bin .neq (.t 14) (.t 15)),
oM 17 16,
⟨some 18, .move (.t 0),some (17,false)⟩,
⟨some 19, .indexAddr none 1 (.t 18) (.c (.int .i64 2)),some (17,false)⟩,
⟨some 20, .load none (.t 19),some (17,false)⟩,
⟨some 21, .call 68 [.t 20],some (17,false)⟩,
⟨some 22, .move (.t 3),some (17,false)⟩,
⟨some 23, .bin .neq (.t 21) (.t 22),some (17,false)⟩,
oP 24 (.pick (.t 17) (.c (.bool true)) (.t 23))])
def jK.r5:ACode:=(.region none [oP 2 (.move (.c (.int .i64 0)))])
def jK.r6:ACode:=(.region none [oM 25 3,
oM 2 25])
def jK:AFunc:=⟨[.tmp 2],(.seq jK.r0 (.seq (.seq jK.r1 (.cond (.t 6) (.seq jK.r2 .ret) .skip)) (.seq jK.r3 (.seq (.seq jK.r4 (.cond (.t 24) (.seq jK.r5 .ret) .skip)) (.seq jK.r6 .ret)))))⟩
def dO.r0:ACode:=(.region none [oP 2 (.move (.c (.int .i64 0)))])
def dO.r1:ACode:=(.region none [oP 3 (.move (.c (.int .i64 0)))])
def dO.r2:ACode:=(.region none [oM 6 0,
oP 7 (.len (.t 6)),
oP 8 (.move (.c (.int .i64 0)))])
def dO.r3:ACode:=(.region none [oP 9 (.bin .lss (.t 8) (.t 7))])
def dO.r4:ACode:=(.region none [oM 10 8,
oP 11 (.indexAddr none 1 (.t 6) (.t 8)),
oP 12 (.load none (.t 11)),
oM 4 10,
oM 5 12])
def dO.r5:ACode:=(.region none [oM 13 5,
oP 14 (.bin .lss (.t 13) (.c (.int .i64 1))),
oM 15 14,
⟨some 16, .move (.t 5),some (15,false)⟩,
⟨some 17, .bin .gtr (.t 16) (.c (.int .i64 16)),some (15,false)⟩,
oP 18 (.pick (.t 15) (.c (.bool true)) (.t 17)),
oM 19 18,
⟨some 20, .move (.t 4),some (19,false)⟩,
⟨some 21, .bin .gtr (.t 20) (.c (.int .i64 0)),some (19,false)⟩,
⟨some 22, .move (.t 21),some (19,false)⟩,
⟨some 23, .move (.t 5),some (22,true)⟩,
⟨some 24, .move (.t 0),some (22,true)⟩,
⟨some 25, .move (.t 4),some (22,true)⟩,
⟨some 26, .bin .sub (.t 25) (.c (.int .i64 1)),some (22,true)⟩,
⟨some 27, .indexAddr none 1 (.t 24) (.t 26),some (22,true)⟩,
⟨some 28, .load none (.t 27),some (22,true)⟩,
⟨some 29, .bin .gtr (.t 23) (.t 28),some (22,true)⟩,
⟨some 30, .pick (.t 22) (.t 29) (.c (.bool false)),some (19,false)⟩,
oP 31 (.pick (.t 19) (.c (.bool true)) (.t 30))])
def dO.r6:ACode:=(.region none [oP 2 (.move (.c (.int .i64 0)))])
def dO.r7:ACode:=(.region none [oM 32 3,
oM 33 5,
oP 34 (.bin .add (.t 32) (.t 33)),
oM 3 34])
def dO.r8:ACode:=(.region none [oM 35 3,
oP 36 (.bin .gtr (.t 35) (.c (.int .i64 16)))])
def dO.r9:ACode:=(.region none [oP 2 (.move (.c (.int .i64 0)))])
def dO.r10:ACode:=(.region none [oP 37 (.bin .add (.t 8) (.c (.int .i64 1))),
oM 8 37])
def dO.l0:ACode:=(.seq dO.r3 (.seq (.cond (.t 9) .skip (.exit 0)) (.seq (.block 1 (.seq dO.r4 (.seq (.seq dO.r5 (.cond (.t 31) (.seq dO.r6 .ret) .skip)) (.seq dO.r7 (.seq dO.r8 (.cond (.t 36) (.seq dO.r9 .ret) .skip)))))) dO.r10)))
def dO.r11:ACode:=(.region none [oM 38 3,
oM 2 38])
def dO:AFunc:=⟨[.tmp 2],(.seq dO.r0 (.seq dO.r1 (.seq (.seq dO.r2 (.block 0 (.loop dO.l0))) (.seq dO.r11 .ret))))⟩
def fZ.r0:ACode:=(.region none [oP 4 (.move (.c (.bool false)))])
def fZ.r1:ACode:=(.region none [oM 6 0,
oP 7 (.len (.t 6)),
oM 8 1,
oP 9 (.len (.t 8)),
oP 10 (.bin .neq (.t 7) (.t 9))])
def fZ.r2:ACode:=(.region none [oP 4 (.move (.c (.bool false)))])
def fZ.r3:ACode:=(.region none [oM 11 0,
oP 12 (.len (.t 11)),
oP 13 (.move (.c (.int .i64 0)))])
def fZ.r4:ACode:=(.region none [oP 14 (.bin .lss (.t 13) (.t 12))])
def fZ.r5:ACode:=(.region none [oM 15 13,
oM 5 15])
def fZ.r6:ACode:=(.region (some 9) [oM 16 0,
oM 17 5,
oP 18 (.indexAddr none 1 (.t 16) (.t 17)),
oP 19 (.load none (.t 18)),
oM 20 1,
oM 21 5,
oP 22 (.indexAddr none 1 (.t 20) (.t 21)),
oP 23 (.load none (.t 22)),
oP 24 (.bin .neq (.t 19) (.t 23))])
def fZ.r7:ACode:=(.region none [oP 4 (.move (.c (.bool false)))])
def fZ.r8:ACode:=(.region none [oP 25 (.bin .add (.t 13) (.c (.int .i64 1))),
oM 13 25])
def fZ.l0:ACode:=(.seq fZ.r4 (.seq (.cond (.t 14) .skip (.exit 0)) (.seq (.block 1 (.seq fZ.r5 (.seq fZ.r6 (.cond (.t 24) (.seq fZ.r7 .ret) .skip)))) fZ.r8)))
def fZ.r9:ACode:=(.region none [oP 4 (.move (.c (.bool true)))])
def fZ:AFunc:=⟨[.tmp 4],(.seq fZ.r0 (.seq (.seq fZ.r1 (.cond (.t 10) (.seq fZ.r2 .ret) .skip)) (.seq (.seq fZ.r3 (.block 0 (.loop fZ.l0))) (.seq fZ.r9 .ret))))⟩
def eF.r0:ACode:=(.region none [oP 2 (.alloc (List.replicate 16 (.int .u8 0)))])
def eF.r1:ACode:=(.region none [oP 7 (.build (List.replicate 16 (.int .u8 0)) []),
oP 3 (.alloc (List.replicate 16 (.int .u8 0))),
⟨none, .store 16 (.t 3) (.t 7),none⟩,
oP 4 (.move (.c (.int .i64 0)))])
def eF.r2:ACode:=(.region none [oP 5 (.move (.c (.int .i64 0)))])
def eF.r3:ACode:=(.region none [oM 8 5,
oM 9 0,
oP 10 (.len (.t 9)),
oP 11 (.bin .lss (.t 8) (.t 10))])
def eF.r5:ACode:=(.region none [oP 6 (.move (.c (.int .i64 0)))])
def eF.r6:ACode:=(.region none [oM 14 6,
oM 15 0,
oM 16 5,
oP 17 (.indexAddr none 1 (.t 15) (.t 16)),
oP 18 (.load none (.t 17)),
oP 19 (.bin .lss (.t 14) (.t 18))])
def eF.r8:ACode:=(.region none [oM 22 4,
oM 23 6,
oP 24 (.bin .add (.t 22) (.t 23)),
oM 25 4,
oM 26 6,
oP 27 (.bin .add (.t 26) (.c (.int .i64 1))),
oM 28 0,
oM 29 5,
oP 30 (.indexAddr none 1 (.t 28) (.t 29)),
oP 31 (.load none (.t 30)),
oP 32 (.bin .rem (.t 27) (.t 31)),
oP 33 (.bin .add (.t 25) (.t 32)),
oP 34 (.conv .u8 (.t 33)),
oP 35 (.indexAddr (some 16) 1 (.t 3) (.t 24)),
⟨none, .store 1 (.t 35) (.t 34),none⟩])
def eF.r7:ACode:=(.region none [oM 20 6,
oP 21 (.bin .add (.t 20) (.c (.int .i64 1))),
oM 6 21])
def eF.l0:ACode:=(.seq (.seq eF.r6 (.cond (.t 19) .skip (.exit 2))) (.seq (.block 3 eF.r8) eF.r7))
def eF.r9:ACode:=(.region none [oM 36 4,
oM 37 0,
oM 38 5,
oP 39 (.indexAddr none 1 (.t 37) (.t 38)),
oP 40 (.load none (.t 39)),
oP 41 (.bin .add (.t 36) (.t 40)),
oM 4 41])
def eF.r4:ACode:=(.region none [oM 12 5,
oP 13 (.bin .add (.t 12) (.c (.int .i64 1))),
oM 5 13])
def eF.l1:ACode:=(.seq (.seq eF.r3 (.cond (.t 11) .skip (.exit 0))) (.seq (.block 1 (.seq (.seq eF.r5 (.block 2 (.loop eF.l0))) eF.r9)) eF.r4))
def eF.r10:ACode:=(.region none [oP 42 (.load (some 16) (.t 3)),
⟨none, .store 16 (.t 2) (.t 42),none⟩])
def eF:AFunc:=⟨[.cell 2 (some 16)],(.seq eF.r0 (.seq eF.r1 (.seq (.seq eF.r2 (.block 0 (.loop eF.l1))) (.seq eF.r10 .ret))))⟩
def jc.r0:ACode:=(.region none [oP 2 (.alloc (List.replicate 16 (.int .u8 0)))])
def jc.r1:ACode:=(.region none [oP 5 (.build (List.replicate 16 (.int .u8 0)) []),
oP 3 (.alloc (List.replicate 16 (.int .u8 0))),
⟨none, .store 16 (.t 3) (.t 5),none⟩])
def jc.r2:ACode:=(.region none [oP 4 (.move (.c (.int .i64 0)))])
def jc.r3:ACode:=(.region none [oM 6 4,
oM 7 0,
oP 8 (.bin .lss (.t 6) (.t 7))])
def jc.r5:ACode:=(.region none [oM 11 4,
oM 12 4,
oP 13 (.conv .u8 (.t 12)),
oP 14 (.indexAddr (some 16) 1 (.t 3) (.t 11)),
⟨none, .store 1 (.t 14) (.t 13),none⟩])
def jc.r4:ACode:=(.region none [oM 9 4,
oP 10 (.bin .add (.t 9) (.c (.int .i64 1))),
oM 4 10])
def jc.l0:ACode:=(.seq (.seq jc.r3 (.cond (.t 8) .skip (.exit 0))) (.seq (.block 1 jc.r5) jc.r4))
def jc.r6:ACode:=(.region none [oP 15 (.load (some 16) (.t 3)),
⟨none, .store 16 (.t 2) (.t 15),none⟩])
def jc:AFunc:=⟨[.cell 2 (some 16)],(.seq jc.r0 (.seq jc.r1 (.seq (.seq jc.r2 (.block 0 (.loop jc.l0))) (.seq jc.r6 .ret))))⟩
def dA.r0:ACode:=(.region none [oP 2 (.box (.t 0)),
oP 4 (.move (.c (.slice none 0 0)))])
def dA.r1:ACode:=(.region none [oP 10 (.buildSlice 1 0 [.slice none 0 0] []),
oP 11 (.build (List.replicate 16 (.bool false)) []),
oP 6 (.alloc (List.replicate 16 (.bool false))),
oM 5 10,
⟨none, .store 16 (.t 6) (.t 11),none⟩])
def dA.r2:ACode:=(.region none [oP 7 (.move (.c (.int .i64 0)))])
def dA.r3:ACode:=(.region none [oM 12 7,
oM 13 1,
oP 14 (.bin .lss (.t 12) (.t 13))])
def dA.r5:ACode:=(.region none [oP 17 (.buildSlice 1 0 [.int .i64 0] []),
oM 8 17])
def dA.r6:ACode:=(.region none [oM 18 7,
oM 9 18])
def dA.r7:ACode:=(.region none [oM 19 9,
oP 20 (.indexAddr (some 16) 1 (.t 6) (.t 19)),
oP 21 (.load none (.t 20)),
oP 22 (.not (.t 21))])
def dA.r9:ACode:=(.region none [oM 27 9,
oP 28 (.indexAddr (some 16) 1 (.t 6) (.t 27)),
⟨none, .store 1 (.t 28) (.c (.bool true)),none⟩])
def dA.r10:ACode:=(.region none [oM 29 8,
oM 30 9,
oP 31 (.buildSlice 1 1 [.int .i64 0] [(0,1, .t 30)]),
oP 32 (.append 1 8 (.t 29) (.t 31)),
oM 8 32])
def dA.r8:ACode:=(.region none [oM 23 9,
oP 24 (.indexAddr (some 16) 1 (.t 2) (.t 23)),
oP 25 (.load none (.t 24)),
oP 26 (.conv .i64 (.t 25)),
oM 9 26])
def dA.l0:ACode:=(.seq (.seq dA.r7 (.cond (.t 22) .skip (.exit 2))) (.seq (.block 3 (.seq dA.r9 dA.r10)) dA.r8))
def dA.r11:ACode:=(.region none [oM 33 8,
oP 34 (.len (.t 33)),
oP 35 (.bin .gtr (.t 34) (.c (.int .i64 0)))])
def dA.r12:ACode:=(.region none [oM 36 5,
oM 37 8,
oP 38 (.buildSlice 1 1 [.slice none 0 0] [(0,1, .t 37)]),
oP 39 (.append 1 24 (.t 36) (.t 38)),
oM 5 39])
def dA.r4:ACode:=(.region none [oM 15 7,
oP 16 (.bin .add (.t 15) (.c (.int .i64 1))),
oM 7 16])
def dA.l1:ACode:=(.seq (.seq dA.r3 (.cond (.t 14) .skip (.exit 0))) (.seq (.block 1 (.seq dA.r5 (.seq (.seq dA.r6 (.block 2 (.loop dA.l0))) (.seq dA.r11 (.cond (.t 35) dA.r12 .skip))))) dA.r4))
def dA.r13:ACode:=(.region none [oM 40 5,
oM 4 40])
def dA:AFunc:=⟨[.tmp 4],(.seq dA.r0 (.seq dA.r1 (.seq (.seq dA.r2 (.block 0 (.loop dA.l1))) (.seq dA.r13 .ret))))⟩
def jd.r0:ACode:=(.region none [oP 2 (.box (.t 0)),
oP 4 (.alloc (List.replicate 16 (.int .u8 0)))])
def jd.r1:ACode:=(.region none [oP 7 (.build (List.replicate 16 (.int .u8 0)) []),
oP 5 (.alloc (List.replicate 16 (.int .u8 0))),
⟨none, .store 16 (.t 5) (.t 7),none⟩])
def jd.r2:ACode:=(.region none [oP 6 (.move (.c (.int .i64 0)))])
def jd.r3:ACode:=(.region none [oM 8 6,
oM 9 1,
oP 10 (.bin .lss (.t 8) (.t 9))])
def jd.r5:ACode:=(.region none [oM 13 6,
oP 14 (.indexAddr (some 16) 1 (.t 2) (.t 13)),
oP 15 (.load none (.t 14)),
oM 16 6,
oP 17 (.conv .u8 (.t 16)),
oP 18 (.indexAddr (some 16) 1 (.t 5) (.t 15)),
⟨none, .store 1 (.t 18) (.t 17),none⟩])
def jd.r4:ACode:=(.region none [oM 11 6,
oP 12 (.bin .add (.t 11) (.c (.int .i64 1))),
oM 6 12])
def jd.l0:ACode:=(.seq (.seq jd.r3 (.cond (.t 10) .skip (.exit 0))) (.seq (.block 1 jd.r5) jd.r4))
def jd.r6:ACode:=(.region none [oP 19 (.load (some 16) (.t 5)),
⟨none, .store 16 (.t 4) (.t 19),none⟩])
def jd:AFunc:=⟨[.cell 4 (some 16)],(.seq jd.r0 (.seq jd.r1 (.seq (.seq jd.r2 (.block 0 (.loop jd.l0))) (.seq jd.r6 .ret))))⟩
def je.r0:ACode:=(.region none [oP 3 (.box (.t 0)),
oP 4 (.box (.t 1)),
oP 6 (.alloc (List.replicate 16 (.int .u8 0)))])
def je.r1:ACode:=(.region none [oP 9 (.build (List.replicate 16 (.int .u8 0)) []),
oP 7 (.alloc (List.replicate 16 (.int .u8 0))),
⟨none, .store 16 (.t 7) (.t 9),none⟩])
def je.r2:ACode:=(.region none [oP 8 (.move (.c (.int .i64 0)))])
def je.r3:ACode:=(.region none [oM 10 8,
oM 11 2,
oP 12 (.bin .lss (.t 10) (.t 11))])
def je.r5:ACode:=(.region none [oM 15 8,
oM 16 8,
oP 17 (.indexAddr (some 16) 1 (.t 3) (.t 16)),
oP 18 (.load none (.t 17)),
oP 19 (.indexAddr (some 16) 1 (.t 4) (.t 18)),
oP 20 (.load none (.t 19)),
oP 21 (.indexAddr (some 16) 1 (.t 7) (.t 15)),
⟨none, .store 1 (.t 21) (.t 20),none⟩])
def je.r4:ACode:=(.region none [oM 13 8,
oP 14 (.bin .add (.t 13) (.c (.int .i64 1))),
oM 8 14])
def je.l0:ACode:=(.seq (.seq je.r3 (.cond (.t 12) .skip (.exit 0))) (.seq (.block 1 je.r5) je.r4))
def je.r6:ACode:=(.region none [oP 22 (.load (some 16) (.t 7)),
⟨none, .store 16 (.t 6) (.t 22),none⟩])
def je:AFunc:=⟨[.cell 6 (some 16)],(.seq je.r0 (.seq je.r1 (.seq (.seq je.r2 (.block 0 (.loop je.l0))) (.seq je.r6 .ret))))⟩
def dP.r0:ACode:=(.region none [oP 2 (.alloc (List.replicate 16 (.int .u8 0)))])
def dP.r1:ACode:=(.region none [oP 8 (.build (List.replicate 16 (.int .u8 0)) []),
oP 3 (.alloc (List.replicate 16 (.int .u8 0))),
⟨none, .store 16 (.t 3) (.t 8),none⟩,
oP 4 (.move (.c (.int .i64 0)))])
def dP.r2:ACode:=(.region none [oM 9 0,
oP 10 (.len (.t 9)),
oP 11 (.move (.c (.int .i64 0)))])
def dP.r3:ACode:=(.region none [oP 12 (.bin .lss (.t 11) (.t 10))])
def dP.r4:ACode:=(.region none [oP 13 (.indexAddr none 1 (.t 9) (.t 11)),
oP 14 (.load none (.t 13)),
oM 6 14])
def dP.r5:ACode:=(.region none [oM 15 6,
oP 16 (.move (.c (.int .i64 0)))])
def dP.r6:ACode:=(.region none [oP 17 (.bin .lss (.t 16) (.t 15))])
def dP.r7:ACode:=(.region none [oM 18 16,
oM 7 18])
def dP.r8:ACode:=(.region none [oM 19 4,
oM 20 7,
oP 21 (.bin .add (.t 19) (.t 20)),
oM 22 4,
oM 23 7,
oP 24 (.bin .add (.t 23) (.c (.int .i64 1))),
oM 25 6,
oP 26 (.bin .rem (.t 24) (.t 25)),
oP 27 (.bin .add (.t 22) (.t 26)),
oP 28 (.conv .u8 (.t 27)),
oP 29 (.indexAddr (some 16) 1 (.t 3) (.t 21)),
⟨none, .store 1 (.t 29) (.t 28),none⟩])
def dP.r9:ACode:=(.region none [oP 30 (.bin .add (.t 16) (.c (.int .i64 1))),
oM 16 30])
def dP.l0:ACode:=(.seq dP.r6 (.seq (.cond (.t 17) .skip (.exit 2)) (.seq (.block 3 (.seq dP.r7 dP.r8)) dP.r9)))
def dP.r10:ACode:=(.region none [oM 31 4,
oM 32 6,
oP 33 (.bin .add (.t 31) (.t 32)),
oM 4 33])
def dP.r11:ACode:=(.region none [oP 34 (.bin .add (.t 11) (.c (.int .i64 1))),
oM 11 34])
def dP.l1:ACode:=(.seq dP.r3 (.seq (.cond (.t 12) .skip (.exit 0)) (.seq (.block 1 (.seq dP.r4 (.seq (.seq dP.r5 (.block 2 (.loop dP.l0))) dP.r10))) dP.r11)))
def dP.r12:ACode:=(.region none [oP 35 (.load (some 16) (.t 3)),
⟨none, .store 16 (.t 2) (.t 35),none⟩])
def dP:AFunc:=⟨[.cell 2 (some 16)],(.seq dP.r0 (.seq dP.r1 (.seq (.seq dP.r2 (.block 0 (.loop dP.l1))) (.seq dP.r12 .ret))))⟩
def jS.r0:ACode:=(.region none [oP 2 (.box (.t 0)),
oP 3 (.box (.t 1))])
def jS.r1:ACode:=(.region none [oP 7 (.build (List.replicate 16 (.int .u8 0)) []),
oP 4 (.alloc (List.replicate 16 (.int .u8 0))),
⟨none, .store 16 (.t 4) (.t 7),none⟩])
def jS.r2:ACode:=(.region none [oP 8 (.build (List.replicate 16 (.bool false)) []),
oP 5 (.alloc (List.replicate 16 (.bool false))),
⟨none, .store 16 (.t 5) (.t 8),none⟩])
def jS.r3:ACode:=(.region none [oP 6 (.alloc [.nilFunc])])
def jS.r4:ACode:=(.region none [oP 9 (.makeFunc 377 [.t 2, .t 3, .t 4, .t 5, .t 6]),
⟨none, .store 1 (.t 6) (.t 9),none⟩])
def jS.r5:ACode:=(.region none [oP 10 (.load none (.t 6)),
oP 11 (.callv (.t 10) [(.c (.int .i64 0))])])
def jS:AFunc:=⟨[],(.seq jS.r0 (.seq jS.r1 (.seq jS.r2 (.seq jS.r3 (.seq jS.r4 jS.r5)))))⟩
def iJ.r0:ACode:=(.region none [oP 2 (.box (.t 0)),
oP 4 (.move (.c (.slice none 0 0)))])
def iJ.r1:ACode:=(.region none [oP 8 (.buildSlice 1 0 [.int .i64 0] []),
oM 5 8])
def iJ.r2:ACode:=(.region none [oP 9 (.load (some 16) (.t 2)),
oM 10 1,
oP 11 (.call 223 [.t 9, .t 10]),
oP 12 (.len (.t 11)),
oP 13 (.move (.c (.int .i64 0)))])
def iJ.r3:ACode:=(.region none [oP 14 (.bin .lss (.t 13) (.t 12))])
def iJ.r4:ACode:=(.region none [oP 15 (.indexAddr none 1 (.t 11) (.t 13)),
oP 16 (.load none (.t 15)),
oM 7 16])
def iJ.r5:ACode:=(.region none [oM 17 5,
oM 18 7,
oP 19 (.len (.t 18)),
oP 20 (.buildSlice 1 1 [.int .i64 0] [(0,1, .t 19)]),
oP 21 (.append 1 8 (.t 17) (.t 20)),
oM 5 21])
def iJ.r6:ACode:=(.region none [oP 22 (.bin .add (.t 13) (.c (.int .i64 1))),
oM 13 22])
def iJ.l0:ACode:=(.seq iJ.r3 (.seq (.cond (.t 14) .skip (.exit 0)) (.seq (.block 1 (.seq iJ.r4 iJ.r5)) iJ.r6)))
def iJ.r7:ACode:=(.region none [oM 23 5,
oP 24 (.call 219 [.t 23]),
oM 4 24])
def iJ:AFunc:=⟨[.tmp 4],(.seq iJ.r0 (.seq iJ.r1 (.seq (.seq iJ.r2 (.block 0 (.loop iJ.l0))) (.seq iJ.r7 .ret))))⟩
def qg.r0:ACode:=(.region none [oP 1 (.box (.t 0)),
oP 2 (.alloc (List.replicate 16 (.int .u8 0)))])
def qg.r1:ACode:=(.region (some 10) [oP 3 (.fieldAddr 1 (.t 1)),
oP 4 (.load (some 16) (.t 3)),
oP 5 (.fieldAddr 17 (.t 1)),
oP 6 (.load (some 16) (.t 5)),
oP 7 (.fieldAddr 0 (.t 1)),
oP 8 (.load none (.t 7)),
oP 9 (.call 213 [.t 4, .t 6, .t 8]),
oP 10 (.fieldAddr 0 (.t 1)),
oP 11 (.load none (.t 10)),
oP 12 (.call 211 [.t 9, .t 11]),
⟨none, .store 16 (.t 2) (.t 12),none⟩])
def qg:AFunc:=⟨[.cell 2 (some 16)],(.seq qg.r0 (.seq qg.r1 .ret))⟩
def nU.r0:ACode:=(.region none [oP 2 (.move (.c (.int .i64 0)))])
def nU.r1:ACode:=(.region none [oM 3 0,
oP 4 (.conv .u32 (.t 3)),
oP 5 (.call 244 [.t 4]),
oM 2 5])
def nU.r2:ACode:=(.region none [oM 6 0,
oP 7 (.call 245 [.t 6]),
oM 2 7])
def nU:AFunc:=⟨[.tmp 2],(.seq nU.r0 (.seq (.cond (.c (.bool false)) (.seq nU.r1 .ret) .skip) (.seq nU.r2 .ret)))⟩
def gB.r0:ACode:=(.region none [oP 2 (.move (.c (.bool false)))])
def gB.r1:ACode:=(.region none [oM 4 0,
oP 5 (.len (.t 4)),
oP 6 (.bin .neq (.t 5) (.c (.int .i64 3)))])
def gB.r2:ACode:=(.region none [oP 2 (.move (.c (.bool false)))])
def gB.r3:ACode:=(.region none [oP 3 (.move (.c (.int .i64 0)))])
def gB.r4:ACode:=(.region none [oM 7 3,
oP 8 (.bin .lss (.t 7) (.c (.int .i64 3)))])
def gB.r6:ACode:=(.region (some 18) [oM 11 0,
oM 12 3,
oP 13 (.indexAddr none 1 (.t 11) (.t 12)),
oP 14 (.load none (.t 13)),
oP 15 (.call 106 [.t 14]),
oP 16 (.not (.t 15)),
oM 17 16,
⟨some 18, .move (.t 0),some (17,false)⟩,
⟨some 19, .move (.t 3),some (17,false)⟩,
⟨some 20, .indexAddr none 1 (.t 18) (.t 19),some (17,false)⟩,
⟨some 21, .load none (.t 20),some (17,false)⟩,
⟨some 22, .call 79 [.t 21],some (17,false)⟩,
⟨some 23, .move (.t 0),some (17,false)⟩,
⟨some 24, .indexAddr none 1 (.t 23) (.c (.int .i64 0)),some (17,false)⟩,
⟨some 25, .load none (.t 24),some (17,false)⟩,
⟨some 26, .call 79 [.t 25],some (17,false)⟩,
⟨some 27, .bin .neq (.t 22) (.t 26),some (17,false)⟩,
oP 28 (.pick (.t 17) (.c (.bool true)) (.t 27))])
def gB.r7:ACode:=(.region none [oP 2 (.move (.c (.bool false)))])
def gB.r5:ACode:=(.region none [oM 9 3,
oP 10 (.bin .add (.t 9) (.c (.int .i64 1))),
oM 3 10])
def gB.l0:ACode:=(.seq (.seq gB.r4 (.cond (.t 8) .skip (.exit 0))) (.seq (.block 1 (.seq gB.r6 (.cond (.t 28) (.seq gB.r7 .ret) .skip))) gB.r5))
def gB.r8:ACode:=(.region none [oP 2 (.move (.c (.bool true)))])
def gB:AFunc:=⟨[.tmp 2],(.seq gB.r0 (.seq (.seq gB.r1 (.cond (.t 6) (.seq gB.r2 .ret) .skip)) (.seq (.seq gB.r3 (.block 0 (.loop gB.l0))) (.seq gB.r8 .ret))))⟩
def fC.r0:ACode:=(.region none [oP 6 (.box (.t 0)),
oP 7 (.box (.t 1)),
oP 8 (.box (.t 2)),
oP 12 (.alloc ([.int .i64 0, .int .i64 0]++[.slice none 0 0]++[.bool false]))])
def fC.r1:ACode:=(.region none [oM 15 3,
oM 16 4,
oP 17 (.bin .eql (.t 15) (.t 16))])
def fC.r2:ACode:=(.region none [oP 18 (.load (some 4) (.t 6)),
oP 19 (.load (some 16) (.t 7)),
oP 20 (.load (some 16) (.t 8)),
oM 21 4,
oM 22 5,
oP 23 (.call 376 [.t 18, .t 19, .t 20, .t 21, .t 22]),
⟨none, .store 4 (.t 12) (.t 23),none⟩])
def fC.r3:ACode:=(.region none [oM 24 3,
oM 13 24])
def fC.r4:ACode:=(.region none [oM 25 13,
oM 26 4,
oP 27 (.bin .lss (.t 25) (.t 26))])
def fC.r6:ACode:=(.region none [oP 30 (.load (some 16) (.t 8)),
oP 14 (.alloc (List.replicate 16 (.int .u8 0))),
⟨none, .store 16 (.t 14) (.t 30),none⟩])
def fC.r7:ACode:=(.region none [oM 31 3,
oM 32 13,
oP 33 (.indexAddr (some 16) 1 (.t 8) (.t 32)),
oP 34 (.load none (.t 33)),
oP 35 (.indexAddr (some 16) 1 (.t 14) (.t 31)),
⟨none, .store 1 (.t 35) (.t 34),none⟩])
def fC.r8:ACode:=(.region none [oM 36 13,
oM 37 3,
oP 38 (.indexAddr (some 16) 1 (.t 8) (.t 37)),
oP 39 (.load none (.t 38)),
oP 40 (.indexAddr (some 16) 1 (.t 14) (.t 36)),
⟨none, .store 1 (.t 40) (.t 39),none⟩])
def fC.r9:ACode:=(.region none [oP 41 (.load (some 4) (.t 6)),
oP 42 (.load (some 16) (.t 7)),
oP 43 (.load (some 16) (.t 14)),
oM 44 3,
oP 45 (.bin .add (.t 44) (.c (.int .i64 1))),
oM 46 4,
oM 47 5,
oP 48 (.call 365 [.t 41, .t 42, .t 43, .t 45, .t 46, .t 47]),
⟨none, .store 4 (.t 6) (.t 48),none⟩])
def fC.r5:ACode:=(.region none [oM 28 13,
oP 29 (.bin .add (.t 28) (.c (.int .i64 1))),
oM 13 29])
def fC.l0:ACode:=(.seq (.seq fC.r4 (.cond (.t 27) .skip (.exit 0))) (.seq (.block 1 (.seq fC.r6 (.seq fC.r7 (.seq fC.r8 fC.r9)))) fC.r5))
def fC.r10:ACode:=(.region none [oP 49 (.load (some 4) (.t 6)),
⟨none, .store 4 (.t 12) (.t 49),none⟩])
def fC:AFunc:=⟨[.cell 12 (some 4)],(.seq fC.r0 (.seq (.seq fC.r1 (.cond (.t 17) (.seq fC.r2 .ret) .skip)) (.seq (.seq fC.r3 (.block 0 (.loop fC.l0))) (.seq fC.r10 .ret))))⟩
def lN.r0:ACode:=(.region none [oP 5 (.box (.t 0))])
def lN.r1:ACode:=(.region none [oP 7 (.load none (.t 1)),
oP 8 (.load (some 16) (.t 2)),
oP 9 (.load (some 16) (.t 5)),
oP 10 (.build ([.int .i64 0]++List.replicate 32 (.int .u8 0)) [(0,1, .t 7),(1,16, .t 8),(17,16, .t 9)]),
oP 6 (.alloc ([.int .i64 0]++List.replicate 32 (.int .u8 0))),
⟨none, .store 33 (.t 6) (.t 10),none⟩])
def lN.r2:ACode:=(.region (some 17) [oP 11 (.load (some 16) (.t 5)),
oP 12 (.load none (.t 1)),
oP 13 (.call 218 [.t 11, .t 12]),
oP 14 (.load none (.t 3)),
oP 15 (.indexAddr none 1 (.t 14) (.c (.int .i64 1))),
oP 16 (.load none (.t 15)),
oP 17 (.call 346 [.t 13, .t 16]),
oM 18 17,
⟨some 19, .load (some 33) (.t 6),some (18,true)⟩,
⟨some 20, .call 193 [.t 19],some (18,true)⟩,
⟨some 21, .load none (.t 1),some (18,true)⟩,
⟨some 22, .call 218 [.t 20, .t 21],some (18,true)⟩,
⟨some 23, .load none (.t 3),some (18,true)⟩,
⟨some 24, .indexAddr none 1 (.t 23) (.c (.int .i64 2)),some (18,true)⟩,
⟨some 25, .load none (.t 24),some (18,true)⟩,
⟨some 26, .call 346 [.t 22, .t 25],some (18,true)⟩,
oP 27 (.pick (.t 18) (.t 26) (.c (.bool false)))])
def lN.r3:ACode:=(.region none [oP 28 (.load none (.t 4)),
oP 29 (.load (some 33) (.t 6)),
oP 30 (.callv (.t 28) [.t 29])])
def lN:AFunc:=⟨[],(.seq lN.r0 (.seq lN.r1 (.seq lN.r2 (.cond (.t 27) lN.r3 .skip))))⟩
def jf.r0:ACode:=(.region none [oP 2 (.move (.c (.int .i64 0)))])
def jf.r1:ACode:=(.region none [oP 3 (.move (.c (.int .i64 1)))])
def jf.r2:ACode:=(.region none [oP 4 (.move (.c (.int .i64 2)))])
def jf.r3:ACode:=(.region none [oM 5 4,
oM 6 0,
oP 7 (.bin .leq (.t 5) (.t 6))])
def jf.r5:ACode:=(.region none [oM 10 3,
oM 11 4,
oP 12 (.bin .mul (.t 10) (.t 11)),
oM 3 12])
def jf.r4:ACode:=(.region none [oM 8 4,
oP 9 (.bin .add (.t 8) (.c (.int .i64 1))),
oM 4 9])
def jf.l0:ACode:=(.seq (.seq jf.r3 (.cond (.t 7) .skip (.exit 0))) (.seq (.block 1 jf.r5) jf.r4))
def jf.r6:ACode:=(.region none [oM 13 3,
oM 2 13])
def jf:AFunc:=⟨[.tmp 2],(.seq jf.r0 (.seq jf.r1 (.seq (.seq jf.r2 (.block 0 (.loop jf.l0))) (.seq jf.r6 .ret))))⟩
def iK.r0:ACode:=(.region none [oP 2 (.move (.c (.int .i64 0)))])
def iK.r1:ACode:=(.region none [oM 6 0,
oP 7 (.call 70 [.t 6]),
oM 3 7])
def iK.r2:ACode:=(.region none [oM 8 0,
oP 9 (.len (.t 8)),
oP 10 (.move (.c (.int .i64 0)))])
def iK.r3:ACode:=(.region none [oP 11 (.bin .lss (.t 10) (.t 9))])
def iK.r4:ACode:=(.region none [oP 12 (.indexAddr none 1 (.t 8) (.t 10)),
oP 13 (.load none (.t 12)),
oM 5 13])
def iK.r5:ACode:=(.region none [oM 14 3,
oM 15 5,
oP 16 (.bin .mul (.t 14) (.t 15)),
oM 3 16])
def iK.r6:ACode:=(.region none [oP 17 (.bin .add (.t 10) (.c (.int .i64 1))),
oM 10 17])
def iK.l0:ACode:=(.seq iK.r3 (.seq (.cond (.t 11) .skip (.exit 0)) (.seq (.block 1 (.seq iK.r4 iK.r5)) iK.r6)))
def iK.r7:ACode:=(.region none [oM 18 3,
oM 2 18])
def iK:AFunc:=⟨[.tmp 2],(.seq iK.r0 (.seq iK.r1 (.seq (.seq iK.r2 (.block 0 (.loop iK.l0))) (.seq iK.r7 .ret))))⟩
def qj.r0:ACode:=(.region none [oP 1 (.box (.t 0)),
oP 2 (.move (.c (.bool false)))])
def qj.r1:ACode:=(.region (some 12) [oP 3 (.fieldAddr 0 (.t 1)),
oP 4 (.load none (.t 3)),
oP 5 (.fieldAddr 1 (.t 1)),
oP 6 (.load (some 16) (.t 5)),
oP 7 (.fieldAddr 17 (.t 1)),
oP 8 (.load (some 16) (.t 7)),
oP 9 (.buildSlice 16 2 (List.replicate 16 (.int .u8 0)) [(0,16, .t 6),(16,16, .t 8)]),
oP 10 (.call 210 [.t 4, .t 9]),
oP 11 (.fieldAddr 0 (.t 1)),
oP 12 (.load none (.t 11)),
oP 13 (.bin .eql (.t 10) (.t 12)),
oM 2 13])
def qj:AFunc:=⟨[.tmp 2],(.seq qj.r0 (.seq qj.r1 .ret))⟩
def kK.r0:ACode:=(.region none [oP 2 (.box (.t 0)),
oP 3 (.box (.t 1)),
oP 4 (.move (.c (.int .i64 0)))])
def kK.r1:ACode:=(.region none [oP 6 (.fieldAddr 1 (.t 2)),
oP 7 (.load (some 16) (.t 6)),
oP 8 (.fieldAddr 1 (.t 3)),
oP 9 (.load (some 16) (.t 8)),
oP 10 (.call 222 [.t 7, .t 9]),
oM 5 10])
def kK.r2:ACode:=(.region none [oM 11 5,
oP 12 (.bin .neq (.t 11) (.c (.int .i64 0)))])
def kK.r3:ACode:=(.region none [oM 13 5,
oM 4 13])
def kK.r4:ACode:=(.region none [oP 14 (.fieldAddr 17 (.t 2)),
oP 15 (.load (some 16) (.t 14)),
oP 16 (.fieldAddr 17 (.t 3)),
oP 17 (.load (some 16) (.t 16)),
oP 18 (.call 222 [.t 15, .t 17]),
oM 4 18])
def kK:AFunc:=⟨[.tmp 4],(.seq kK.r0 (.seq (.seq kK.r1 (.seq kK.r2 (.cond (.t 12) (.seq kK.r3 .ret) .skip))) (.seq kK.r4 .ret)))⟩
def jg.r0:ACode:=(.region none [oP 2 (.box (.t 0)),
oP 3 (.box (.t 1)),
oP 4 (.move (.c (.bool false)))])
def jg.r1:ACode:=(.region none [oP 5 (.move (.c (.int .i64 0)))])
def jg.r2:ACode:=(.region none [oM 6 5,
oP 7 (.bin .lss (.t 6) (.c (.int .i64 16)))])
def jg.r4:ACode:=(.region (some 7) [oM 10 5,
oP 11 (.indexAddr (some 16) 1 (.t 2) (.t 10)),
oP 12 (.load none (.t 11)),
oM 13 5,
oP 14 (.indexAddr (some 16) 1 (.t 3) (.t 13)),
oP 15 (.load none (.t 14)),
oP 16 (.bin .neq (.t 12) (.t 15))])
def jg.r5:ACode:=(.region none [oP 4 (.move (.c (.bool false)))])
def jg.r3:ACode:=(.region none [oM 8 5,
oP 9 (.bin .add (.t 8) (.c (.int .i64 1))),
oM 5 9])
def jg.l0:ACode:=(.seq (.seq jg.r2 (.cond (.t 7) .skip (.exit 0))) (.seq (.block 1 (.seq jg.r4 (.cond (.t 16) (.seq jg.r5 .ret) .skip))) jg.r3))
def jg.r6:ACode:=(.region none [oP 4 (.move (.c (.bool true)))])
def jg:AFunc:=⟨[.tmp 4],(.seq jg.r0 (.seq (.seq jg.r1 (.block 0 (.loop jg.l0))) (.seq jg.r6 .ret)))⟩
def dD.r0:ACode:=(.region none [oP 4 (.move (.c (.int .i64 0)))])
def dD.r1:ACode:=(.region none [oP 11 (.build (List.replicate 16 (.bool false)) [(0,1,(.c (.bool true)))]),
oP 5 (.alloc (List.replicate 16 (.bool false))),
⟨none, .store 16 (.t 5) (.t 11),none⟩])
def dD.r2:ACode:=(.region none [oP 12 (.buildSlice 1 1 [.int .u8 0] [(0,1,(.c (.int .u8 0)))]),
oM 6 12])
def dD.r3:ACode:=(.region none [oP 7 (.move (.c (.int .i64 0)))])
def dD.r4:ACode:=(.region none [oM 13 7,
oM 14 6,
oP 15 (.len (.t 14)),
oP 16 (.bin .lss (.t 13) (.t 15))])
def dD.r6:ACode:=(.region none [oM 19 1,
oP 20 (.len (.t 19)),
oP 21 (.move (.c (.int .i64 0)))])
def dD.r7:ACode:=(.region none [oP 22 (.bin .lss (.t 21) (.t 20))])
def dD.r8:ACode:=(.region none [oP 23 (.indexAddr none 16 (.t 19) (.t 21)),
oP 24 (.load (some 16) (.t 23)),
oP 9 (.alloc (List.replicate 16 (.int .u8 0))),
⟨none, .store 16 (.t 9) (.t 24),none⟩])
def dD.r9:ACode:=(.region none [oM 25 6,
oM 26 7,
oP 27 (.indexAddr none 1 (.t 25) (.t 26)),
oP 28 (.load none (.t 27)),
oP 29 (.indexAddr (some 16) 1 (.t 9) (.t 28)),
oP 30 (.load none (.t 29)),
oM 10 30])
def dD.r10:ACode:=(.region none [oM 31 10,
oP 32 (.indexAddr (some 16) 1 (.t 5) (.t 31)),
oP 33 (.load none (.t 32)),
oP 34 (.not (.t 33))])
def dD.r11:ACode:=(.region none [oM 35 10,
oP 36 (.indexAddr (some 16) 1 (.t 5) (.t 35)),
⟨none, .store 1 (.t 36) (.c (.bool true)),none⟩])
def dD.r12:ACode:=(.region none [oM 37 6,
oM 38 10,
oP 39 (.buildSlice 1 1 [.int .u8 0] [(0,1, .t 38)]),
oP 40 (.append 1 1 (.t 37) (.t 39)),
oM 6 40])
def dD.r13:ACode:=(.region none [oP 41 (.bin .add (.t 21) (.c (.int .i64 1))),
oM 21 41])
def dD.l0:ACode:=(.seq dD.r7 (.seq (.cond (.t 22) .skip (.exit 2)) (.seq (.block 3 (.seq dD.r8 (.seq dD.r9 (.seq dD.r10 (.cond (.t 34) (.seq dD.r11 dD.r12) .skip))))) dD.r13)))
def dD.r5:ACode:=(.region none [oM 17 7,
oP 18 (.bin .add (.t 17) (.c (.int .i64 1))),
oM 7 18])
def dD.l1:ACode:=(.seq (.seq dD.r4 (.cond (.t 16) .skip (.exit 0))) (.seq (.block 1 (.seq dD.r6 (.block 2 (.loop dD.l0)))) dD.r5))
def dD.iE:ACode:=(.region none [oM 42 6,
oP 43 (.len (.t 42)),
oM 4 43])
def dD:AFunc:=⟨[.tmp 4],(.seq dD.r0 (.seq dD.r1 (.seq dD.r2 (.seq (.seq dD.r3 (.block 0 (.loop dD.l1))) (.seq dD.iE .ret)))))⟩
def gZ.r0:ACode:=(.region none [oP 2 (.box (.t 0)),
oP 3 (.box (.t 1)),
oP 4 (.alloc ([.int .i64 0]++List.replicate 32 (.int .u8 0)))])
def gZ.r1:ACode:=(.region none [oP 7 (.fieldAddr 0 (.t 2)),
oP 8 (.load none (.t 7)),
oP 9 (.build ([.int .i64 0]++List.replicate 32 (.int .u8 0)) [(0,1, .t 8)]),
oP 5 (.alloc ([.int .i64 0]++List.replicate 32 (.int .u8 0))),
⟨none, .store 33 (.t 5) (.t 9),none⟩])
def gZ.r2:ACode:=(.region none [oP 10 (.fieldAddr 0 (.t 2)),
oP 11 (.load none (.t 10)),
oP 12 (.move (.c (.int .i64 0)))])
def gZ.r3:ACode:=(.region none [oP 13 (.bin .lss (.t 12) (.t 11))])
def gZ.r4:ACode:=(.region none [oM 14 12,
oM 6 14])
def gZ.r5:ACode:=(.region (some 11) [oM 15 6,
oP 16 (.indexAddr (some 16) 1 (.t 3) (.t 15)),
oP 17 (.load none (.t 16)),
oM 18 6,
oP 19 (.fieldAddr 1 (.t 2)),
oP 20 (.indexAddr (some 16) 1 (.t 19) (.t 18)),
oP 21 (.load none (.t 20)),
oP 22 (.indexAddr (some 16) 1 (.t 3) (.t 21)),
oP 23 (.load none (.t 22)),
oP 24 (.fieldAddr 1 (.t 5)),
oP 25 (.indexAddr (some 16) 1 (.t 24) (.t 17)),
⟨none, .store 1 (.t 25) (.t 23),none⟩])
def gZ.r6:ACode:=(.region (some 11) [oM 26 6,
oP 27 (.indexAddr (some 16) 1 (.t 3) (.t 26)),
oP 28 (.load none (.t 27)),
oM 29 6,
oP 30 (.fieldAddr 17 (.t 2)),
oP 31 (.indexAddr (some 16) 1 (.t 30) (.t 29)),
oP 32 (.load none (.t 31)),
oP 33 (.indexAddr (some 16) 1 (.t 3) (.t 32)),
oP 34 (.load none (.t 33)),
oP 35 (.fieldAddr 17 (.t 5)),
oP 36 (.indexAddr (some 16) 1 (.t 35) (.t 28)),
⟨none, .store 1 (.t 36) (.t 34),none⟩])
def gZ.r7:ACode:=(.region none [oP 37 (.bin .add (.t 12) (.c (.int .i64 1))),
oM 12 37])
def gZ.l0:ACode:=(.seq gZ.r3 (.seq (.cond (.t 13) .skip (.exit 0)) (.seq (.block 1 (.seq gZ.r4 (.seq gZ.r5 gZ.r6))) gZ.r7)))
def gZ.r8:ACode:=(.region none [oP 38 (.load (some 33) (.t 5)),
⟨none, .store 33 (.t 4) (.t 38),none⟩])
def gZ:AFunc:=⟨[.cell 4 (some 33)],(.seq gZ.r0 (.seq gZ.r1 (.seq (.seq gZ.r2 (.block 0 (.loop gZ.l0))) (.seq gZ.r8 .ret))))⟩
def iL.r0:ACode:=(.region none [oP 2 (.box (.t 0)),
oP 4 (.alloc (List.replicate 16 (.int .u8 0)))])
def iL.r1:ACode:=(.region none [oP 8 (.build (List.replicate 16 (.int .u8 0)) []),
oP 5 (.alloc (List.replicate 16 (.int .u8 0))),
⟨none, .store 16 (.t 5) (.t 8),none⟩])
def iL.r2:ACode:=(.region none [oP 9 (.load (some 33) (.t 2)),
oM 10 1,
oP 11 (.call 221 [.t 9, .t 10]),
oP 12 (.len (.t 11)),
oP 13 (.move (.c (.int .i64 0)))])
def iL.r3:ACode:=(.region none [oP 14 (.bin .lss (.t 13) (.t 12))])
def iL.r4:ACode:=(.region none [oM 15 13,
oP 16 (.indexAddr none 1 (.t 11) (.t 13)),
oP 17 (.load none (.t 16)),
oM 6 15,
oM 7 17])
def iL.r5:ACode:=(.region none [oM 18 7,
oM 19 6,
oP 20 (.conv .u8 (.t 19)),
oP 21 (.indexAddr (some 16) 1 (.t 5) (.t 18)),
⟨none, .store 1 (.t 21) (.t 20),none⟩])
def iL.r6:ACode:=(.region none [oP 22 (.bin .add (.t 13) (.c (.int .i64 1))),
oM 13 22])
def iL.l0:ACode:=(.seq iL.r3 (.seq (.cond (.t 14) .skip (.exit 0)) (.seq (.block 1 (.seq iL.r4 iL.r5)) iL.r6)))
def iL.r7:ACode:=(.region none [oP 23 (.load (some 16) (.t 5)),
⟨none, .store 16 (.t 4) (.t 23),none⟩])
def iL:AFunc:=⟨[.cell 4 (some 16)],(.seq iL.r0 (.seq iL.r1 (.seq (.seq iL.r2 (.block 0 (.loop iL.l0))) (.seq iL.r7 .ret))))⟩
def qm.r0:ACode:=(.region none [oP 1 (.box (.t 0)),
oP 2 (.move (.c (.bool false)))])
def qm.r1:ACode:=(.region none [oP 3 (.fieldAddr 1 (.t 1)),
oP 4 (.load (some 16) (.t 3)),
oP 5 (.fieldAddr 0 (.t 1)),
oP 6 (.load none (.t 5)),
oP 7 (.call 206 [.t 4, .t 6]),
oM 8 7,
⟨some 9, .fieldAddr 17 (.t 1),some (8,true)⟩,
⟨some 10, .load (some 16) (.t 9),some (8,true)⟩,
⟨some 11, .fieldAddr 0 (.t 1),some (8,true)⟩,
⟨some 12, .load none (.t 11),some (8,true)⟩,
⟨some 13, .call 206 [.t 10, .t 12],some (8,true)⟩,
oP 14 (.pick (.t 8) (.t 13) (.c (.bool false))),
oM 15 14,
⟨some 16, .fieldAddr 0 (.t 1),some (15,true)⟩,
⟨some 17, .load none (.t 16),some (15,true)⟩,
⟨some 18, .fieldAddr 1 (.t 1),some (15,true)⟩,
⟨some 19, .load (some 16) (.t 18),some (15,true)⟩,
⟨some 20, .fieldAddr 17 (.t 1),some (15,true)⟩,
⟨some 21, .load (some 16) (.t 20),some (15,true)⟩,
⟨some 22, .call 207 [.t 17, .t 19, .t 21],some (15,true)⟩,
oP 23 (.pick (.t 15) (.t 22) (.c (.bool false))),
oM 2 23])
def qm:AFunc:=⟨[.tmp 2],(.seq qm.r0 (.seq qm.r1 .ret))⟩
def eP.r0:ACode:=(.region none [oP 3 (.box (.t 1)),
oP 4 (.move (.c (.slice none 0 0)))])
def eP.r1:ACode:=(.region none [oM 9 0,
oP 10 (.len (.t 9)),
oP 5 (.move (.c (.int .i64 0))),
oM 6 10])
def eP.r2:ACode:=(.region none [oM 11 5,
oM 12 6,
oP 13 (.bin .lss (.t 11) (.t 12))])
def eP.r3:ACode:=(.region none [oM 14 5,
oM 15 6,
oP 16 (.bin .add (.t 14) (.t 15)),
oP 17 (.bin .quo (.t 16) (.c (.int .i64 2))),
oM 7 17])
def eP.r4:ACode:=(.region (some 6) [oM 18 0,
oM 19 7,
oP 20 (.indexAddr none 33 (.t 18) (.t 19)),
oP 21 (.load (some 33) (.t 20)),
oP 22 (.load (some 33) (.t 3)),
oP 23 (.call 375 [.t 21, .t 22])])
def eP.r5:ACode:=(.region none [oM 24 7,
oP 25 (.bin .add (.t 24) (.c (.int .i64 1))),
oM 5 25])
def eP.r6:ACode:=(.region none [oM 26 7,
oM 6 26])
def eP.l0:ACode:=(.seq (.seq eP.r2 (.cond (.t 13) .skip (.exit 0))) (.block 1 (.seq eP.r3 (.seq eP.r4 (.cond (.t 23) eP.r5 eP.r6)))))
def eP.r7:ACode:=(.region (some 12) [oM 27 5,
oM 28 0,
oP 29 (.len (.t 28)),
oP 30 (.bin .lss (.t 27) (.t 29)),
oM 31 30,
⟨some 32, .move (.t 0),some (31,true)⟩,
⟨some 33, .move (.t 5),some (31,true)⟩,
⟨some 34, .indexAddr none 33 (.t 32) (.t 33),some (31,true)⟩,
⟨some 35, .load (some 33) (.t 34),some (31,true)⟩,
⟨some 36, .load (some 33) (.t 3),some (31,true)⟩,
⟨some 37, .eqa false 33 (.t 35) (.t 36),some (31,true)⟩,
oP 38 (.pick (.t 31) (.t 37) (.c (.bool false)))])
def eP.r8:ACode:=(.region none [oM 39 0,
oM 4 39])
def eP.r9:ACode:=(.region (some 5) [oP 40 (.load (some 33) (.t 3)),
oP 41 (.buildSlice 33 1 ([.int .i64 0]++List.replicate 32 (.int .u8 0)) [(0,33, .t 40)]),
oM 42 0,
oM 43 5,
oP 44 (.slice 33 (.t 42) (some (.t 43)) none),
oP 45 (.append 33 40 (.t 41) (.t 44)),
oM 8 45])
def eP.r10:ACode:=(.region none [oP 46 (.buildSlice 33 0 ([.int .i64 0]++List.replicate 32 (.int .u8 0)) []),
oM 47 0,
oM 48 5,
oP 49 (.slice 33 (.t 47) none (some (.t 48))),
oP 50 (.append 33 40 (.t 46) (.t 49)),
oM 51 8,
oP 52 (.append 33 40 (.t 50) (.t 51)),
oM 4 52])
def eP:AFunc:=⟨[.tmp 4],(.seq eP.r0 (.seq eP.r1 (.seq (.block 0 (.loop eP.l0)) (.seq (.seq eP.r7 (.cond (.t 38) (.seq eP.r8 .ret) .skip)) (.seq eP.r9 (.seq eP.r10 .ret))))))⟩
def ig.r0:ACode:=(.region none [oP 1 (.box (.t 0)),
oP 2 (.alloc ([.int .i64 0]++List.replicate 32 (.int .u8 0)))])
def ig.r1:ACode:=(.region (some 5) [oP 6 (.load (some 33) (.t 1)),
oP 7 (.load (some 33) (.t 1)),
oP 8 (.call 358 [.t 7,(.c (.int .i64 0))]),
oP 9 (.call 357 [.t 6, .t 8]),
oP 3 (.alloc ([.int .i64 0]++List.replicate 32 (.int .u8 0))),
⟨none, .store 33 (.t 3) (.t 9),none⟩])
def ig.r2:ACode:=(.region none [oP 4 (.move (.c (.int .i64 1)))])
def ig.r3:ACode:=(.region none [oM 10 4,
oP 11 (.fieldAddr 0 (.t 1)),
oP 12 (.load none (.t 11)),
oP 13 (.bin .lss (.t 10) (.t 12))])
def ig.r5:ACode:=(.region (some 6) [oP 16 (.load (some 33) (.t 1)),
oP 17 (.load (some 33) (.t 1)),
oM 18 4,
oP 19 (.call 358 [.t 17, .t 18]),
oP 20 (.call 357 [.t 16, .t 19]),
oP 5 (.alloc ([.int .i64 0]++List.replicate 32 (.int .u8 0))),
⟨none, .store 33 (.t 5) (.t 20),none⟩])
def ig.r6:ACode:=(.region none [oP 21 (.load (some 33) (.t 5)),
oP 22 (.load (some 33) (.t 3)),
oP 23 (.call 375 [.t 21, .t 22])])
def ig.r7:ACode:=(.region none [oP 24 (.load (some 33) (.t 5)),
⟨none, .store 33 (.t 3) (.t 24),none⟩])
def ig.r4:ACode:=(.region none [oM 14 4,
oP 15 (.bin .add (.t 14) (.c (.int .i64 1))),
oM 4 15])
def ig.l0:ACode:=(.seq (.seq ig.r3 (.cond (.t 13) .skip (.exit 0))) (.seq (.block 1 (.seq ig.r5 (.seq ig.r6 (.cond (.t 23) ig.r7 .skip)))) ig.r4))
def ig.r8:ACode:=(.region none [oP 25 (.load (some 33) (.t 3)),
⟨none, .store 33 (.t 2) (.t 25),none⟩])
def ig:AFunc:=⟨[.cell 2 (some 33)],(.seq ig.r0 (.seq ig.r1 (.seq (.seq ig.r2 (.block 0 (.loop ig.l0))) (.seq ig.r8 .ret))))⟩
def dS.r0:ACode:=(.region none [oM 8 0,
oP 9 (.load none (.t 1)),
oP 10 (.bin .eql (.t 8) (.t 9))])
def dS.r1:ACode:=(.region none [oP 11 (.load none (.t 2)),
oP 12 (.load (some 16) (.t 3)),
oP 13 (.callv (.t 11) [.t 12])])
def dS.r2:ACode:=(.region none [oP 14 (.load none (.t 1)),
oP 15 (.move (.c (.int .i64 0)))])
def dS.r3:ACode:=(.region none [oP 16 (.bin .lss (.t 15) (.t 14))])
def dS.r4:ACode:=(.region none [oM 17 15,
oM 7 17])
def dS.r5:ACode:=(.region none [oM 18 7,
oP 19 (.indexAddr (some 16) 1 (.t 4) (.t 18)),
oP 20 (.load none (.t 19)),
oP 21 (.not (.t 20))])
def dS.r6:ACode:=(.region none [oM 22 7,
oP 23 (.indexAddr (some 16) 1 (.t 4) (.t 22)),
⟨none, .store 1 (.t 23) (.c (.bool true)),none⟩])
def dS.r7:ACode:=(.region none [oM 24 0,
oM 25 7,
oP 26 (.conv .u8 (.t 25)),
oP 27 (.indexAddr (some 16) 1 (.t 3) (.t 24)),
⟨none, .store 1 (.t 27) (.t 26),none⟩])
def dS.r8:ACode:=(.region none [oP 28 (.load none (.t 5)),
oM 29 0,
oP 30 (.bin .add (.t 29) (.c (.int .i64 1))),
oP 31 (.callv (.t 28) [.t 30])])
def dS.r9:ACode:=(.region none [oM 32 7,
oP 33 (.indexAddr (some 16) 1 (.t 4) (.t 32)),
⟨none, .store 1 (.t 33) (.c (.bool false)),none⟩])
def dS.r10:ACode:=(.region none [oP 34 (.bin .add (.t 15) (.c (.int .i64 1))),
oM 15 34])
def dS.l0:ACode:=(.seq dS.r3 (.seq (.cond (.t 16) .skip (.exit 0)) (.seq (.block 1 (.seq dS.r4 (.seq dS.r5 (.cond (.t 21) (.seq dS.r6 (.seq dS.r7 (.seq dS.r8 dS.r9))) .skip)))) dS.r10)))
def dS:AFunc:=⟨[],(.seq (.seq dS.r0 (.cond (.t 10) (.seq dS.r1 .ret) .skip)) (.seq dS.r2 (.block 0 (.loop dS.l0))))⟩
def bZ.r0:ACode:=(.region none [oP 2 (.box (.t 0)),
oP 4 (.move (.c (.slice none 0 0)))])
def bZ.r1:ACode:=(.region none [oP 10 (.buildSlice 1 0 [.slice none 0 0] []),
oM 5 10])
def bZ.r2:ACode:=(.region none [oP 11 (.build (List.replicate 16 (.bool false)) []),
oP 6 (.alloc (List.replicate 16 (.bool false))),
⟨none, .store 16 (.t 6) (.t 11),none⟩])
def bZ.r3:ACode:=(.region none [oM 12 1,
oP 13 (.move (.c (.int .i64 0)))])
def bZ.r4:ACode:=(.region none [oP 14 (.bin .lss (.t 13) (.t 12))])
def bZ.r5:ACode:=(.region none [oM 15 13,
oM 7 15])
def bZ.r6:ACode:=(.region none [oM 16 7,
oP 17 (.indexAddr (some 16) 1 (.t 6) (.t 16)),
oP 18 (.load none (.t 17))])
def bZ.r7:ACode:=(.region none [oP 19 (.buildSlice 1 0 [.int .i64 0] []),
oM 8 19])
def bZ.r8:ACode:=(.region none [oM 20 7,
oM 9 20])
def bZ.r9:ACode:=(.region none [oM 21 9,
oP 22 (.indexAddr (some 16) 1 (.t 6) (.t 21)),
oP 23 (.load none (.t 22)),
oP 24 (.not (.t 23))])
def bZ.r11:ACode:=(.region none [oM 29 9,
oP 30 (.indexAddr (some 16) 1 (.t 6) (.t 29)),
⟨none, .store 1 (.t 30) (.c (.bool true)),none⟩])
def bZ.r12:ACode:=(.region none [oM 31 8,
oM 32 9,
oP 33 (.buildSlice 1 1 [.int .i64 0] [(0,1, .t 32)]),
oP 34 (.append 1 8 (.t 31) (.t 33)),
oM 8 34])
def bZ.r10:ACode:=(.region none [oM 25 9,
oP 26 (.indexAddr (some 16) 1 (.t 2) (.t 25)),
oP 27 (.load none (.t 26)),
oP 28 (.conv .i64 (.t 27)),
oM 9 28])
def bZ.l0:ACode:=(.seq (.seq bZ.r9 (.cond (.t 24) .skip (.exit 2))) (.seq (.block 3 (.seq bZ.r11 bZ.r12)) bZ.r10))
def bZ.r13:ACode:=(.region none [oM 35 5,
oM 36 8,
oP 37 (.buildSlice 1 1 [.slice none 0 0] [(0,1, .t 36)]),
oP 38 (.append 1 24 (.t 35) (.t 37)),
oM 5 38])
def bZ.iE:ACode:=(.region none [oP 39 (.bin .add (.t 13) (.c (.int .i64 1))),
oM 13 39])
def bZ.l1:ACode:=(.seq bZ.r4 (.seq (.cond (.t 14) .skip (.exit 0)) (.seq (.block 1 (.seq bZ.r5 (.seq (.seq bZ.r6 (.cond (.t 18) (.exit 1) .skip)) (.seq bZ.r7 (.seq (.seq bZ.r8 (.block 2 (.loop bZ.l0))) bZ.r13))))) bZ.iE)))
def bZ.jL:ACode:=(.region none [oM 40 5,
oM 4 40])
def bZ:AFunc:=⟨[.tmp 4],(.seq bZ.r0 (.seq bZ.r1 (.seq bZ.r2 (.seq (.seq bZ.r3 (.block 0 (.loop bZ.l1))) (.seq bZ.jL .ret)))))⟩
def lQ.r0:ACode:=(.region none [oP 2 (.move (.c (.slice none 0 0)))])
def lQ.r1:ACode:=(.region none [oM 3 0,
oP 4 (.call 224 [.t 3])])
def lQ.r2:ACode:=(.region none [oM 5 0,
oP 6 (.call 225 [.t 5])])
def lQ.r3:ACode:=(.region none [oM 7 0,
oM 2 7])
def lQ:AFunc:=⟨[.tmp 2],(.seq lQ.r0 (.seq lQ.r1 (.seq lQ.r2 (.seq lQ.r3 .ret))))⟩
def iM.r0:ACode:=(.region none [oP 2 (.box (.t 0)),
oP 4 (.alloc (List.replicate 16 (.int .u8 0)))])
def iM.r1:ACode:=(.region none [oP 7 (.build (List.replicate 16 (.int .u8 0)) []),
oP 5 (.alloc (List.replicate 16 (.int .u8 0))),
⟨none, .store 16 (.t 5) (.t 7),none⟩])
def iM.r2:ACode:=(.region none [oM 8 1,
oP 9 (.move (.c (.int .i64 0)))])
def iM.r3:ACode:=(.region none [oP 10 (.bin .lss (.t 9) (.t 8))])
def iM.r4:ACode:=(.region none [oM 11 9,
oM 6 11])
def iM.r5:ACode:=(.region none [oM 12 6,
oP 13 (.indexAddr (some 16) 1 (.t 2) (.t 12)),
oP 14 (.load none (.t 13)),
oM 15 6,
oP 16 (.conv .u8 (.t 15)),
oP 17 (.indexAddr (some 16) 1 (.t 5) (.t 14)),
⟨none, .store 1 (.t 17) (.t 16),none⟩])
def iM.r6:ACode:=(.region none [oP 18 (.bin .add (.t 9) (.c (.int .i64 1))),
oM 9 18])
def iM.l0:ACode:=(.seq iM.r3 (.seq (.cond (.t 10) .skip (.exit 0)) (.seq (.block 1 (.seq iM.r4 iM.r5)) iM.r6)))
def iM.r7:ACode:=(.region none [oP 19 (.load (some 16) (.t 5)),
⟨none, .store 16 (.t 4) (.t 19),none⟩])
def iM:AFunc:=⟨[.cell 4 (some 16)],(.seq iM.r0 (.seq iM.r1 (.seq (.seq iM.r2 (.block 0 (.loop iM.l0))) (.seq iM.r7 .ret))))⟩
def iO.r0:ACode:=(.region none [oP 3 (.box (.t 0)),
oP 4 (.box (.t 1)),
oP 6 (.alloc (List.replicate 16 (.int .u8 0)))])
def iO.r1:ACode:=(.region none [oP 9 (.build (List.replicate 16 (.int .u8 0)) []),
oP 7 (.alloc (List.replicate 16 (.int .u8 0))),
⟨none, .store 16 (.t 7) (.t 9),none⟩])
def iO.r2:ACode:=(.region none [oM 10 2,
oP 11 (.move (.c (.int .i64 0)))])
def iO.r3:ACode:=(.region none [oP 12 (.bin .lss (.t 11) (.t 10))])
def iO.r4:ACode:=(.region none [oM 13 11,
oM 8 13])
def iO.r5:ACode:=(.region none [oM 14 8,
oM 15 8,
oP 16 (.indexAddr (some 16) 1 (.t 3) (.t 15)),
oP 17 (.load none (.t 16)),
oP 18 (.indexAddr (some 16) 1 (.t 4) (.t 17)),
oP 19 (.load none (.t 18)),
oP 20 (.indexAddr (some 16) 1 (.t 7) (.t 14)),
⟨none, .store 1 (.t 20) (.t 19),none⟩])
def iO.r6:ACode:=(.region none [oP 21 (.bin .add (.t 11) (.c (.int .i64 1))),
oM 11 21])
def iO.l0:ACode:=(.seq iO.r3 (.seq (.cond (.t 12) .skip (.exit 0)) (.seq (.block 1 (.seq iO.r4 iO.r5)) iO.r6)))
def iO.r7:ACode:=(.region none [oP 22 (.load (some 16) (.t 7)),
⟨none, .store 16 (.t 6) (.t 22),none⟩])
def iO:AFunc:=⟨[.cell 6 (some 16)],(.seq iO.r0 (.seq iO.r1 (.seq (.seq iO.r2 (.block 0 (.loop iO.l0))) (.seq iO.r7 .ret))))⟩
def gG.r0:ACode:=(.region none [oP 2 (.move (.c (.int .i64 0)))])
def gG.r1:ACode:=(.region none [oM 3 0,
oP 4 (.bin .geq (.t 3) (.c (.int .u64 4294967296)))])
def gG.r2:ACode:=(.region none [oM 5 0,
oP 6 (.bin .shr (.t 5) (.c (.int .u64 32))),
oM 0 6])
def gG.r3:ACode:=(.region none [oP 2 (.move (.c (.int .i64 32)))])
def gG.r4:ACode:=(.region none [oM 7 0,
oP 8 (.bin .geq (.t 7) (.c (.int .u64 65536)))])
def gG.r5:ACode:=(.region none [oM 9 0,
oP 10 (.bin .shr (.t 9) (.c (.int .u64 16))),
oM 0 10])
def gG.r6:ACode:=(.region none [oM 11 2,
oP 12 (.bin .add (.t 11) (.c (.int .i64 16))),
oM 2 12])
def gG.r7:ACode:=(.region none [oM 13 0,
oP 14 (.bin .geq (.t 13) (.c (.int .u64 256)))])
def gG.r8:ACode:=(.region none [oM 15 0,
oP 16 (.bin .shr (.t 15) (.c (.int .u64 8))),
oM 0 16])
def gG.r9:ACode:=(.region none [oM 17 2,
oP 18 (.bin .add (.t 17) (.c (.int .i64 8))),
oM 2 18])
def gG.r10:ACode:=(.region none [oM 19 2,
oM 20 0,
oP 21 (.conv .u8 (.t 20)),
oP 22 (.indexStr (.c (.string ⟨#[0,1,2,2,3,3,3,3,4,4,4,4,4,4,4,4,5,5,5,5,5,5,5,5,5,5,5,5,5,5,5,5,6,6,6,6,6,6,6,6,6,6,6,6,6,6,6,6,6,6,6,6,6,6,6,6,6,6,6,6,6,6,6,6,7,7,7,7,7,7,7,7,7,7,7,7,7,7,7,7,7,7,7,7,7,7,7,7,7,7,7,7,7,7,7,7,7,7,7,7,7,7,7,7,7,7,7,7,7,7,7,7,7,7,7,7,7,7,7,7,7,7,7,7,7,7,7,7,8,8,8,8,8,8,8,8,8,8,8,8,8,8,8,8,8,8,8,8,8,8,8,8,8,8,8,8,8,8,8,8,8,8,8,8,8,8,8,8,8,8,8,8,8,8,8,8,8,8,8,8,8,8,8,8,8,8,8,8,8,8,8,8,8,8,8,8,8,8,8,8,8,8,8,8,8,8,8,8,8,8,8,8,8,8,8,8,8,8,8,8,8,8,8,8,8,8,8,8,8,8,8,8,8,8,8,8,8,8,8,8,8,8,8,8,8,8,8,8,8,8,8,8,8,8,8,8]⟩)) (.t 21)),
oP 23 (.conv .i64 (.t 22)),
oP 24 (.bin .add (.t 19) (.t 23)),
oM 2 24])
def gG:AFunc:=⟨[.tmp 2],(.seq gG.r0 (.seq (.seq gG.r1 (.cond (.t 4) (.seq gG.r2 gG.r3) .skip)) (.seq (.seq gG.r4 (.cond (.t 8) (.seq gG.r5 gG.r6) .skip)) (.seq (.seq gG.r7 (.cond (.t 14) (.seq gG.r8 gG.r9) .skip)) (.seq gG.r10 .ret)))))⟩
def gq.r0:ACode:=(.region none [oP 2 (.move (.c (.bool false)))])
def gq.r1:ACode:=(.region none [oM 4 0,
oP 5 (.len (.t 4)),
oP 6 (.bin .lss (.t 5) (.c (.int .i64 1))),
oM 7 6,
⟨some 8, .move (.t 0),some (7,false)⟩,
⟨some 9, .len (.t 8),some (7,false)⟩,
⟨some 10, .bin .gtr (.t 9) (.c (.int .i64 16)),some (7,false)⟩,
oP 11 (.pick (.t 7) (.c (.bool true)) (.t 10))])
def gq.r2:ACode:=(.region none [oP 2 (.move (.c (.bool false)))])
def gq.r3:ACode:=(.region none [oP 3 (.move (.c (.int .i64 0)))])
def gq.r4:ACode:=(.region none [oM 12 3,
oM 13 0,
oP 14 (.len (.t 13)),
oP 15 (.bin .lss (.t 12) (.t 14))])
def gq.r6:ACode:=(.region (some 22) [oM 18 0,
oM 19 3,
oP 20 (.indexAddr none 1 (.t 18) (.t 19)),
oP 21 (.load none (.t 20)),
oP 22 (.call 58 [.t 21,(.c (.int .i64 1)),(.c (.int .i64 16))]),
oP 23 (.not (.t 22)),
oM 24 23,
⟨some 25, .move (.t 3),some (24,false)⟩,
⟨some 26, .bin .gtr (.t 25) (.c (.int .i64 0)),some (24,false)⟩,
⟨some 27, .move (.t 26),some (24,false)⟩,
⟨some 28, .move (.t 0),some (27,true)⟩,
⟨some 29, .move (.t 3),some (27,true)⟩,
⟨some 30, .indexAddr none 1 (.t 28) (.t 29),some (27,true)⟩,
⟨some 31, .load none (.t 30),some (27,true)⟩,
⟨some 32, .move (.t 0),some (27,true)⟩,
⟨some 33, .move (.t 3),some (27,true)⟩,
⟨some 34, .bin .sub (.t 33) (.c (.int .i64 1)),some (27,true)⟩,
⟨some 35, .indexAddr none 1 (.t 32) (.t 34),some (27,true)⟩,
⟨some 36, .load none (.t 35),some (27,true)⟩,
⟨some 37, .bin .gtr (.t 31) (.t 36),some (27,true)⟩,
⟨some 38, .pick (.t 27) (.t 37) (.c (.bool false)),some (24,false)⟩,
oP 39 (.pick (.t 24) (.c (.bool true)) (.t 38))])
def gq.r7:ACode:=(.region none [oP 2 (.move (.c (.bool false)))])
def gq.r5:ACode:=(.region none [oM 16 3,
oP 17 (.bin .add (.t 16) (.c (.int .i64 1))),
oM 3 17])
def gq.l0:ACode:=(.seq (.seq gq.r4 (.cond (.t 15) .skip (.exit 0))) (.seq (.block 1 (.seq gq.r6 (.cond (.t 39) (.seq gq.r7 .ret) .skip))) gq.r5))
def gq.r8:ACode:=(.region none [oM 40 0,
oP 41 (.call 79 [.t 40]),
oP 42 (.bin .leq (.t 41) (.c (.int .i64 16))),
oM 2 42])
def gq:AFunc:=⟨[.tmp 2],(.seq gq.r0 (.seq (.seq gq.r1 (.cond (.t 11) (.seq gq.r2 .ret) .skip)) (.seq (.seq gq.r3 (.block 0 (.loop gq.l0))) (.seq gq.r8 .ret))))⟩
def fD.r0:ACode:=(.region none [oP 5 (.box (.t 0)),
oP 6 (.box (.t 1)),
oP 7 (.box (.t 2)),
oP 10 (.alloc ([.int .i64 0, .int .i64 0]++[.slice none 0 0]++[.bool false]))])
def fD.r1:ACode:=(.region (some 8) [oP 12 (.load (some 16) (.t 7)),
oM 13 3,
oP 14 (.call 284 [.t 12, .t 13]),
oM 15 4,
oP 16 (.indexAddr none 1 (.t 15) (.c (.int .i64 1))),
oP 17 (.load none (.t 16)),
oP 18 (.call 390 [.t 14, .t 17]),
oP 19 (.not (.t 18))])
def fD.r2:ACode:=(.region none [oP 20 (.load (some 4) (.t 5)),
⟨none, .store 4 (.t 10) (.t 20),none⟩])
def fD.r3:ACode:=(.region none [oM 21 3,
oP 22 (.load (some 16) (.t 6)),
oP 23 (.load (some 16) (.t 7)),
oP 24 (.build ([.int .i64 0]++List.replicate 32 (.int .u8 0)) [(0,1, .t 21),(1,16, .t 22),(17,16, .t 23)]),
oP 11 (.alloc ([.int .i64 0]++List.replicate 32 (.int .u8 0))),
⟨none, .store 33 (.t 11) (.t 24),none⟩])
def fD.r4:ACode:=(.region (some 9) [oP 25 (.load (some 33) (.t 11)),
oP 26 (.call 192 [.t 25]),
oM 27 3,
oP 28 (.call 284 [.t 26, .t 27]),
oM 29 4,
oP 30 (.indexAddr none 1 (.t 29) (.c (.int .i64 2))),
oP 31 (.load none (.t 30)),
oP 32 (.call 390 [.t 28, .t 31]),
oP 33 (.not (.t 32))])
def fD.r5:ACode:=(.region none [oP 34 (.load (some 4) (.t 5)),
⟨none, .store 4 (.t 10) (.t 34),none⟩])
def fD.r6:ACode:=(.region none [oP 35 (.fieldAddr 0 (.t 5)),
oP 36 (.load none (.t 35)),
oP 37 (.bin .add (.t 36) (.c (.int .i64 1))),
oP 38 (.fieldAddr 0 (.t 5)),
⟨none, .store 1 (.t 38) (.t 37),none⟩])
def fD.r7:ACode:=(.region none [oP 39 (.load (some 33) (.t 11)),
oP 40 (.call 184 [.t 39]),
oP 41 (.not (.t 40))])
def fD.r8:ACode:=(.region none [oP 42 (.load (some 4) (.t 5)),
⟨none, .store 4 (.t 10) (.t 42),none⟩])
def fD.r9:ACode:=(.region none [oP 43 (.fieldAddr 1 (.t 5)),
oP 44 (.load none (.t 43)),
oP 45 (.bin .add (.t 44) (.c (.int .i64 1))),
oP 46 (.fieldAddr 1 (.t 5)),
⟨none, .store 1 (.t 46) (.t 45),none⟩])
def fD.r10:ACode:=(.region none [oP 47 (.fieldAddr 3 (.t 5)),
oP 48 (.load none (.t 47))])
def fD.r11:ACode:=(.region (some 6) [oP 49 (.fieldAddr 2 (.t 5)),
oP 50 (.load none (.t 49)),
oP 51 (.load (some 33) (.t 11)),
oP 52 (.call 359 [.t 51]),
oP 53 (.call 391 [.t 50, .t 52]),
oP 54 (.fieldAddr 2 (.t 5)),
⟨none, .store 1 (.t 54) (.t 53),none⟩])
def fD.r12:ACode:=(.region none [oP 55 (.load (some 4) (.t 5)),
⟨none, .store 4 (.t 10) (.t 55),none⟩])
def fD:AFunc:=⟨[.cell 10 (some 4)],(.seq fD.r0 (.seq (.seq fD.r1 (.cond (.t 19) (.seq fD.r2 .ret) .skip)) (.seq fD.r3 (.seq (.seq fD.r4 (.cond (.t 33) (.seq fD.r5 .ret) .skip)) (.seq fD.r6 (.seq (.seq fD.r7 (.cond (.t 41) (.seq fD.r8 .ret) .skip)) (.seq fD.r9 (.seq (.seq fD.r10 (.cond (.t 48) fD.r11 .skip)) (.seq fD.r12 .ret)))))))))⟩
def eU.r0:ACode:=(.region none [oP 2 (.move (.c (.int .i64 0)))])
def eU.r1:ACode:=(.region none [oP 3 (.move (.c (.int .i64 1))),
oP 4 (.move (.c (.int .i64 0)))])
def eU.r2:ACode:=(.region none [oM 7 0,
oP 8 (.len (.t 7)),
oP 9 (.move (.c (.int .i64 0)))])
def eU.r3:ACode:=(.region none [oP 10 (.bin .lss (.t 9) (.t 8))])
def eU.r4:ACode:=(.region none [oM 11 9,
oP 12 (.indexAddr none 1 (.t 7) (.t 9)),
oP 13 (.load none (.t 12)),
oM 5 11,
oM 6 13])
def eU.r5:ACode:=(.region none [oM 14 5,
oP 15 (.bin .gtr (.t 14) (.c (.int .i64 0))),
oM 16 15,
⟨some 17, .move (.t 6),some (16,true)⟩,
⟨some 18, .move (.t 0),some (16,true)⟩,
⟨some 19, .move (.t 5),some (16,true)⟩,
⟨some 20, .bin .sub (.t 19) (.c (.int .i64 1)),some (16,true)⟩,
⟨some 21, .indexAddr none 1 (.t 18) (.t 20),some (16,true)⟩,
⟨some 22, .load none (.t 21),some (16,true)⟩,
⟨some 23, .bin .eql (.t 17) (.t 22),some (16,true)⟩,
oP 24 (.pick (.t 16) (.t 23) (.c (.bool false)))])
def eU.r6:ACode:=(.region none [oM 25 4,
oP 26 (.bin .add (.t 25) (.c (.int .i64 1))),
oM 4 26])
def eU.r7:ACode:=(.region none [oP 4 (.move (.c (.int .i64 1)))])
def eU.r8:ACode:=(.region none [oM 27 3,
oM 28 4,
oP 29 (.bin .mul (.t 27) (.t 28)),
oM 3 29])
def eU.r9:ACode:=(.region none [oP 30 (.bin .add (.t 9) (.c (.int .i64 1))),
oM 9 30])
def eU.l0:ACode:=(.seq eU.r3 (.seq (.cond (.t 10) .skip (.exit 0)) (.seq (.block 1 (.seq eU.r4 (.seq (.seq eU.r5 (.cond (.t 24) eU.r6 eU.r7)) eU.r8))) eU.r9)))
def eU.r10:ACode:=(.region none [oM 31 3,
oM 2 31])
def eU:AFunc:=⟨[.tmp 2],(.seq eU.r0 (.seq eU.r1 (.seq (.seq eU.r2 (.block 0 (.loop eU.l0))) (.seq eU.r10 .ret))))⟩
def oO.r0:ACode:=(.region none [oP 2 (.box (.t 0)),
oP 3 (.box (.t 1)),
oP 4 (.move (.c (.int .i64 0)))])
def oO.r1:ACode:=(.region (some 4) [oP 5 (.sliceArr 16 1 (.t 2) none none),
oP 6 (.sliceArr 16 1 (.t 3) none none),
oP 7 (.call 226 [.t 5, .t 6]),
oM 4 7])
def oO:AFunc:=⟨[.tmp 4],(.seq oO.r0 (.seq oO.r1 .ret))⟩
def dF.r0:ACode:=(.region none [oP 2 (.box (.t 0)),
oP 4 (.move (.c (.slice none 0 0)))])
def dF.r1:ACode:=(.region none [oP 10 (.build (List.replicate 16 (.bool false)) []),
oP 5 (.alloc (List.replicate 16 (.bool false))),
⟨none, .store 16 (.t 5) (.t 10),none⟩])
def dF.r2:ACode:=(.region none [oM 11 1,
oP 12 (.indexAddr (some 16) 1 (.t 5) (.t 11)),
⟨none, .store 1 (.t 12) (.c (.bool true)),none⟩])
def dF.r3:ACode:=(.region none [oM 13 1,
oP 14 (.conv .u8 (.t 13)),
oP 15 (.buildSlice 1 1 [.int .u8 0] [(0,1, .t 14)]),
oM 6 15])
def dF.r4:ACode:=(.region none [oP 7 (.move (.c (.int .i64 0)))])
def dF.r5:ACode:=(.region none [oM 16 7,
oM 17 6,
oP 18 (.len (.t 17)),
oP 19 (.bin .lss (.t 16) (.t 18))])
def dF.r7:ACode:=(.region (some 17) [oM 22 6,
oM 23 7,
oP 24 (.indexAddr none 1 (.t 22) (.t 23)),
oP 25 (.load none (.t 24)),
oP 26 (.fieldAddr 1 (.t 2)),
oP 27 (.indexAddr (some 16) 1 (.t 26) (.t 25)),
oP 28 (.load none (.t 27)),
oM 29 6,
oM 30 7,
oP 31 (.indexAddr none 1 (.t 29) (.t 30)),
oP 32 (.load none (.t 31)),
oP 33 (.fieldAddr 17 (.t 2)),
oP 34 (.indexAddr (some 16) 1 (.t 33) (.t 32)),
oP 35 (.load none (.t 34)),
oP 36 (.buildSlice 1 2 [.int .u8 0] [(0,1, .t 28),(1,1, .t 35)]),
oP 37 (.len (.t 36)),
oP 38 (.move (.c (.int .i64 0)))])
def dF.r8:ACode:=(.region none [oP 39 (.bin .lss (.t 38) (.t 37))])
def dF.r9:ACode:=(.region none [oP 40 (.indexAddr none 1 (.t 36) (.t 38)),
oP 41 (.load none (.t 40)),
oM 9 41])
def dF.r10:ACode:=(.region none [oM 42 9,
oP 43 (.indexAddr (some 16) 1 (.t 5) (.t 42)),
oP 44 (.load none (.t 43)),
oP 45 (.not (.t 44))])
def dF.r11:ACode:=(.region none [oM 46 9,
oP 47 (.indexAddr (some 16) 1 (.t 5) (.t 46)),
⟨none, .store 1 (.t 47) (.c (.bool true)),none⟩])
def dF.r12:ACode:=(.region none [oM 48 6,
oM 49 9,
oP 50 (.buildSlice 1 1 [.int .u8 0] [(0,1, .t 49)]),
oP 51 (.append 1 1 (.t 48) (.t 50)),
oM 6 51])
def dF.r13:ACode:=(.region none [oP 52 (.bin .add (.t 38) (.c (.int .i64 1))),
oM 38 52])
def dF.l0:ACode:=(.seq dF.r8 (.seq (.cond (.t 39) .skip (.exit 2)) (.seq (.block 3 (.seq dF.r9 (.seq dF.r10 (.cond (.t 45) (.seq dF.r11 dF.r12) .skip)))) dF.r13)))
def dF.r6:ACode:=(.region none [oM 20 7,
oP 21 (.bin .add (.t 20) (.c (.int .i64 1))),
oM 7 21])
def dF.l1:ACode:=(.seq (.seq dF.r5 (.cond (.t 19) .skip (.exit 0))) (.seq (.block 1 (.seq dF.r7 (.block 2 (.loop dF.l0)))) dF.r6))
def dF.iE:ACode:=(.region none [oM 53 6,
oM 4 53])
def dF:AFunc:=⟨[.tmp 4],(.seq dF.r0 (.seq dF.r1 (.seq dF.r2 (.seq dF.r3 (.seq (.seq dF.r4 (.block 0 (.loop dF.l1))) (.seq dF.iE .ret))))))⟩
def dQ.r0:ACode:=(.region none [oP 2 (.box (.t 0)),
oP 4 (.move (.c (.bool false)))])
def dQ.r1:ACode:=(.region none [oM 7 1,
oP 8 (.call 58 [.t 7,(.c (.int .i64 1)),(.c (.int .i64 16))]),
oP 9 (.not (.t 8))])
def dQ.r2:ACode:=(.region none [oP 4 (.move (.c (.bool false)))])
def dQ.r3:ACode:=(.region none [oP 10 (.build (List.replicate 16 (.bool false)) []),
oP 5 (.alloc (List.replicate 16 (.bool false))),
⟨none, .store 16 (.t 5) (.t 10),none⟩])
def dQ.r4:ACode:=(.region none [oP 6 (.move (.c (.int .i64 0)))])
def dQ.r5:ACode:=(.region none [oM 11 6,
oP 12 (.bin .lss (.t 11) (.c (.int .i64 16)))])
def dQ.r8:ACode:=(.region none [oM 20 6,
oM 21 1,
oP 22 (.bin .geq (.t 20) (.t 21)),
oM 19 22])
def dQ.r9:ACode:=(.region none [oM 23 6,
oP 24 (.indexAddr (some 16) 1 (.t 2) (.t 23)),
oP 25 (.load none (.t 24)),
oP 26 (.bin .neq (.t 25) (.c (.int .u8 0)))])
def dQ.r10:ACode:=(.region none [oP 4 (.move (.c (.bool false)))])
def dQ.r11:ACode:=(.region none [oM 28 6,
oP 29 (.indexAddr (some 16) 1 (.t 2) (.t 28)),
oP 30 (.load none (.t 29)),
oP 31 (.conv .i64 (.t 30)),
oM 32 1,
oP 33 (.bin .geq (.t 31) (.t 32)),
oM 34 33,
⟨some 35, .move (.t 6),some (34,false)⟩,
⟨some 36, .indexAddr (some 16) 1 (.t 2) (.t 35),some (34,false)⟩,
⟨some 37, .load none (.t 36),some (34,false)⟩,
⟨some 38, .indexAddr (some 16) 1 (.t 5) (.t 37),some (34,false)⟩,
⟨some 39, .load none (.t 38),some (34,false)⟩,
oP 40 (.pick (.t 34) (.c (.bool true)) (.t 39)),
oM 27 40])
def dQ.r12:ACode:=(.region none [oP 4 (.move (.c (.bool false)))])
def dQ.r7:ACode:=(.region none [oM 15 6,
oP 16 (.indexAddr (some 16) 1 (.t 2) (.t 15)),
oP 17 (.load none (.t 16)),
oP 18 (.indexAddr (some 16) 1 (.t 5) (.t 17)),
⟨none, .store 1 (.t 18) (.c (.bool true)),none⟩])
def dQ.r6:ACode:=(.region none [oM 13 6,
oP 14 (.bin .add (.t 13) (.c (.int .i64 1))),
oM 6 14])
def dQ.l0:ACode:=(.seq (.seq dQ.r5 (.cond (.t 12) .skip (.exit 0))) (.seq (.block 1 (.block 2 (.seq dQ.r8 (.cond (.t 19) (.seq dQ.r9 (.cond (.t 26) (.seq dQ.r10 .ret) .skip)) (.seq dQ.r11 (.cond (.t 27) (.seq dQ.r12 .ret) dQ.r7)))))) dQ.r6))
def dQ.r13:ACode:=(.region none [oP 4 (.move (.c (.bool true)))])
def dQ:AFunc:=⟨[.tmp 4],(.seq dQ.r0 (.seq (.seq dQ.r1 (.cond (.t 9) (.seq dQ.r2 .ret) .skip)) (.seq dQ.r3 (.seq (.seq dQ.r4 (.block 0 (.loop dQ.l0))) (.seq dQ.r13 .ret)))))⟩
def dK.r0:ACode:=(.region none [oP 4 (.box (.t 1)),
oP 5 (.box (.t 2)),
oP 6 (.move (.c (.bool false)))])
def dK.r1:ACode:=(.region none [oP 12 (.build (List.replicate 16 (.bool false)) []),
oP 13 (.buildSlice 1 1 [.int .u8 0] [(0,1,(.c (.int .u8 0)))]),
oP 7 (.alloc (List.replicate 16 (.bool false))),
⟨none, .store 16 (.t 7) (.t 12),none⟩,
oM 8 13])
def dK.r2:ACode:=(.region none [oP 14 (.indexAddr (some 16) 1 (.t 7) (.c (.int .i64 0))),
⟨none, .store 1 (.t 14) (.c (.bool true)),none⟩])
def dK.r3:ACode:=(.region none [oP 9 (.move (.c (.int .i64 0)))])
def dK.r4:ACode:=(.region none [oM 15 9,
oM 16 8,
oP 17 (.len (.t 16)),
oP 18 (.bin .lss (.t 15) (.t 17))])
def dK.r6:ACode:=(.region (some 14) [oM 21 8,
oM 22 9,
oP 23 (.indexAddr none 1 (.t 21) (.t 22)),
oP 24 (.load none (.t 23)),
oP 25 (.indexAddr (some 16) 1 (.t 4) (.t 24)),
oP 26 (.load none (.t 25)),
oM 27 8,
oM 28 9,
oP 29 (.indexAddr none 1 (.t 27) (.t 28)),
oP 30 (.load none (.t 29)),
oP 31 (.indexAddr (some 16) 1 (.t 5) (.t 30)),
oP 32 (.load none (.t 31)),
oP 33 (.buildSlice 1 2 [.int .u8 0] [(0,1, .t 26),(1,1, .t 32)]),
oM 10 33])
def dK.r7:ACode:=(.region none [oP 11 (.move (.c (.int .i64 0)))])
def dK.r8:ACode:=(.region none [oM 34 11,
oP 35 (.bin .lss (.t 34) (.c (.int .i64 2)))])
def dK.r10:ACode:=(.region none [oM 38 10,
oM 39 11,
oP 40 (.indexAddr none 1 (.t 38) (.t 39)),
oP 41 (.load none (.t 40)),
oP 42 (.indexAddr (some 16) 1 (.t 7) (.t 41)),
oP 43 (.load none (.t 42)),
oP 44 (.not (.t 43))])
def dK.r11:ACode:=(.region none [oM 45 10,
oM 46 11,
oP 47 (.indexAddr none 1 (.t 45) (.t 46)),
oP 48 (.load none (.t 47)),
oP 49 (.indexAddr (some 16) 1 (.t 7) (.t 48)),
⟨none, .store 1 (.t 49) (.c (.bool true)),none⟩])
def dK.r12:ACode:=(.region none [oM 50 8,
oM 51 10,
oM 52 11,
oP 53 (.indexAddr none 1 (.t 51) (.t 52)),
oP 54 (.load none (.t 53)),
oP 55 (.buildSlice 1 1 [.int .u8 0] [(0,1, .t 54)]),
oP 56 (.append 1 1 (.t 50) (.t 55)),
oM 8 56])
def dK.r9:ACode:=(.region none [oM 36 11,
oP 37 (.bin .add (.t 36) (.c (.int .i64 1))),
oM 11 37])
def dK.l0:ACode:=(.seq (.seq dK.r8 (.cond (.t 35) .skip (.exit 2))) (.seq (.block 3 (.seq dK.r10 (.cond (.t 44) (.seq dK.r11 dK.r12) .skip))) dK.r9))
def dK.r5:ACode:=(.region none [oM 19 9,
oP 20 (.bin .add (.t 19) (.c (.int .i64 1))),
oM 9 20])
def dK.l1:ACode:=(.seq (.seq dK.r4 (.cond (.t 18) .skip (.exit 0))) (.seq (.block 1 (.seq dK.r6 (.seq dK.r7 (.block 2 (.loop dK.l0))))) dK.r5))
def dK.r13:ACode:=(.region none [oM 57 8,
oP 58 (.len (.t 57)),
oM 59 0,
oP 60 (.bin .eql (.t 58) (.t 59)),
oM 6 60])
def dK:AFunc:=⟨[.tmp 6],(.seq dK.r0 (.seq dK.r1 (.seq dK.r2 (.seq (.seq dK.r3 (.block 0 (.loop dK.l1))) (.seq dK.r13 .ret)))))⟩
def lS.r0:ACode:=(.region none [oP 2 (.box (.t 0)),
oP 3 (.box (.t 1)),
oP 4 (.move (.c (.bool false)))])
def lS.r1:ACode:=(.region none [oP 5 (.fieldAddr 1 (.t 2)),
oP 6 (.load (some 16) (.t 5)),
oP 7 (.fieldAddr 1 (.t 3)),
oP 8 (.load (some 16) (.t 7)),
oP 9 (.eqa true 16 (.t 6) (.t 8))])
def lS.r2:ACode:=(.region none [oP 10 (.fieldAddr 1 (.t 2)),
oP 11 (.load (some 16) (.t 10)),
oP 12 (.fieldAddr 1 (.t 3)),
oP 13 (.load (some 16) (.t 12)),
oP 14 (.call 389 [.t 11, .t 13]),
oM 4 14])
def lS.r3:ACode:=(.region none [oP 15 (.fieldAddr 17 (.t 2)),
oP 16 (.load (some 16) (.t 15)),
oP 17 (.fieldAddr 17 (.t 3)),
oP 18 (.load (some 16) (.t 17)),
oP 19 (.call 389 [.t 16, .t 18]),
oM 4 19])
def lS:AFunc:=⟨[.tmp 4],(.seq lS.r0 (.seq (.seq lS.r1 (.cond (.t 9) (.seq lS.r2 .ret) .skip)) (.seq lS.r3 .ret)))⟩
def iP.r0:ACode:=(.region none [oP 2 (.box (.t 0)),
oP 3 (.box (.t 1)),
oP 4 (.alloc ([.int .i64 0]++List.replicate 32 (.int .u8 0)))])
def iP.r1:ACode:=(.region none [oP 7 (.fieldAddr 0 (.t 2)),
oP 8 (.load none (.t 7)),
oP 9 (.build ([.int .i64 0]++List.replicate 32 (.int .u8 0)) [(0,1, .t 8)]),
oP 5 (.alloc ([.int .i64 0]++List.replicate 32 (.int .u8 0))),
⟨none, .store 33 (.t 5) (.t 9),none⟩])
def iP.r2:ACode:=(.region none [oP 6 (.move (.c (.int .i64 0)))])
def iP.r3:ACode:=(.region none [oM 10 6,
oP 11 (.fieldAddr 0 (.t 2)),
oP 12 (.load none (.t 11)),
oP 13 (.bin .lss (.t 10) (.t 12))])
def iP.r5:ACode:=(.region (some 11) [oM 16 6,
oP 17 (.indexAddr (some 16) 1 (.t 3) (.t 16)),
oP 18 (.load none (.t 17)),
oM 19 6,
oP 20 (.fieldAddr 1 (.t 2)),
oP 21 (.indexAddr (some 16) 1 (.t 20) (.t 19)),
oP 22 (.load none (.t 21)),
oP 23 (.indexAddr (some 16) 1 (.t 3) (.t 22)),
oP 24 (.load none (.t 23)),
oP 25 (.fieldAddr 1 (.t 5)),
oP 26 (.indexAddr (some 16) 1 (.t 25) (.t 18)),
⟨none, .store 1 (.t 26) (.t 24),none⟩])
def iP.r6:ACode:=(.region (some 11) [oM 27 6,
oP 28 (.indexAddr (some 16) 1 (.t 3) (.t 27)),
oP 29 (.load none (.t 28)),
oM 30 6,
oP 31 (.fieldAddr 17 (.t 2)),
oP 32 (.indexAddr (some 16) 1 (.t 31) (.t 30)),
oP 33 (.load none (.t 32)),
oP 34 (.indexAddr (some 16) 1 (.t 3) (.t 33)),
oP 35 (.load none (.t 34)),
oP 36 (.fieldAddr 17 (.t 5)),
oP 37 (.indexAddr (some 16) 1 (.t 36) (.t 29)),
⟨none, .store 1 (.t 37) (.t 35),none⟩])
def iP.r4:ACode:=(.region none [oM 14 6,
oP 15 (.bin .add (.t 14) (.c (.int .i64 1))),
oM 6 15])
def iP.l0:ACode:=(.seq (.seq iP.r3 (.cond (.t 13) .skip (.exit 0))) (.seq (.block 1 (.seq iP.r5 iP.r6)) iP.r4))
def iP.r7:ACode:=(.region none [oP 38 (.load (some 33) (.t 5)),
⟨none, .store 33 (.t 4) (.t 38),none⟩])
def iP:AFunc:=⟨[.cell 4 (some 33)],(.seq iP.r0 (.seq iP.r1 (.seq (.seq iP.r2 (.block 0 (.loop iP.l0))) (.seq iP.r7 .ret))))⟩
def bM.r0:ACode:=(.region none [oP 2 (.box (.t 0)),
oP 4 (.alloc (List.replicate 16 (.int .u8 0)))])
def bM.r1:ACode:=(.region none [oP 12 (.build (List.replicate 16 (.int .u8 0)) []),
oP 13 (.build (List.replicate 16 (.bool false)) []),
oM 14 1,
oP 15 (.conv .u8 (.t 14)),
oP 16 (.buildSlice 1 1 [.int .u8 0] [(0,1, .t 15)]),
oP 5 (.alloc (List.replicate 16 (.int .u8 0))),
oP 6 (.alloc (List.replicate 16 (.bool false))),
⟨none, .store 16 (.t 5) (.t 12),none⟩,
⟨none, .store 16 (.t 6) (.t 13),none⟩,
oM 7 16])
def bM.r2:ACode:=(.region none [oM 17 1,
oP 18 (.indexAddr (some 16) 1 (.t 6) (.t 17)),
⟨none, .store 1 (.t 18) (.c (.bool true)),none⟩])
def bM.r3:ACode:=(.region none [oP 8 (.move (.c (.int .i64 0)))])
def bM.r4:ACode:=(.region none [oM 19 8,
oM 20 7,
oP 21 (.len (.t 20)),
oP 22 (.bin .lss (.t 19) (.t 21))])
def bM.r6:ACode:=(.region none [oM 25 7,
oM 26 8,
oP 27 (.indexAddr none 1 (.t 25) (.t 26)),
oP 28 (.load none (.t 27)),
oM 9 28])
def bM.r7:ACode:=(.region none [oM 29 9,
oM 30 8,
oP 31 (.conv .u8 (.t 30)),
oP 32 (.indexAddr (some 16) 1 (.t 5) (.t 29)),
⟨none, .store 1 (.t 32) (.t 31),none⟩])
def bM.r8:ACode:=(.region none [oP 10 (.move (.c (.int .i64 0)))])
def bM.r9:ACode:=(.region none [oM 33 10,
oP 34 (.bin .lss (.t 33) (.c (.int .i64 2)))])
def bM.r11:ACode:=(.region none [oM 37 9,
oP 38 (.fieldAddr 1 (.t 2)),
oP 39 (.indexAddr (some 16) 1 (.t 38) (.t 37)),
oP 40 (.load none (.t 39)),
oM 11 40])
def bM.r12:ACode:=(.region none [oM 41 10,
oP 42 (.bin .eql (.t 41) (.c (.int .i64 1)))])
def bM.r13:ACode:=(.region none [oM 43 9,
oP 44 (.fieldAddr 17 (.t 2)),
oP 45 (.indexAddr (some 16) 1 (.t 44) (.t 43)),
oP 46 (.load none (.t 45)),
oM 11 46])
def bM.iE:ACode:=(.region none [oM 47 11,
oP 48 (.indexAddr (some 16) 1 (.t 6) (.t 47)),
oP 49 (.load none (.t 48)),
oP 50 (.not (.t 49))])
def bM.jL:ACode:=(.region none [oM 51 11,
oP 52 (.indexAddr (some 16) 1 (.t 6) (.t 51)),
⟨none, .store 1 (.t 52) (.c (.bool true)),none⟩])
def bM.r16:ACode:=(.region none [oM 53 7,
oM 54 11,
oP 55 (.buildSlice 1 1 [.int .u8 0] [(0,1, .t 54)]),
oP 56 (.append 1 1 (.t 53) (.t 55)),
oM 7 56])
def bM.r10:ACode:=(.region none [oM 35 10,
oP 36 (.bin .add (.t 35) (.c (.int .i64 1))),
oM 10 36])
def bM.l0:ACode:=(.seq (.seq bM.r9 (.cond (.t 34) .skip (.exit 2))) (.seq (.block 3 (.seq bM.r11 (.seq (.seq bM.r12 (.cond (.t 42) bM.r13 .skip)) (.seq bM.iE (.cond (.t 50) (.seq bM.jL bM.r16) .skip))))) bM.r10))
def bM.r5:ACode:=(.region none [oM 23 8,
oP 24 (.bin .add (.t 23) (.c (.int .i64 1))),
oM 8 24])
def bM.l1:ACode:=(.seq (.seq bM.r4 (.cond (.t 22) .skip (.exit 0))) (.seq (.block 1 (.seq bM.r6 (.seq bM.r7 (.seq bM.r8 (.block 2 (.loop bM.l0)))))) bM.r5))
def bM.lF:ACode:=(.region none [oP 57 (.load (some 16) (.t 5)),
⟨none, .store 16 (.t 4) (.t 57),none⟩])
def bM:AFunc:=⟨[.cell 4 (some 16)],(.seq bM.r0 (.seq bM.r1 (.seq bM.r2 (.seq (.seq bM.r3 (.block 0 (.loop bM.l1))) (.seq bM.lF .ret)))))⟩
def qo.r0:ACode:=(.region none [oM 3 0,
oP 4 (.len (.t 3)),
oM 2 4])
def qo.r1:ACode:=(.region none [oM 5 0,
oM 6 2,
oM 7 2,
oP 8 (.conv .u64 (.t 7)),
oP 9 (.call 227 [.t 8]),
oP 10 (.call 228 [.t 5,(.c (.int .i64 0)), .t 6, .t 9])])
def qo:AFunc:=⟨[],(.seq qo.r0 qo.r1)⟩
def kL.r0:ACode:=(.region none [oM 4 0,
oP 5 (.len (.t 4)),
oP 6 (.bin .sub (.t 5) (.c (.int .i64 1))),
oP 2 (.move (.c (.int .i64 0))),
oM 3 6])
def kL.r1:ACode:=(.region none [oM 7 2,
oM 8 3,
oP 9 (.bin .lss (.t 7) (.t 8))])
def kL.r3:ACode:=(.region (some 13) [oM 14 0,
oM 15 2,
oM 16 0,
oM 17 3,
oM 18 0,
oM 19 3,
oP 20 (.indexAddr none 1 (.t 18) (.t 19)),
oP 21 (.load none (.t 20)),
oM 22 0,
oM 23 2,
oP 24 (.indexAddr none 1 (.t 22) (.t 23)),
oP 25 (.load none (.t 24)),
oP 26 (.indexAddr none 1 (.t 14) (.t 15)),
⟨none, .storeF 1 (.t 26) (.t 21) [],none⟩,
oP 27 (.indexAddr none 1 (.t 16) (.t 17)),
⟨none, .store 1 (.t 27) (.t 25),none⟩])
def kL.r2:ACode:=(.region none [oM 10 2,
oP 11 (.bin .add (.t 10) (.c (.int .i64 1))),
oM 12 3,
oP 13 (.bin .sub (.t 12) (.c (.int .i64 1))),
oM 2 11,
oM 3 13])
def kL.l0:ACode:=(.seq (.seq kL.r1 (.cond (.t 9) .skip (.exit 0))) (.seq (.block 1 kL.r3) kL.r2))
def kL:AFunc:=⟨[],(.seq kL.r0 (.block 0 (.loop kL.l0)))⟩
def qp.r0:ACode:=(.region none [oP 2 (.move (.c (.int .u64 0)))])
def qp.r1:ACode:=(.region none [oM 3 0,
oP 4 (.conv .u64 (.t 3)),
oP 5 (.call 227 [.t 4]),
oP 6 (.bin .shl (.c (.int .u64 1)) (.t 5)),
oM 2 6])
def qp:AFunc:=⟨[.tmp 2],(.seq qp.r0 (.seq qp.r1 .ret))⟩
def kW.r0:ACode:=(.region none [oP 2 (.move (.c (.int .u64 0)))])
def kW.r1:ACode:=(.region (some 9) [oM 3 0,
oP 4 (.nilCheck (.t 3)),
oP 5 (.load none (.t 4)),
oM 6 0,
oP 7 (.nilCheck (.t 6)),
oP 8 (.load none (.t 7)),
oP 9 (.bin .shl (.t 8) (.c (.int .u64 13))),
oP 10 (.bin .xor (.t 5) (.t 9)),
oP 11 (.nilCheck (.t 3)),
⟨none, .store 1 (.t 11) (.t 10),none⟩])
def kW.r2:ACode:=(.region (some 9) [oM 12 0,
oP 13 (.nilCheck (.t 12)),
oP 14 (.load none (.t 13)),
oM 15 0,
oP 16 (.nilCheck (.t 15)),
oP 17 (.load none (.t 16)),
oP 18 (.bin .shr (.t 17) (.c (.int .u64 7))),
oP 19 (.bin .xor (.t 14) (.t 18)),
oP 20 (.nilCheck (.t 12)),
⟨none, .store 1 (.t 20) (.t 19),none⟩])
def kW.r3:ACode:=(.region (some 9) [oM 21 0,
oP 22 (.nilCheck (.t 21)),
oP 23 (.load none (.t 22)),
oM 24 0,
oP 25 (.nilCheck (.t 24)),
oP 26 (.load none (.t 25)),
oP 27 (.bin .shl (.t 26) (.c (.int .u64 17))),
oP 28 (.bin .xor (.t 23) (.t 27)),
oP 29 (.nilCheck (.t 21)),
⟨none, .store 1 (.t 29) (.t 28),none⟩])
def kW.r4:ACode:=(.region none [oM 30 0,
oP 31 (.nilCheck (.t 30)),
oP 32 (.load none (.t 31)),
oM 2 32])
def kW:AFunc:=⟨[.tmp 2],(.seq kW.r0 (.seq kW.r1 (.seq kW.r2 (.seq kW.r3 (.seq kW.r4 .ret)))))⟩
def qw.r0:ACode:=(.region none [oP 2 (.move (.c (.bool false)))])
def qw.r1:ACode:=(.region none [oM 3 0,
oM 4 0,
oP 5 (.bin .neq (.t 3) (.t 4)),
oM 2 5])
def qw:AFunc:=⟨[.tmp 2],(.seq qw.r0 (.seq qw.r1 .ret))⟩
def iq.r0:ACode:=(.region none [oP 4 (.move (.c (.bool false)))])
def iq.r1:ACode:=(.region none [oM 6 0,
oP 7 (.len (.t 6)),
oM 8 1,
oP 9 (.len (.t 8)),
oP 10 (.bin .neq (.t 7) (.t 9))])
def iq.r2:ACode:=(.region none [oP 4 (.move (.c (.bool false)))])
def iq.r3:ACode:=(.region none [oP 5 (.move (.c (.int .i64 0)))])
def iq.r4:ACode:=(.region none [oM 11 5,
oM 12 0,
oP 13 (.len (.t 12)),
oP 14 (.bin .lss (.t 11) (.t 13))])
def iq.r6:ACode:=(.region (some 9) [oM 17 0,
oM 18 5,
oP 19 (.indexAddr none 1 (.t 17) (.t 18)),
oP 20 (.load none (.t 19)),
oM 21 1,
oM 22 5,
oP 23 (.indexAddr none 1 (.t 21) (.t 22)),
oP 24 (.load none (.t 23)),
oP 25 (.bin .neq (.t 20) (.t 24))])
def iq.r7:ACode:=(.region none [oP 4 (.move (.c (.bool false)))])
def iq.r5:ACode:=(.region none [oM 15 5,
oP 16 (.bin .add (.t 15) (.c (.int .i64 1))),
oM 5 16])
def iq.l0:ACode:=(.seq (.seq iq.r4 (.cond (.t 14) .skip (.exit 0))) (.seq (.block 1 (.seq iq.r6 (.cond (.t 25) (.seq iq.r7 .ret) .skip))) iq.r5))
def iq.r8:ACode:=(.region none [oP 4 (.move (.c (.bool true)))])
def iq:AFunc:=⟨[.tmp 4],(.seq iq.r0 (.seq (.seq iq.r1 (.cond (.t 10) (.seq iq.r2 .ret) .skip)) (.seq (.seq iq.r3 (.block 0 (.loop iq.l0))) (.seq iq.r8 .ret))))⟩
def jh.r0:ACode:=(.region none [oP 2 (.box (.t 0)),
oP 3 (.box (.t 1)),
oP 4 (.move (.c (.bool false)))])
def jh.r1:ACode:=(.region none [oP 5 (.move (.c (.int .i64 0)))])
def jh.r2:ACode:=(.region none [oM 6 5,
oP 7 (.bin .lss (.t 6) (.c (.int .i64 16)))])
def jh.r4:ACode:=(.region (some 7) [oM 10 5,
oP 11 (.indexAddr (some 16) 1 (.t 2) (.t 10)),
oP 12 (.load none (.t 11)),
oM 13 5,
oP 14 (.indexAddr (some 16) 1 (.t 3) (.t 13)),
oP 15 (.load none (.t 14)),
oP 16 (.bin .neq (.t 12) (.t 15))])
def jh.r5:ACode:=(.region (some 8) [oM 17 5,
oP 18 (.indexAddr (some 16) 1 (.t 2) (.t 17)),
oP 19 (.load none (.t 18)),
oM 20 5,
oP 21 (.indexAddr (some 16) 1 (.t 3) (.t 20)),
oP 22 (.load none (.t 21)),
oP 23 (.bin .lss (.t 19) (.t 22)),
oM 4 23])
def jh.r3:ACode:=(.region none [oM 8 5,
oP 9 (.bin .add (.t 8) (.c (.int .i64 1))),
oM 5 9])
def jh.l0:ACode:=(.seq (.seq jh.r2 (.cond (.t 7) .skip (.exit 0))) (.seq (.block 1 (.seq jh.r4 (.cond (.t 16) (.seq jh.r5 .ret) .skip))) jh.r3))
def jh.r6:ACode:=(.region none [oP 4 (.move (.c (.bool false)))])
def jh:AFunc:=⟨[.tmp 4],(.seq jh.r0 (.seq (.seq jh.r1 (.block 0 (.loop jh.l0))) (.seq jh.r6 .ret)))⟩
def aW.r0:ACode:=(.region none [oP 8 (.move (.c (.bool true)))])
def aW.r1:ACode:=(.region none [oP 9 (.move (.c (.bool true)))])
def aW.r2:ACode:=(.region none [oM 19 2,
oM 20 1,
oP 21 (.bin .sub (.t 19) (.t 20)),
oM 10 21])
def aW.r3:ACode:=(.region none [oM 22 10,
oP 23 (.bin .leq (.t 22) (.c (.int .i64 12)))])
def aW.r4:ACode:=(.region none [oM 24 0,
oM 25 1,
oM 26 2,
oP 27 (.call 229 [.t 24, .t 25, .t 26])])
def aW.r5:ACode:=(.region none [oM 28 3,
oP 29 (.bin .eql (.t 28) (.c (.int .i64 0)))])
def aW.r6:ACode:=(.region none [oM 30 0,
oM 31 1,
oM 32 2,
oP 33 (.call 230 [.t 30, .t 31, .t 32])])
def aW.r7:ACode:=(.region none [oM 34 8,
oP 35 (.not (.t 34))])
def aW.r8:ACode:=(.region none [oM 36 0,
oM 37 1,
oM 38 2,
oP 39 (.call 231 [.t 36, .t 37, .t 38])])
def aW.r9:ACode:=(.region none [oM 40 3,
oP 41 (.bin .sub (.t 40) (.c (.int .i64 1))),
oM 3 41])
def aW.r10:ACode:=(.region none [oM 43 0,
oM 44 1,
oM 45 2,
oP 46 (.call 232 [.t 43, .t 44, .t 45]),
oM 42 46,
oP 47 (.extract (.t 42) 0),
oP 48 (.extract (.t 42) 1),
oM 11 47,
oM 12 48])
def aW.r11:ACode:=(.region none [oM 49 12,
oP 50 (.bin .eql (.t 49) (.c (.int .i64 2)))])
def aW.r12:ACode:=(.region none [oM 51 0,
oM 52 1,
oM 53 2,
oP 54 (.call 233 [.t 51, .t 52, .t 53])])
def aW.r13:ACode:=(.region none [oM 55 2,
oP 56 (.bin .sub (.t 55) (.c (.int .i64 1))),
oM 57 11,
oM 58 1,
oP 59 (.bin .sub (.t 57) (.t 58)),
oP 60 (.bin .sub (.t 56) (.t 59)),
oM 11 60])
def aW.iE:ACode:=(.region none [oP 12 (.move (.c (.int .i64 1)))])
def aW.jL:ACode:=(.region none [oM 61 8,
oM 62 61,
⟨some 63, .move (.t 9),some (62,true)⟩,
oP 64 (.pick (.t 62) (.t 63) (.c (.bool false))),
oM 65 64,
⟨some 66, .move (.t 12),some (65,true)⟩,
⟨some 67, .bin .eql (.t 66) (.c (.int .i64 1)),some (65,true)⟩,
oP 68 (.pick (.t 65) (.t 67) (.c (.bool false)))])
def aW.r16:ACode:=(.region none [oM 69 0,
oM 70 1,
oM 71 2,
oP 72 (.call 234 [.t 69, .t 70, .t 71])])
def aW.lF:ACode:=(.region (some 15) [oM 73 1,
oP 74 (.bin .gtr (.t 73) (.c (.int .i64 0))),
oM 75 74,
⟨some 76, .move (.t 0),some (75,true)⟩,
⟨some 77, .move (.t 1),some (75,true)⟩,
⟨some 78, .bin .sub (.t 77) (.c (.int .i64 1)),some (75,true)⟩,
⟨some 79, .indexAddr none 1 (.t 76) (.t 78),some (75,true)⟩,
⟨some 80, .load none (.t 79),some (75,true)⟩,
⟨some 81, .move (.t 0),some (75,true)⟩,
⟨some 82, .move (.t 11),some (75,true)⟩,
⟨some 83, .indexAddr none 1 (.t 81) (.t 82),some (75,true)⟩,
⟨some 84, .load none (.t 83),some (75,true)⟩,
⟨some 85, .call 235 [.t 80, .t 84],some (75,true)⟩,
⟨some 86, .not (.t 85),some (75,true)⟩,
oP 87 (.pick (.t 75) (.t 86) (.c (.bool false)))])
def aW.oQ:ACode:=(.region none [oM 88 0,
oM 89 1,
oM 90 2,
oM 91 11,
oP 92 (.call 236 [.t 88, .t 89, .t 90, .t 91]),
oM 13 92])
def aW.oU:ACode:=(.region none [oM 93 13,
oM 1 93])
def aW.qR:ACode:=(.region none [oM 95 0,
oM 96 1,
oM 97 2,
oM 98 11,
oP 99 (.call 237 [.t 95, .t 96, .t 97, .t 98]),
oM 94 99,
oP 100 (.extract (.t 94) 0),
oP 101 (.extract (.t 94) 1),
oM 14 100,
oM 15 101])
def aW.qU:ACode:=(.region none [oM 102 15,
oM 9 102])
def aW.r22:ACode:=(.region none [oM 103 14,
oM 104 1,
oP 105 (.bin .sub (.t 103) (.t 104)),
oM 106 2,
oM 107 14,
oP 108 (.bin .sub (.t 106) (.t 107)),
oM 16 105,
oM 17 108])
def aW.wJ:ACode:=(.region none [oM 109 10,
oP 110 (.bin .quo (.t 109) (.c (.int .i64 8))),
oM 18 110])
def aW.wK:ACode:=(.region none [oM 111 16,
oM 112 17,
oP 113 (.bin .lss (.t 111) (.t 112))])
def aW.r25:ACode:=(.region none [oM 114 16,
oM 115 18,
oP 116 (.bin .geq (.t 114) (.t 115)),
oM 8 116])
def aW.CO:ACode:=(.region none [oM 117 0,
oM 118 1,
oM 119 14,
oM 120 3,
oP 121 (.call 228 [.t 117, .t 118, .t 119, .t 120])])
def aW.r27:ACode:=(.region none [oM 122 14,
oP 123 (.bin .add (.t 122) (.c (.int .i64 1))),
oM 1 123])
def aW.r28:ACode:=(.region none [oM 124 17,
oM 125 18,
oP 126 (.bin .geq (.t 124) (.t 125)),
oM 8 126])
def aW.CP:ACode:=(.region none [oM 127 0,
oM 128 14,
oP 129 (.bin .add (.t 128) (.c (.int .i64 1))),
oM 130 2,
oM 131 3,
oP 132 (.call 228 [.t 127, .t 129, .t 130, .t 131])])
def aW.CQ:ACode:=(.region none [oM 133 14,
oM 2 133])
def aW.l0:ACode:=(.block 1 (.seq aW.r2 (.seq (.seq aW.r3 (.cond (.t 23) (.seq aW.r4 .ret) .skip)) (.seq (.seq aW.r5 (.cond (.t 29) (.seq aW.r6 .ret) .skip)) (.seq (.seq aW.r7 (.cond (.t 35) (.seq aW.r8 aW.r9) .skip)) (.seq aW.r10 (.seq (.seq aW.r11 (.cond (.t 50) (.seq aW.r12 (.seq aW.r13 aW.iE)) .skip)) (.seq (.seq aW.jL (.cond (.t 68) (.seq aW.r16 (.cond (.t 72) .ret .skip)) .skip)) (.seq (.seq aW.lF (.cond (.t 87) (.seq aW.oQ (.seq aW.oU (.exit 1))) .skip)) (.seq aW.qR (.seq aW.qU (.seq aW.r22 (.seq aW.wJ (.seq aW.wK (.cond (.t 113) (.seq aW.r25 (.seq aW.CO aW.r27)) (.seq aW.r28 (.seq aW.CP aW.CQ)))))))))))))))))
def aW:AFunc:=⟨[],(.seq aW.r0 (.seq aW.r1 (.block 0 (.loop aW.l0))))⟩
def iw.r0:ACode:=(.region none [oM 8 1,
oP 9 (.bin .add (.t 8) (.c (.int .i64 1))),
oM 6 9])
def iw.r1:ACode:=(.region none [oM 10 6,
oM 11 2,
oP 12 (.bin .lss (.t 10) (.t 11))])
def iw.r3:ACode:=(.region none [oM 15 6,
oM 7 15])
def iw.r4:ACode:=(.region (some 15) [oM 16 7,
oM 17 1,
oP 18 (.bin .gtr (.t 16) (.t 17)),
oM 19 18,
⟨some 20, .move (.t 0),some (19,true)⟩,
⟨some 21, .move (.t 7),some (19,true)⟩,
⟨some 22, .indexAddr none 1 (.t 20) (.t 21),some (19,true)⟩,
⟨some 23, .load none (.t 22),some (19,true)⟩,
⟨some 24, .move (.t 0),some (19,true)⟩,
⟨some 25, .move (.t 7),some (19,true)⟩,
⟨some 26, .bin .sub (.t 25) (.c (.int .i64 1)),some (19,true)⟩,
⟨some 27, .indexAddr none 1 (.t 24) (.t 26),some (19,true)⟩,
⟨some 28, .load none (.t 27),some (19,true)⟩,
⟨some 29, .call 235 [.t 23, .t 28],some (19,true)⟩,
oP 30 (.pick (.t 19) (.t 29) (.c (.bool false)))])
def iw.r6:ACode:=(.region (some 15) [oM 33 0,
oM 34 7,
oM 35 0,
oM 36 7,
oP 37 (.bin .sub (.t 36) (.c (.int .i64 1))),
oM 38 0,
oM 39 7,
oP 40 (.bin .sub (.t 39) (.c (.int .i64 1))),
oP 41 (.indexAddr none 1 (.t 38) (.t 40)),
oP 42 (.load none (.t 41)),
oM 43 0,
oM 44 7,
oP 45 (.indexAddr none 1 (.t 43) (.t 44)),
oP 46 (.load none (.t 45)),
oP 47 (.indexAddr none 1 (.t 33) (.t 34)),
⟨none, .storeF 1 (.t 47) (.t 42) [],none⟩,
oP 48 (.indexAddr none 1 (.t 35) (.t 37)),
⟨none, .store 1 (.t 48) (.t 46),none⟩])
def iw.r5:ACode:=(.region none [oM 31 7,
oP 32 (.bin .sub (.t 31) (.c (.int .i64 1))),
oM 7 32])
def iw.l0:ACode:=(.seq (.seq iw.r4 (.cond (.t 30) .skip (.exit 2))) (.seq (.block 3 iw.r6) iw.r5))
def iw.r2:ACode:=(.region none [oM 13 6,
oP 14 (.bin .add (.t 13) (.c (.int .i64 1))),
oM 6 14])
def iw.l1:ACode:=(.seq (.seq iw.r1 (.cond (.t 12) .skip (.exit 0))) (.seq (.block 1 (.seq iw.r3 (.block 2 (.loop iw.l0)))) iw.r2))
def iw:AFunc:=⟨[],(.seq iw.r0 (.block 0 (.loop iw.l1)))⟩
def eX.r0:ACode:=(.region none [oM 11 2,
oM 12 1,
oP 13 (.bin .sub (.t 11) (.t 12)),
oM 6 13])
def eX.r1:ACode:=(.region none [oM 14 6,
oP 15 (.bin .geq (.t 14) (.c (.int .i64 8)))])
def eX.r2:ACode:=(.region none [oM 16 6,
oP 17 (.conv .u64 (.t 16)),
oP 7 (.alloc [.int .u64 0]),
⟨none, .store 1 (.t 7) (.t 17),none⟩])
def eX.r3:ACode:=(.region none [oM 18 6,
oP 19 (.call 240 [.t 18]),
oM 8 19])
def eX.r4:ACode:=(.region none [oM 20 1,
oM 21 6,
oP 22 (.bin .quo (.t 21) (.c (.int .i64 4))),
oP 23 (.bin .mul (.t 22) (.c (.int .i64 2))),
oP 24 (.bin .add (.t 20) (.t 23)),
oP 25 (.bin .sub (.t 24) (.c (.int .i64 1))),
oM 9 25])
def eX.r5:ACode:=(.region none [oM 26 9,
oM 27 1,
oM 28 6,
oP 29 (.bin .quo (.t 28) (.c (.int .i64 4))),
oP 30 (.bin .mul (.t 29) (.c (.int .i64 2))),
oP 31 (.bin .add (.t 27) (.t 30)),
oP 32 (.bin .add (.t 31) (.c (.int .i64 1))),
oP 33 (.bin .leq (.t 26) (.t 32))])
def eX.r7:ACode:=(.region none [oP 36 (.call 241 [.t 7]),
oM 37 8,
oP 38 (.bin .sub (.t 37) (.c (.int .u64 1))),
oP 39 (.bin .and (.t 36) (.t 38)),
oP 40 (.conv .i64 (.t 39)),
oM 10 40])
def eX.r8:ACode:=(.region none [oM 41 10,
oM 42 6,
oP 43 (.bin .geq (.t 41) (.t 42))])
def eX.r9:ACode:=(.region none [oM 44 10,
oM 45 6,
oP 46 (.bin .sub (.t 44) (.t 45)),
oM 10 46])
def eX.r10:ACode:=(.region (some 17) [oM 47 0,
oM 48 9,
oM 49 0,
oM 50 1,
oM 51 10,
oP 52 (.bin .add (.t 50) (.t 51)),
oM 53 0,
oM 54 1,
oM 55 10,
oP 56 (.bin .add (.t 54) (.t 55)),
oP 57 (.indexAddr none 1 (.t 53) (.t 56)),
oP 58 (.load none (.t 57)),
oM 59 0,
oM 60 9,
oP 61 (.indexAddr none 1 (.t 59) (.t 60)),
oP 62 (.load none (.t 61)),
oP 63 (.indexAddr none 1 (.t 47) (.t 48)),
⟨none, .storeF 1 (.t 63) (.t 58) [],none⟩,
oP 64 (.indexAddr none 1 (.t 49) (.t 52)),
⟨none, .store 1 (.t 64) (.t 62),none⟩])
def eX.r6:ACode:=(.region none [oM 34 9,
oP 35 (.bin .add (.t 34) (.c (.int .i64 1))),
oM 9 35])
def eX.l0:ACode:=(.seq (.seq eX.r5 (.cond (.t 33) .skip (.exit 0))) (.seq (.block 1 (.seq eX.r7 (.seq (.seq eX.r8 (.cond (.t 43) eX.r9 .skip)) eX.r10))) eX.r6))
def eX:AFunc:=⟨[],(.seq eX.r0 (.seq eX.r1 (.cond (.t 15) (.seq eX.r2 (.seq eX.r3 (.seq eX.r4 (.block 0 (.loop eX.l0))))) .skip)))⟩
def dH.r0:ACode:=(.region none [oP 6 (.move (.c (.int .i64 0))),
oP 7 (.move (.c (.int .i64 0)))])
def dH.r1:ACode:=(.region none [oM 13 2,
oM 14 1,
oP 15 (.bin .sub (.t 13) (.t 14)),
oM 8 15])
def dH.r2:ACode:=(.region none [oP 9 (.alloc [.int .i64 0])])
def dH.r3:ACode:=(.region none [oM 16 1,
oM 17 8,
oP 18 (.bin .quo (.t 17) (.c (.int .i64 4))),
oP 19 (.bin .mul (.t 18) (.c (.int .i64 1))),
oP 20 (.bin .add (.t 16) (.t 19)),
oM 10 20])
def dH.r4:ACode:=(.region none [oM 21 1,
oM 22 8,
oP 23 (.bin .quo (.t 22) (.c (.int .i64 4))),
oP 24 (.bin .mul (.t 23) (.c (.int .i64 2))),
oP 25 (.bin .add (.t 21) (.t 24)),
oM 11 25])
def dH.r5:ACode:=(.region none [oM 26 1,
oM 27 8,
oP 28 (.bin .quo (.t 27) (.c (.int .i64 4))),
oP 29 (.bin .mul (.t 28) (.c (.int .i64 3))),
oP 30 (.bin .add (.t 26) (.t 29)),
oM 12 30])
def dH.r6:ACode:=(.region none [oM 31 8,
oP 32 (.bin .geq (.t 31) (.c (.int .i64 8)))])
def dH.r7:ACode:=(.region none [oM 33 8,
oP 34 (.bin .geq (.t 33) (.c (.int .i64 50)))])
def dH.r8:ACode:=(.region none [oM 35 0,
oM 36 10,
oP 37 (.call 242 [.t 35, .t 36, .t 9]),
oM 10 37])
def dH.r9:ACode:=(.region none [oM 38 0,
oM 39 11,
oP 40 (.call 242 [.t 38, .t 39, .t 9]),
oM 11 40])
def dH.r10:ACode:=(.region none [oM 41 0,
oM 42 12,
oP 43 (.call 242 [.t 41, .t 42, .t 9]),
oM 12 43])
def dH.r11:ACode:=(.region none [oM 44 0,
oM 45 10,
oM 46 11,
oM 47 12,
oP 48 (.call 243 [.t 44, .t 45, .t 46, .t 47, .t 9]),
oM 11 48])
def dH.r12:ACode:=(.region none [oP 49 (.load none (.t 9))])
def dH.iE:ACode:=(.region none [oP 52 (.bin .eql (.t 49) (.c (.int .i64 0))),
oM 51 52])
def dH.jL:ACode:=(.region none [oM 53 11,
oM 6 53,
oP 7 (.move (.c (.int .i64 1)))])
def dH.r16:ACode:=(.region none [oP 55 (.bin .eql (.t 49) (.c (.int .i64 12))),
oM 54 55])
def dH.lF:ACode:=(.region none [oM 56 11,
oM 6 56,
oP 7 (.move (.c (.int .i64 2)))])
def dH.r13:ACode:=(.region none [oM 50 11,
oM 6 50,
oP 7 (.move (.c (.int .i64 0)))])
def dH:AFunc:=⟨[.tmp 6, .tmp 7],(.seq dH.r0 (.seq dH.r1 (.seq dH.r2 (.seq dH.r3 (.seq dH.r4 (.seq dH.r5 (.seq (.seq dH.r6 (.cond (.t 32) (.seq (.seq dH.r7 (.cond (.t 34) (.seq dH.r8 (.seq dH.r9 dH.r10)) .skip)) dH.r11) .skip)) (.seq dH.r12 (.block 0 (.seq dH.iE (.cond (.t 51) (.seq dH.jL .ret) (.seq dH.r16 (.cond (.t 54) (.seq dH.lF .ret) (.seq dH.r13 .ret))))))))))))))⟩
def jA.r0:ACode:=(.region none [oM 8 1,
oM 6 8])
def jA.r1:ACode:=(.region none [oM 9 2,
oP 10 (.bin .sub (.t 9) (.c (.int .i64 1))),
oM 7 10])
def jA.r2:ACode:=(.region none [oM 11 6,
oM 12 7,
oP 13 (.bin .lss (.t 11) (.t 12))])
def jA.r3:ACode:=(.region (some 13) [oM 14 0,
oM 15 6,
oM 16 0,
oM 17 7,
oM 18 0,
oM 19 7,
oP 20 (.indexAddr none 1 (.t 18) (.t 19)),
oP 21 (.load none (.t 20)),
oM 22 0,
oM 23 6,
oP 24 (.indexAddr none 1 (.t 22) (.t 23)),
oP 25 (.load none (.t 24)),
oP 26 (.indexAddr none 1 (.t 14) (.t 15)),
⟨none, .storeF 1 (.t 26) (.t 21) [],none⟩,
oP 27 (.indexAddr none 1 (.t 16) (.t 17)),
⟨none, .store 1 (.t 27) (.t 25),none⟩])
def jA.r4:ACode:=(.region none [oM 28 6,
oP 29 (.bin .add (.t 28) (.c (.int .i64 1))),
oM 6 29])
def jA.r5:ACode:=(.region none [oM 30 7,
oP 31 (.bin .sub (.t 30) (.c (.int .i64 1))),
oM 7 31])
def jA.l0:ACode:=(.seq (.seq jA.r2 (.cond (.t 13) .skip (.exit 0))) (.block 1 (.seq jA.r3 (.seq jA.r4 jA.r5))))
def jA:AFunc:=⟨[],(.seq jA.r0 (.seq jA.r1 (.block 0 (.loop jA.l0))))⟩
def aZ.r0:ACode:=(.region none [oP 6 (.move (.c (.bool false)))])
def aZ.r1:ACode:=(.region none [oM 11 1,
oP 12 (.bin .add (.t 11) (.c (.int .i64 1))),
oM 7 12])
def aZ.r2:ACode:=(.region none [oP 8 (.move (.c (.int .i64 0)))])
def aZ.r3:ACode:=(.region none [oM 13 8,
oP 14 (.bin .lss (.t 13) (.c (.int .i64 5)))])
def aZ.r5:ACode:=(.region (some 16) [oM 17 7,
oM 18 2,
oP 19 (.bin .lss (.t 17) (.t 18)),
oM 20 19,
⟨some 21, .move (.t 0),some (20,true)⟩,
⟨some 22, .move (.t 7),some (20,true)⟩,
⟨some 23, .indexAddr none 1 (.t 21) (.t 22),some (20,true)⟩,
⟨some 24, .load none (.t 23),some (20,true)⟩,
⟨some 25, .move (.t 0),some (20,true)⟩,
⟨some 26, .move (.t 7),some (20,true)⟩,
⟨some 27, .bin .sub (.t 26) (.c (.int .i64 1)),some (20,true)⟩,
⟨some 28, .indexAddr none 1 (.t 25) (.t 27),some (20,true)⟩,
⟨some 29, .load none (.t 28),some (20,true)⟩,
⟨some 30, .call 235 [.t 24, .t 29],some (20,true)⟩,
⟨some 31, .not (.t 30),some (20,true)⟩,
oP 32 (.pick (.t 20) (.t 31) (.c (.bool false)))])
def aZ.r6:ACode:=(.region none [oM 33 7,
oP 34 (.bin .add (.t 33) (.c (.int .i64 1))),
oM 7 34])
def aZ.l0:ACode:=(.seq (.seq aZ.r5 (.cond (.t 32) .skip (.exit 2))) (.block 3 aZ.r6))
def aZ.r7:ACode:=(.region none [oM 35 7,
oM 36 2,
oP 37 (.bin .eql (.t 35) (.t 36))])
def aZ.r8:ACode:=(.region none [oP 6 (.move (.c (.bool true)))])
def aZ.r9:ACode:=(.region none [oM 38 2,
oM 39 1,
oP 40 (.bin .sub (.t 38) (.t 39)),
oP 41 (.bin .lss (.t 40) (.c (.int .i64 50)))])
def aZ.r10:ACode:=(.region none [oP 6 (.move (.c (.bool false)))])
def aZ.r11:ACode:=(.region (some 15) [oM 42 0,
oM 43 7,
oM 44 0,
oM 45 7,
oP 46 (.bin .sub (.t 45) (.c (.int .i64 1))),
oM 47 0,
oM 48 7,
oP 49 (.bin .sub (.t 48) (.c (.int .i64 1))),
oP 50 (.indexAddr none 1 (.t 47) (.t 49)),
oP 51 (.load none (.t 50)),
oM 52 0,
oM 53 7,
oP 54 (.indexAddr none 1 (.t 52) (.t 53)),
oP 55 (.load none (.t 54)),
oP 56 (.indexAddr none 1 (.t 42) (.t 43)),
⟨none, .storeF 1 (.t 56) (.t 51) [],none⟩,
oP 57 (.indexAddr none 1 (.t 44) (.t 46)),
⟨none, .store 1 (.t 57) (.t 55),none⟩])
def aZ.r12:ACode:=(.region none [oM 58 7,
oM 59 1,
oP 60 (.bin .sub (.t 58) (.t 59)),
oP 61 (.bin .geq (.t 60) (.c (.int .i64 2)))])
def aZ.r13:ACode:=(.region none [oM 62 7,
oP 63 (.bin .sub (.t 62) (.c (.int .i64 1))),
oM 9 63])
def aZ.iE:ACode:=(.region none [oM 64 9,
oP 65 (.bin .geq (.t 64) (.c (.int .i64 1)))])
def aZ.r16:ACode:=(.region (some 11) [oM 68 0,
oM 69 9,
oP 70 (.indexAddr none 1 (.t 68) (.t 69)),
oP 71 (.load none (.t 70)),
oM 72 0,
oM 73 9,
oP 74 (.bin .sub (.t 73) (.c (.int .i64 1))),
oP 75 (.indexAddr none 1 (.t 72) (.t 74)),
oP 76 (.load none (.t 75)),
oP 77 (.call 235 [.t 71, .t 76]),
oP 78 (.not (.t 77))])
def aZ.lF:ACode:=(.region (some 15) [oM 79 0,
oM 80 9,
oM 81 0,
oM 82 9,
oP 83 (.bin .sub (.t 82) (.c (.int .i64 1))),
oM 84 0,
oM 85 9,
oP 86 (.bin .sub (.t 85) (.c (.int .i64 1))),
oP 87 (.indexAddr none 1 (.t 84) (.t 86)),
oP 88 (.load none (.t 87)),
oM 89 0,
oM 90 9,
oP 91 (.indexAddr none 1 (.t 89) (.t 90)),
oP 92 (.load none (.t 91)),
oP 93 (.indexAddr none 1 (.t 79) (.t 80)),
⟨none, .storeF 1 (.t 93) (.t 88) [],none⟩,
oP 94 (.indexAddr none 1 (.t 81) (.t 83)),
⟨none, .store 1 (.t 94) (.t 92),none⟩])
def aZ.jL:ACode:=(.region none [oM 66 9,
oP 67 (.bin .sub (.t 66) (.c (.int .i64 1))),
oM 9 67])
def aZ.l1:ACode:=(.seq (.seq aZ.iE (.cond (.t 65) .skip (.exit 4))) (.seq (.block 5 (.seq (.seq aZ.r16 (.cond (.t 78) (.exit 4) .skip)) aZ.lF)) aZ.jL))
def aZ.oQ:ACode:=(.region none [oM 95 2,
oM 96 7,
oP 97 (.bin .sub (.t 95) (.t 96)),
oP 98 (.bin .geq (.t 97) (.c (.int .i64 2)))])
def aZ.oU:ACode:=(.region none [oM 99 7,
oP 100 (.bin .add (.t 99) (.c (.int .i64 1))),
oM 10 100])
def aZ.qR:ACode:=(.region none [oM 101 10,
oM 102 2,
oP 103 (.bin .lss (.t 101) (.t 102))])
def aZ.r22:ACode:=(.region (some 11) [oM 106 0,
oM 107 10,
oP 108 (.indexAddr none 1 (.t 106) (.t 107)),
oP 109 (.load none (.t 108)),
oM 110 0,
oM 111 10,
oP 112 (.bin .sub (.t 111) (.c (.int .i64 1))),
oP 113 (.indexAddr none 1 (.t 110) (.t 112)),
oP 114 (.load none (.t 113)),
oP 115 (.call 235 [.t 109, .t 114]),
oP 116 (.not (.t 115))])
def aZ.wJ:ACode:=(.region (some 15) [oM 117 0,
oM 118 10,
oM 119 0,
oM 120 10,
oP 121 (.bin .sub (.t 120) (.c (.int .i64 1))),
oM 122 0,
oM 123 10,
oP 124 (.bin .sub (.t 123) (.c (.int .i64 1))),
oP 125 (.indexAddr none 1 (.t 122) (.t 124)),
oP 126 (.load none (.t 125)),
oM 127 0,
oM 128 10,
oP 129 (.indexAddr none 1 (.t 127) (.t 128)),
oP 130 (.load none (.t 129)),
oP 131 (.indexAddr none 1 (.t 117) (.t 118)),
⟨none, .storeF 1 (.t 131) (.t 126) [],none⟩,
oP 132 (.indexAddr none 1 (.t 119) (.t 121)),
⟨none, .store 1 (.t 132) (.t 130),none⟩])
def aZ.qU:ACode:=(.region none [oM 104 10,
oP 105 (.bin .add (.t 104) (.c (.int .i64 1))),
oM 10 105])
def aZ.l2:ACode:=(.seq (.seq aZ.qR (.cond (.t 103) .skip (.exit 6))) (.seq (.block 7 (.seq (.seq aZ.r22 (.cond (.t 116) (.exit 6) .skip)) aZ.wJ)) aZ.qU))
def aZ.r4:ACode:=(.region none [oM 15 8,
oP 16 (.bin .add (.t 15) (.c (.int .i64 1))),
oM 8 16])
def aZ.l3:ACode:=(.seq (.seq aZ.r3 (.cond (.t 14) .skip (.exit 0))) (.seq (.block 1 (.seq (.block 2 (.loop aZ.l0)) (.seq (.seq aZ.r7 (.cond (.t 37) (.seq aZ.r8 .ret) .skip)) (.seq (.seq aZ.r9 (.cond (.t 41) (.seq aZ.r10 .ret) .skip)) (.seq aZ.r11 (.seq (.seq aZ.r12 (.cond (.t 61) (.seq aZ.r13 (.block 4 (.loop aZ.l1))) .skip)) (.seq aZ.oQ (.cond (.t 98) (.seq aZ.oU (.block 6 (.loop aZ.l2))) .skip)))))))) aZ.r4))
def aZ.wK:ACode:=(.region none [oP 6 (.move (.c (.bool false)))])
def aZ:AFunc:=⟨[.tmp 6],(.seq aZ.r0 (.seq aZ.r1 (.seq (.seq aZ.r2 (.block 0 (.loop aZ.l3))) (.seq aZ.wK .ret))))⟩
def qx.r0:ACode:=(.region none [oP 4 (.move (.c (.bool false)))])
def qx.r1:ACode:=(.region none [oM 5 0,
oP 6 (.call 247 [.t 5]),
oM 7 6,
⟨some 8, .move (.t 1),some (7,true)⟩,
⟨some 9, .call 247 [.t 8],some (7,true)⟩,
⟨some 10, .not (.t 9),some (7,true)⟩,
oP 11 (.pick (.t 7) (.t 10) (.c (.bool false))),
oM 12 11,
⟨some 13, .move (.t 0),some (12,false)⟩,
⟨some 14, .move (.t 1),some (12,false)⟩,
⟨some 15, .bin .lss (.t 13) (.t 14),some (12,false)⟩,
oP 16 (.pick (.t 12) (.c (.bool true)) (.t 15)),
oM 4 16])
def qx:AFunc:=⟨[.tmp 4],(.seq qx.r0 (.seq qx.r1 .ret))⟩
def dN.r0:ACode:=(.region none [oP 8 (.move (.c (.int .i64 0)))])
def dN.r1:ACode:=(.region (some 13) [oM 11 0,
oM 12 1,
oM 13 0,
oM 14 3,
oM 15 0,
oM 16 3,
oP 17 (.indexAddr none 1 (.t 15) (.t 16)),
oP 18 (.load none (.t 17)),
oM 19 0,
oM 20 1,
oP 21 (.indexAddr none 1 (.t 19) (.t 20)),
oP 22 (.load none (.t 21)),
oP 23 (.indexAddr none 1 (.t 11) (.t 12)),
⟨none, .storeF 1 (.t 23) (.t 18) [],none⟩,
oP 24 (.indexAddr none 1 (.t 13) (.t 14)),
⟨none, .store 1 (.t 24) (.t 22),none⟩])
def dN.r2:ACode:=(.region none [oM 25 1,
oP 26 (.bin .add (.t 25) (.c (.int .i64 1))),
oM 27 2,
oP 28 (.bin .sub (.t 27) (.c (.int .i64 1))),
oM 9 26,
oM 10 28])
def dN.r3:ACode:=(.region (some 15) [oM 29 9,
oM 30 10,
oP 31 (.bin .leq (.t 29) (.t 30)),
oM 32 31,
⟨some 33, .move (.t 0),some (32,true)⟩,
⟨some 34, .move (.t 1),some (32,true)⟩,
⟨some 35, .indexAddr none 1 (.t 33) (.t 34),some (32,true)⟩,
⟨some 36, .load none (.t 35),some (32,true)⟩,
⟨some 37, .move (.t 0),some (32,true)⟩,
⟨some 38, .move (.t 9),some (32,true)⟩,
⟨some 39, .indexAddr none 1 (.t 37) (.t 38),some (32,true)⟩,
⟨some 40, .load none (.t 39),some (32,true)⟩,
⟨some 41, .call 235 [.t 36, .t 40],some (32,true)⟩,
⟨some 42, .not (.t 41),some (32,true)⟩,
oP 43 (.pick (.t 32) (.t 42) (.c (.bool false)))])
def dN.r4:ACode:=(.region none [oM 44 9,
oP 45 (.bin .add (.t 44) (.c (.int .i64 1))),
oM 9 45])
def dN.l0:ACode:=(.seq (.seq dN.r3 (.cond (.t 43) .skip (.exit 2))) (.block 3 dN.r4))
def dN.r5:ACode:=(.region (some 14) [oM 46 9,
oM 47 10,
oP 48 (.bin .leq (.t 46) (.t 47)),
oM 49 48,
⟨some 50, .move (.t 0),some (49,true)⟩,
⟨some 51, .move (.t 1),some (49,true)⟩,
⟨some 52, .indexAddr none 1 (.t 50) (.t 51),some (49,true)⟩,
⟨some 53, .load none (.t 52),some (49,true)⟩,
⟨some 54, .move (.t 0),some (49,true)⟩,
⟨some 55, .move (.t 10),some (49,true)⟩,
⟨some 56, .indexAddr none 1 (.t 54) (.t 55),some (49,true)⟩,
⟨some 57, .load none (.t 56),some (49,true)⟩,
⟨some 58, .call 235 [.t 53, .t 57],some (49,true)⟩,
oP 59 (.pick (.t 49) (.t 58) (.c (.bool false)))])
def dN.r6:ACode:=(.region none [oM 60 10,
oP 61 (.bin .sub (.t 60) (.c (.int .i64 1))),
oM 10 61])
def dN.l1:ACode:=(.seq (.seq dN.r5 (.cond (.t 59) .skip (.exit 4))) (.block 5 dN.r6))
def dN.r7:ACode:=(.region none [oM 62 9,
oM 63 10,
oP 64 (.bin .gtr (.t 62) (.t 63))])
def dN.r8:ACode:=(.region (some 13) [oM 65 0,
oM 66 9,
oM 67 0,
oM 68 10,
oM 69 0,
oM 70 10,
oP 71 (.indexAddr none 1 (.t 69) (.t 70)),
oP 72 (.load none (.t 71)),
oM 73 0,
oM 74 9,
oP 75 (.indexAddr none 1 (.t 73) (.t 74)),
oP 76 (.load none (.t 75)),
oP 77 (.indexAddr none 1 (.t 65) (.t 66)),
⟨none, .storeF 1 (.t 77) (.t 72) [],none⟩,
oP 78 (.indexAddr none 1 (.t 67) (.t 68)),
⟨none, .store 1 (.t 78) (.t 76),none⟩])
def dN.r9:ACode:=(.region none [oM 79 9,
oP 80 (.bin .add (.t 79) (.c (.int .i64 1))),
oM 9 80])
def dN.r10:ACode:=(.region none [oM 81 10,
oP 82 (.bin .sub (.t 81) (.c (.int .i64 1))),
oM 10 82])
def dN.l2:ACode:=(.block 1 (.seq (.block 2 (.loop dN.l0)) (.seq (.block 4 (.loop dN.l1)) (.seq (.seq dN.r7 (.cond (.t 64) (.exit 0) .skip)) (.seq dN.r8 (.seq dN.r9 dN.r10))))))
def dN.r11:ACode:=(.region none [oM 83 9,
oM 8 83])
def dN:AFunc:=⟨[.tmp 8],(.seq dN.r0 (.seq dN.r1 (.seq dN.r2 (.seq (.block 0 (.loop dN.l2)) (.seq dN.r11 .ret)))))⟩
def aY.r0:ACode:=(.region none [oP 8 (.move (.c (.int .i64 0))),
oP 9 (.move (.c (.bool false)))])
def aY.r1:ACode:=(.region (some 13) [oM 12 0,
oM 13 1,
oM 14 0,
oM 15 3,
oM 16 0,
oM 17 3,
oP 18 (.indexAddr none 1 (.t 16) (.t 17)),
oP 19 (.load none (.t 18)),
oM 20 0,
oM 21 1,
oP 22 (.indexAddr none 1 (.t 20) (.t 21)),
oP 23 (.load none (.t 22)),
oP 24 (.indexAddr none 1 (.t 12) (.t 13)),
⟨none, .storeF 1 (.t 24) (.t 19) [],none⟩,
oP 25 (.indexAddr none 1 (.t 14) (.t 15)),
⟨none, .store 1 (.t 25) (.t 23),none⟩])
def aY.r2:ACode:=(.region none [oM 26 1,
oP 27 (.bin .add (.t 26) (.c (.int .i64 1))),
oM 28 2,
oP 29 (.bin .sub (.t 28) (.c (.int .i64 1))),
oM 10 27,
oM 11 29])
def aY.r3:ACode:=(.region (some 14) [oM 30 10,
oM 31 11,
oP 32 (.bin .leq (.t 30) (.t 31)),
oM 33 32,
⟨some 34, .move (.t 0),some (33,true)⟩,
⟨some 35, .move (.t 10),some (33,true)⟩,
⟨some 36, .indexAddr none 1 (.t 34) (.t 35),some (33,true)⟩,
⟨some 37, .load none (.t 36),some (33,true)⟩,
⟨some 38, .move (.t 0),some (33,true)⟩,
⟨some 39, .move (.t 1),some (33,true)⟩,
⟨some 40, .indexAddr none 1 (.t 38) (.t 39),some (33,true)⟩,
⟨some 41, .load none (.t 40),some (33,true)⟩,
⟨some 42, .call 235 [.t 37, .t 41],some (33,true)⟩,
oP 43 (.pick (.t 33) (.t 42) (.c (.bool false)))])
def aY.r4:ACode:=(.region none [oM 44 10,
oP 45 (.bin .add (.t 44) (.c (.int .i64 1))),
oM 10 45])
def aY.l0:ACode:=(.seq (.seq aY.r3 (.cond (.t 43) .skip (.exit 0))) (.block 1 aY.r4))
def aY.r5:ACode:=(.region (some 15) [oM 46 10,
oM 47 11,
oP 48 (.bin .leq (.t 46) (.t 47)),
oM 49 48,
⟨some 50, .move (.t 0),some (49,true)⟩,
⟨some 51, .move (.t 11),some (49,true)⟩,
⟨some 52, .indexAddr none 1 (.t 50) (.t 51),some (49,true)⟩,
⟨some 53, .load none (.t 52),some (49,true)⟩,
⟨some 54, .move (.t 0),some (49,true)⟩,
⟨some 55, .move (.t 1),some (49,true)⟩,
⟨some 56, .indexAddr none 1 (.t 54) (.t 55),some (49,true)⟩,
⟨some 57, .load none (.t 56),some (49,true)⟩,
⟨some 58, .call 235 [.t 53, .t 57],some (49,true)⟩,
⟨some 59, .not (.t 58),some (49,true)⟩,
oP 60 (.pick (.t 49) (.t 59) (.c (.bool false)))])
def aY.r6:ACode:=(.region none [oM 61 11,
oP 62 (.bin .sub (.t 61) (.c (.int .i64 1))),
oM 11 62])
def aY.l1:ACode:=(.seq (.seq aY.r5 (.cond (.t 60) .skip (.exit 2))) (.block 3 aY.r6))
def aY.r7:ACode:=(.region none [oM 63 10,
oM 64 11,
oP 65 (.bin .gtr (.t 63) (.t 64))])
def aY.r8:ACode:=(.region (some 13) [oM 66 0,
oM 67 11,
oM 68 0,
oM 69 1,
oM 70 0,
oM 71 1,
oP 72 (.indexAddr none 1 (.t 70) (.t 71)),
oP 73 (.load none (.t 72)),
oM 74 0,
oM 75 11,
oP 76 (.indexAddr none 1 (.t 74) (.t 75)),
oP 77 (.load none (.t 76)),
oP 78 (.indexAddr none 1 (.t 66) (.t 67)),
⟨none, .storeF 1 (.t 78) (.t 73) [],none⟩,
oP 79 (.indexAddr none 1 (.t 68) (.t 69)),
⟨none, .store 1 (.t 79) (.t 77),none⟩])
def aY.r9:ACode:=(.region none [oM 80 11,
oM 8 80,
oP 9 (.move (.c (.bool true)))])
def aY.r10:ACode:=(.region (some 13) [oM 81 0,
oM 82 10,
oM 83 0,
oM 84 11,
oM 85 0,
oM 86 11,
oP 87 (.indexAddr none 1 (.t 85) (.t 86)),
oP 88 (.load none (.t 87)),
oM 89 0,
oM 90 10,
oP 91 (.indexAddr none 1 (.t 89) (.t 90)),
oP 92 (.load none (.t 91)),
oP 93 (.indexAddr none 1 (.t 81) (.t 82)),
⟨none, .storeF 1 (.t 93) (.t 88) [],none⟩,
oP 94 (.indexAddr none 1 (.t 83) (.t 84)),
⟨none, .store 1 (.t 94) (.t 92),none⟩])
def aY.r11:ACode:=(.region none [oM 95 10,
oP 96 (.bin .add (.t 95) (.c (.int .i64 1))),
oM 10 96])
def aY.r12:ACode:=(.region none [oM 97 11,
oP 98 (.bin .sub (.t 97) (.c (.int .i64 1))),
oM 11 98])
def aY.r13:ACode:=(.region (some 14) [oM 99 10,
oM 100 11,
oP 101 (.bin .leq (.t 99) (.t 100)),
oM 102 101,
⟨some 103, .move (.t 0),some (102,true)⟩,
⟨some 104, .move (.t 10),some (102,true)⟩,
⟨some 105, .indexAddr none 1 (.t 103) (.t 104),some (102,true)⟩,
⟨some 106, .load none (.t 105),some (102,true)⟩,
⟨some 107, .move (.t 0),some (102,true)⟩,
⟨some 108, .move (.t 1),some (102,true)⟩,
⟨some 109, .indexAddr none 1 (.t 107) (.t 108),some (102,true)⟩,
⟨some 110, .load none (.t 109),some (102,true)⟩,
⟨some 111, .call 235 [.t 106, .t 110],some (102,true)⟩,
oP 112 (.pick (.t 102) (.t 111) (.c (.bool false)))])
def aY.iE:ACode:=(.region none [oM 113 10,
oP 114 (.bin .add (.t 113) (.c (.int .i64 1))),
oM 10 114])
def aY.l2:ACode:=(.seq (.seq aY.r13 (.cond (.t 112) .skip (.exit 6))) (.block 7 aY.iE))
def aY.jL:ACode:=(.region (some 15) [oM 115 10,
oM 116 11,
oP 117 (.bin .leq (.t 115) (.t 116)),
oM 118 117,
⟨some 119, .move (.t 0),some (118,true)⟩,
⟨some 120, .move (.t 11),some (118,true)⟩,
⟨some 121, .indexAddr none 1 (.t 119) (.t 120),some (118,true)⟩,
⟨some 122, .load none (.t 121),some (118,true)⟩,
⟨some 123, .move (.t 0),some (118,true)⟩,
⟨some 124, .move (.t 1),some (118,true)⟩,
⟨some 125, .indexAddr none 1 (.t 123) (.t 124),some (118,true)⟩,
⟨some 126, .load none (.t 125),some (118,true)⟩,
⟨some 127, .call 235 [.t 122, .t 126],some (118,true)⟩,
⟨some 128, .not (.t 127),some (118,true)⟩,
oP 129 (.pick (.t 118) (.t 128) (.c (.bool false)))])
def aY.r16:ACode:=(.region none [oM 130 11,
oP 131 (.bin .sub (.t 130) (.c (.int .i64 1))),
oM 11 131])
def aY.l3:ACode:=(.seq (.seq aY.jL (.cond (.t 129) .skip (.exit 8))) (.block 9 aY.r16))
def aY.lF:ACode:=(.region none [oM 132 10,
oM 133 11,
oP 134 (.bin .gtr (.t 132) (.t 133))])
def aY.oQ:ACode:=(.region (some 13) [oM 135 0,
oM 136 10,
oM 137 0,
oM 138 11,
oM 139 0,
oM 140 11,
oP 141 (.indexAddr none 1 (.t 139) (.t 140)),
oP 142 (.load none (.t 141)),
oM 143 0,
oM 144 10,
oP 145 (.indexAddr none 1 (.t 143) (.t 144)),
oP 146 (.load none (.t 145)),
oP 147 (.indexAddr none 1 (.t 135) (.t 136)),
⟨none, .storeF 1 (.t 147) (.t 142) [],none⟩,
oP 148 (.indexAddr none 1 (.t 137) (.t 138)),
⟨none, .store 1 (.t 148) (.t 146),none⟩])
def aY.oU:ACode:=(.region none [oM 149 10,
oP 150 (.bin .add (.t 149) (.c (.int .i64 1))),
oM 10 150])
def aY.qR:ACode:=(.region none [oM 151 11,
oP 152 (.bin .sub (.t 151) (.c (.int .i64 1))),
oM 11 152])
def aY.l4:ACode:=(.block 5 (.seq (.block 6 (.loop aY.l2)) (.seq (.block 8 (.loop aY.l3)) (.seq (.seq aY.lF (.cond (.t 134) (.exit 4) .skip)) (.seq aY.oQ (.seq aY.oU aY.qR))))))
def aY.qU:ACode:=(.region (some 13) [oM 153 0,
oM 154 11,
oM 155 0,
oM 156 1,
oM 157 0,
oM 158 1,
oP 159 (.indexAddr none 1 (.t 157) (.t 158)),
oP 160 (.load none (.t 159)),
oM 161 0,
oM 162 11,
oP 163 (.indexAddr none 1 (.t 161) (.t 162)),
oP 164 (.load none (.t 163)),
oP 165 (.indexAddr none 1 (.t 153) (.t 154)),
⟨none, .storeF 1 (.t 165) (.t 160) [],none⟩,
oP 166 (.indexAddr none 1 (.t 155) (.t 156)),
⟨none, .store 1 (.t 166) (.t 164),none⟩])
def aY.r22:ACode:=(.region none [oM 167 11,
oM 8 167,
oP 9 (.move (.c (.bool false)))])
def aY:AFunc:=⟨[.tmp 8, .tmp 9],(.seq aY.r0 (.seq aY.r1 (.seq aY.r2 (.seq (.block 0 (.loop aY.l0)) (.seq (.block 2 (.loop aY.l1)) (.seq (.seq aY.r7 (.cond (.t 65) (.seq aY.r8 (.seq aY.r9 .ret)) .skip)) (.seq aY.r10 (.seq aY.r11 (.seq aY.r12 (.seq (.block 4 (.loop aY.l4)) (.seq aY.qU (.seq aY.r22 .ret))))))))))))⟩
def kX.r0:ACode:=(.region none [oP 10 (.move (.c (.int .i64 0)))])
def kX.r1:ACode:=(.region none [oM 12 0,
oM 13 1,
oM 14 2,
oM 15 4,
oP 16 (.call 246 [.t 12, .t 13, .t 14, .t 15]),
oM 11 16,
oP 17 (.extract (.t 11) 0),
oP 18 (.extract (.t 11) 1),
oM 1 17,
oM 2 18])
def kX.r2:ACode:=(.region none [oM 20 0,
oM 21 2,
oM 22 3,
oM 23 4,
oP 24 (.call 246 [.t 20, .t 21, .t 22, .t 23]),
oM 19 24,
oP 25 (.extract (.t 19) 0),
oP 26 (.extract (.t 19) 1),
oM 2 25,
oM 3 26])
def kX.r3:ACode:=(.region none [oM 28 0,
oM 29 1,
oM 30 2,
oM 31 4,
oP 32 (.call 246 [.t 28, .t 29, .t 30, .t 31]),
oM 27 32,
oP 33 (.extract (.t 27) 0),
oP 34 (.extract (.t 27) 1),
oM 1 33,
oM 2 34])
def kX.r4:ACode:=(.region none [oM 35 2,
oM 10 35])
def kX:AFunc:=⟨[.tmp 10],(.seq kX.r0 (.seq kX.r1 (.seq kX.r2 (.seq kX.r3 (.seq kX.r4 .ret)))))⟩
def kY.r0:ACode:=(.region none [oP 8 (.move (.c (.int .i64 0))),
oP 9 (.move (.c (.int .i64 0)))])
def kY.r1:ACode:=(.region (some 9) [oM 10 0,
oM 11 2,
oP 12 (.indexAddr none 1 (.t 10) (.t 11)),
oP 13 (.load none (.t 12)),
oM 14 0,
oM 15 1,
oP 16 (.indexAddr none 1 (.t 14) (.t 15)),
oP 17 (.load none (.t 16)),
oP 18 (.call 235 [.t 13, .t 17])])
def kY.r2:ACode:=(.region none [oM 19 3,
oP 20 (.nilCheck (.t 19)),
oP 21 (.load none (.t 20)),
oP 22 (.bin .add (.t 21) (.c (.int .i64 1))),
oP 23 (.nilCheck (.t 19)),
⟨none, .store 1 (.t 23) (.t 22),none⟩])
def kY.r3:ACode:=(.region none [oM 24 2,
oM 25 1,
oM 8 24,
oM 9 25])
def kY.r4:ACode:=(.region none [oM 26 1,
oM 27 2,
oM 8 26,
oM 9 27])
def kY:AFunc:=⟨[.tmp 8, .tmp 9],(.seq kY.r0 (.seq (.seq kY.r1 (.cond (.t 18) (.seq kY.r2 (.seq kY.r3 .ret)) .skip)) (.seq kY.r4 .ret)))⟩
end Go.Am
