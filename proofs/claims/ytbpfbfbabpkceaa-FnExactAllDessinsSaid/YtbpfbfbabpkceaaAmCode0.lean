/- The code of the functions that the claim reaches, in the small machine's form: written by a program of mine, off the loaded program; the checks compare the two. -/
import Derived.Test.YtbpfbfbabpkceaaAmCore
set_option linter.unusedVariables false
set_option maxRecDepth 100000
namespace Go.Am
open Go
def aX.r0:ACode:=(.region none [oP 2 (.move (.c (.bool false)))])
def aX.r1:ACode:=(.region none [oM 12 0,
oP 13 (.call 405 [.t 12]),
oM 11 13,
oP 14 (.extract (.t 11) 0),
oP 15 (.extract (.t 11) 1),
oM 3 14,
oM 4 15])
def aX.r2:ACode:=(.region none [oM 17 0,
oP 18 (.call 406 [.t 17]),
oM 16 18,
oP 19 (.extract (.t 16) 0),
oP 20 (.extract (.t 16) 1),
oM 5 19,
oM 6 20])
def aX.r3:ACode:=(.region none [oM 21 5,
oM 22 3,
oP 23 (.call 407 [.t 21, .t 22]),
oP 24 (.not (.t 23)),
oM 25 24,
⟨some 26, .move (.t 6),some (25,false)⟩,
⟨some 27, .move (.t 4),some (25,false)⟩,
⟨some 28, .bin .neq (.t 26) (.t 27),some (25,false)⟩,
oP 29 (.pick (.t 25) (.c (.bool true)) (.t 28))])
def aX.r4:ACode:=(.region none [oP 2 (.move (.c (.bool false)))])
def aX.r5:ACode:=(.region none [oP 7 (.move (.c (.int .i64 1)))])
def aX.r6:ACode:=(.region none [oM 30 5,
oM 31 7,
oP 32 (.call 408 [.t 30, .t 31]),
oM 7 32])
def aX.r7:ACode:=(.region none [oP 8 (.move (.c (.int .i64 1)))])
def aX.r8:ACode:=(.region none [oM 33 5,
oM 34 8,
oP 35 (.call 409 [.t 33, .t 34]),
oM 8 35])
def aX.r9:ACode:=(.region none [oM 36 8,
oP 37 (.bin .lss (.t 36) (.c (.int .i64 0)))])
def aX.r10:ACode:=(.region none [oP 2 (.move (.c (.bool false)))])
def aX.r11:ACode:=(.region none [oM 38 8,
oM 39 7,
oP 40 (.bin .neq (.t 38) (.t 39))])
def aX.r12:ACode:=(.region none [oP 2 (.move (.c (.bool false)))])
def aX.r13:ACode:=(.region none [oM 42 0,
oP 43 (.call 406 [.t 42]),
oM 41 43,
oP 44 (.extract (.t 41) 0),
oP 45 (.extract (.t 41) 1),
oM 9 44,
oM 10 45])
def aX.iL:ACode:=(.region none [oM 46 9,
oM 47 3,
oP 48 (.call 407 [.t 46, .t 47]),
oP 49 (.not (.t 48)),
oM 50 49,
⟨some 51, .move (.t 10),some (50,false)⟩,
⟨some 52, .move (.t 4),some (50,false)⟩,
⟨some 53, .bin .neq (.t 51) (.t 52),some (50,false)⟩,
oP 54 (.pick (.t 50) (.c (.bool true)) (.t 53))])
def aX.kG:ACode:=(.region none [oP 2 (.move (.c (.bool false)))])
def aX.r16:ACode:=(.region none [oP 8 (.move (.c (.int .i64 1)))])
def aX.pW:ACode:=(.region none [oM 55 5,
oM 56 8,
oP 57 (.call 409 [.t 55, .t 56]),
oM 8 57])
def aX.xI:ACode:=(.region none [oM 58 8,
oP 59 (.bin .lss (.t 58) (.c (.int .i64 0)))])
def aX.xJ:ACode:=(.region none [oP 2 (.move (.c (.bool false)))])
def aX.PU:ACode:=(.region none [oM 60 8,
oM 61 7,
oP 62 (.bin .neq (.t 60) (.t 61))])
def aX.PV:ACode:=(.region none [oP 2 (.move (.c (.bool false)))])
def aX.r22:ACode:=(.region none [oP 2 (.move (.c (.bool true)))])
def aX:AFunc:=⟨[.tmp 2],(.seq aX.r0 (.seq aX.r1 (.seq aX.r2 (.seq (.seq aX.r3 (.cond (.t 29) (.seq aX.r4 .ret) .skip)) (.seq aX.r5 (.seq aX.r6 (.seq aX.r7 (.seq aX.r8 (.seq (.seq aX.r9 (.cond (.t 37) (.seq aX.r10 .ret) .skip)) (.seq (.seq aX.r11 (.cond (.t 40) (.seq aX.r12 .ret) .skip)) (.seq aX.r13 (.seq (.seq aX.iL (.cond (.t 54) (.seq aX.kG .ret) .skip)) (.seq aX.r16 (.seq aX.pW (.seq (.seq aX.xI (.cond (.t 59) (.seq aX.xJ .ret) .skip)) (.seq (.seq aX.PU (.cond (.t 62) (.seq aX.PV .ret) .skip)) (.seq aX.r22 .ret)))))))))))))))))⟩
def iy.r0:ACode:=(.region none [oP 2 (.move (.c (.slice none 0 0))),
oP 3 (.move (.c (.int .i64 0)))])
def iy.r1:ACode:=(.region none [oM 4 0,
oP 5 (.call 58 [.t 4,(.c (.int .i64 1)),(.c (.int .i64 5))]),
oP 6 (.not (.t 5))])
def iy.r2:ACode:=(.region none [oP 2 (.move (.c (.slice none 0 0))),
oP 3 (.move (.c (.int .i64 2)))])
def iy.r3:ACode:=(.region none [oM 7 0,
oP 8 (.call 413 [.t 7]),
oM 2 8,
oP 3 (.move (.c (.int .i64 0)))])
def iy:AFunc:=⟨[.tmp 2, .tmp 3],(.seq iy.r0 (.seq (.seq iy.r1 (.cond (.t 6) (.seq iy.r2 .ret) .skip)) (.seq iy.r3 .ret)))⟩
def iC.r0:ACode:=(.region none [oP 2 (.move (.c (.slice none 0 0))),
oP 3 (.move (.c (.int .i64 0)))])
def iC.r1:ACode:=(.region none [oM 4 0,
oP 5 (.bin .lss (.t 4) (.c (.int .i64 1))),
oM 6 5,
⟨some 7, .move (.t 0),some (6,false)⟩,
⟨some 8, .bin .gtr (.t 7) (.c (.int .i64 5)),some (6,false)⟩,
oP 9 (.pick (.t 6) (.c (.bool true)) (.t 8))])
def iC.r2:ACode:=(.region none [oP 2 (.move (.c (.slice none 0 0))),
oP 3 (.move (.c (.int .i64 2)))])
def iC.r3:ACode:=(.region none [oM 10 0,
oP 11 (.call 414 [.t 10]),
oM 2 11,
oP 3 (.move (.c (.int .i64 0)))])
def iC:AFunc:=⟨[.tmp 2, .tmp 3],(.seq iC.r0 (.seq (.seq iC.r1 (.cond (.t 9) (.seq iC.r2 .ret) .skip)) (.seq iC.r3 .ret)))⟩
def dQ.r0:ACode:=(.region none [oP 4 (.move (.c (.bool false)))])
def dQ.r1:ACode:=(.region none [oM 6 0,
oP 7 (.len (.t 6)),
oM 8 1,
oP 9 (.len (.t 8)),
oP 10 (.bin .neq (.t 7) (.t 9))])
def dQ.r2:ACode:=(.region none [oP 4 (.move (.c (.bool false)))])
def dQ.r3:ACode:=(.region none [oP 5 (.move (.c (.int .i64 0)))])
def dQ.r4:ACode:=(.region none [oM 11 5,
oM 12 0,
oP 13 (.len (.t 12)),
oP 14 (.bin .lss (.t 11) (.t 13))])
def dQ.r6:ACode:=(.region (some 10) [oM 17 0,
oM 18 5,
oP 19 (.indexAddr none 33 (.t 17) (.t 18)),
oP 20 (.load (some 33) (.t 19)),
oM 21 1,
oM 22 5,
oP 23 (.indexAddr none 33 (.t 21) (.t 22)),
oP 24 (.load (some 33) (.t 23)),
oP 25 (.call 142 [.t 20, .t 24]),
oP 26 (.not (.t 25))])
def dQ.r7:ACode:=(.region none [oP 4 (.move (.c (.bool false)))])
def dQ.r5:ACode:=(.region none [oM 15 5,
oP 16 (.bin .add (.t 15) (.c (.int .i64 1))),
oM 5 16])
def dQ.l0:ACode:=(.seq (.seq dQ.r4 (.cond (.t 14) .skip (.exit 0))) (.seq (.block 1 (.seq dQ.r6 (.cond (.t 26) (.seq dQ.r7 .ret) .skip))) dQ.r5))
def dQ.r8:ACode:=(.region none [oP 4 (.move (.c (.bool true)))])
def dQ:AFunc:=⟨[.tmp 4],(.seq dQ.r0 (.seq (.seq dQ.r1 (.cond (.t 10) (.seq dQ.r2 .ret) .skip)) (.seq (.seq dQ.r3 (.block 0 (.loop dQ.l0))) (.seq dQ.r8 .ret))))⟩
def bf.r0:ACode:=(.region none [oP 4 (.move (.c (.int .i64 0)))])
def bf.r1:ACode:=(.region none [oP 5 (.move (.c (.int .i64 0)))])
def bf.r2:ACode:=(.region none [oM 8 5,
oM 9 0,
oP 10 (.len (.t 9)),
oP 11 (.bin .lss (.t 8) (.t 10))])
def bf.r4:ACode:=(.region none [oM 14 0,
oM 15 5,
oM 16 1,
oP 17 (.indexAddr none 33 (.t 14) (.t 15)),
oP 18 (.fieldAddr 0 (.t 17)),
⟨none, .store 1 (.t 18) (.t 16),none⟩])
def bf.r5:ACode:=(.region none [oM 19 1,
oP 20 (.bin .add (.t 19) (.c (.int .i64 1))),
oM 1 20])
def bf.r6:ACode:=(.region none [oP 6 (.move (.c (.int .i64 0)))])
def bf.r7:ACode:=(.region none [oM 21 6,
oP 22 (.bin .lss (.t 21) (.c (.int .i64 16)))])
def bf.r9:ACode:=(.region none [oM 25 0,
oM 26 5,
oM 27 6,
oM 28 1,
oP 29 (.conv .u8 (.t 28)),
oP 30 (.indexAddr none 33 (.t 25) (.t 26)),
oP 31 (.fieldAddr 1 (.t 30)),
oP 32 (.indexAddr (some 16) 1 (.t 31) (.t 27)),
⟨none, .store 1 (.t 32) (.t 29),none⟩])
def bf.r10:ACode:=(.region none [oM 33 1,
oP 34 (.bin .add (.t 33) (.c (.int .i64 1))),
oM 1 34])
def bf.r8:ACode:=(.region none [oM 23 6,
oP 24 (.bin .add (.t 23) (.c (.int .i64 1))),
oM 6 24])
def bf.l0:ACode:=(.seq (.seq bf.r7 (.cond (.t 22) .skip (.exit 2))) (.seq (.block 3 (.seq bf.r9 bf.r10)) bf.r8))
def bf.r11:ACode:=(.region none [oP 7 (.move (.c (.int .i64 0)))])
def bf.r12:ACode:=(.region none [oM 35 7,
oP 36 (.bin .lss (.t 35) (.c (.int .i64 16)))])
def bf.iL:ACode:=(.region none [oM 39 0,
oM 40 5,
oM 41 7,
oM 42 1,
oP 43 (.conv .u8 (.t 42)),
oP 44 (.indexAddr none 33 (.t 39) (.t 40)),
oP 45 (.fieldAddr 17 (.t 44)),
oP 46 (.indexAddr (some 16) 1 (.t 45) (.t 41)),
⟨none, .store 1 (.t 46) (.t 43),none⟩])
def bf.kG:ACode:=(.region none [oM 47 1,
oP 48 (.bin .add (.t 47) (.c (.int .i64 1))),
oM 1 48])
def bf.r13:ACode:=(.region none [oM 37 7,
oP 38 (.bin .add (.t 37) (.c (.int .i64 1))),
oM 7 38])
def bf.l1:ACode:=(.seq (.seq bf.r12 (.cond (.t 36) .skip (.exit 4))) (.seq (.block 5 (.seq bf.iL bf.kG)) bf.r13))
def bf.r3:ACode:=(.region none [oM 12 5,
oP 13 (.bin .add (.t 12) (.c (.int .i64 1))),
oM 5 13])
def bf.l2:ACode:=(.seq (.seq bf.r2 (.cond (.t 11) .skip (.exit 0))) (.seq (.block 1 (.seq bf.r4 (.seq bf.r5 (.seq (.seq bf.r6 (.block 2 (.loop bf.l0))) (.seq bf.r11 (.block 4 (.loop bf.l1))))))) bf.r3))
def bf.r16:ACode:=(.region none [oM 49 1,
oM 4 49])
def bf:AFunc:=⟨[.tmp 4],(.seq bf.r0 (.seq (.seq bf.r1 (.block 0 (.loop bf.l2))) (.seq bf.r16 .ret)))⟩
def aT.r0:ACode:=(.region none [oP 4 (.move (.c (.int .i64 0)))])
def aT.r1:ACode:=(.region none [oP 5 (.move (.c (.int .i64 0)))])
def aT.r2:ACode:=(.region none [oM 8 5,
oM 9 0,
oP 10 (.len (.t 9)),
oP 11 (.bin .lss (.t 8) (.t 10))])
def aT.r4:ACode:=(.region none [oM 14 0,
oM 15 5,
oP 16 (.indexAddr none 33 (.t 14) (.t 15)),
oP 17 (.fieldAddr 0 (.t 16)),
oP 18 (.load none (.t 17)),
oM 19 1,
oP 20 (.bin .neq (.t 18) (.t 19))])
def aT.r5:ACode:=(.region none [oP 4 (.move (.c (.int .i64 (-1))))])
def aT.r6:ACode:=(.region none [oM 21 1,
oP 22 (.bin .add (.t 21) (.c (.int .i64 1))),
oM 1 22])
def aT.r7:ACode:=(.region none [oP 6 (.move (.c (.int .i64 0)))])
def aT.r8:ACode:=(.region none [oM 23 6,
oP 24 (.bin .lss (.t 23) (.c (.int .i64 16)))])
def aT.r10:ACode:=(.region none [oM 27 0,
oM 28 5,
oM 29 6,
oP 30 (.indexAddr none 33 (.t 27) (.t 28)),
oP 31 (.fieldAddr 1 (.t 30)),
oP 32 (.indexAddr (some 16) 1 (.t 31) (.t 29)),
oP 33 (.load none (.t 32)),
oM 34 1,
oP 35 (.conv .u8 (.t 34)),
oP 36 (.bin .neq (.t 33) (.t 35))])
def aT.r11:ACode:=(.region none [oP 4 (.move (.c (.int .i64 (-1))))])
def aT.r12:ACode:=(.region none [oM 37 1,
oP 38 (.bin .add (.t 37) (.c (.int .i64 1))),
oM 1 38])
def aT.r9:ACode:=(.region none [oM 25 6,
oP 26 (.bin .add (.t 25) (.c (.int .i64 1))),
oM 6 26])
def aT.l0:ACode:=(.seq (.seq aT.r8 (.cond (.t 24) .skip (.exit 2))) (.seq (.block 3 (.seq (.seq aT.r10 (.cond (.t 36) (.seq aT.r11 .ret) .skip)) aT.r12)) aT.r9))
def aT.r13:ACode:=(.region none [oP 7 (.move (.c (.int .i64 0)))])
def aT.iL:ACode:=(.region none [oM 39 7,
oP 40 (.bin .lss (.t 39) (.c (.int .i64 16)))])
def aT.r16:ACode:=(.region none [oM 43 0,
oM 44 5,
oM 45 7,
oP 46 (.indexAddr none 33 (.t 43) (.t 44)),
oP 47 (.fieldAddr 17 (.t 46)),
oP 48 (.indexAddr (some 16) 1 (.t 47) (.t 45)),
oP 49 (.load none (.t 48)),
oM 50 1,
oP 51 (.conv .u8 (.t 50)),
oP 52 (.bin .neq (.t 49) (.t 51))])
def aT.pW:ACode:=(.region none [oP 4 (.move (.c (.int .i64 (-1))))])
def aT.xI:ACode:=(.region none [oM 53 1,
oP 54 (.bin .add (.t 53) (.c (.int .i64 1))),
oM 1 54])
def aT.kG:ACode:=(.region none [oM 41 7,
oP 42 (.bin .add (.t 41) (.c (.int .i64 1))),
oM 7 42])
def aT.l1:ACode:=(.seq (.seq aT.iL (.cond (.t 40) .skip (.exit 4))) (.seq (.block 5 (.seq (.seq aT.r16 (.cond (.t 52) (.seq aT.pW .ret) .skip)) aT.xI)) aT.kG))
def aT.r3:ACode:=(.region none [oM 12 5,
oP 13 (.bin .add (.t 12) (.c (.int .i64 1))),
oM 5 13])
def aT.l2:ACode:=(.seq (.seq aT.r2 (.cond (.t 11) .skip (.exit 0))) (.seq (.block 1 (.seq (.seq aT.r4 (.cond (.t 20) (.seq aT.r5 .ret) .skip)) (.seq aT.r6 (.seq (.seq aT.r7 (.block 2 (.loop aT.l0))) (.seq aT.r13 (.block 4 (.loop aT.l1))))))) aT.r3))
def aT.xJ:ACode:=(.region none [oM 55 1,
oM 4 55])
def aT:AFunc:=⟨[.tmp 4],(.seq aT.r0 (.seq (.seq aT.r1 (.block 0 (.loop aT.l2))) (.seq aT.xJ .ret)))⟩
def kC.r0:ACode:=(.region none [oP 6 (.move (.c (.bool false)))])
def kC.r1:ACode:=(.region none [oM 7 0,
oM 8 1,
oP 9 (.bin .geq (.t 7) (.t 8)),
oM 10 9,
⟨some 11, .move (.t 0),some (10,true)⟩,
⟨some 12, .move (.t 2),some (10,true)⟩,
⟨some 13, .bin .leq (.t 11) (.t 12),some (10,true)⟩,
oP 14 (.pick (.t 10) (.t 13) (.c (.bool false))),
oM 6 14])
def kC:AFunc:=⟨[.tmp 6],(.seq kC.r0 (.seq kC.r1 .ret))⟩
def fC.r0:ACode:=(.region none [oP 2 (.move (.c (.slice none 0 0)))])
def fC.r1:ACode:=(.region none [oM 6 0,
oM 7 0,
oP 8 (.buildSlice 1 0 [.int .i64 0] []),
oP 9 (.call 352 [.t 6, .t 7, .t 8,(.c (.slice none 0 0))]),
oP 10 (.buildSlice 33 0 ([.int .i64 0]++List.replicate 32 (.int .u8 0)) []),
oM 3 9,
oM 4 10])
def fC.r2:ACode:=(.region none [oP 5 (.move (.c (.int .i64 0)))])
def fC.r3:ACode:=(.region none [oM 11 5,
oM 12 3,
oP 13 (.len (.t 12)),
oP 14 (.bin .lss (.t 11) (.t 13))])
def fC.r5:ACode:=(.region none [oM 17 4,
oM 18 3,
oM 19 5,
oP 20 (.indexAddr none 1 (.t 18) (.t 19)),
oP 21 (.load none (.t 20)),
oP 22 (.call 363 [.t 21]),
oM 23 0,
oP 24 (.call 364 [.t 23]),
oM 25 0,
oP 26 (.call 416 [.t 17, .t 22, .t 24,(.c (.int .i64 0)), .t 25]),
oM 4 26])
def fC.r4:ACode:=(.region none [oM 15 5,
oP 16 (.bin .add (.t 15) (.c (.int .i64 1))),
oM 5 16])
def fC.l0:ACode:=(.seq (.seq fC.r3 (.cond (.t 14) .skip (.exit 0))) (.seq (.block 1 fC.r5) fC.r4))
def fC.r6:ACode:=(.region none [oM 27 4,
oM 2 27])
def fC:AFunc:=⟨[.tmp 2],(.seq fC.r0 (.seq fC.r1 (.seq (.seq fC.r2 (.block 0 (.loop fC.l0))) (.seq fC.r6 .ret))))⟩
def dS.r0:ACode:=(.region none [oP 1 (.box (.t 0)),
oP 2 (.move (.c (.slice none 0 0)))])
def dS.r1:ACode:=(.region none [oP 7 (.makeMap),
oP 3 (.alloc [.map none]),
⟨none, .store 1 (.t 3) (.t 7),none⟩])
def dS.r2:ACode:=(.region none [oP 8 (.load none (.t 1)),
oP 9 (.load none (.t 1)),
oP 10 (.call 351 [.t 8, .t 9]),
oP 11 (.len (.t 10)),
oP 12 (.move (.c (.int .i64 0)))])
def dS.r3:ACode:=(.region none [oP 13 (.bin .lss (.t 12) (.t 11))])
def dS.r4:ACode:=(.region none [oP 14 (.indexAddr none 1 (.t 10) (.t 12)),
oP 15 (.load none (.t 14)),
oM 5 15])
def dS.r5:ACode:=(.region none [oM 16 5,
oP 17 (.call 366 [.t 16]),
oP 6 (.alloc (List.replicate 16 (.int .u8 0))),
⟨none, .store 16 (.t 6) (.t 17),none⟩])
def dS.r6:ACode:=(.region none [oP 18 (.load none (.t 1)),
oP 19 (.makeFunc 420 [.t 1, .t 6, .t 3]),
oP 20 (.call 368 [.t 18, .t 19])])
def dS.r7:ACode:=(.region none [oP 21 (.bin .add (.t 12) (.c (.int .i64 1))),
oM 12 21])
def dS.l0:ACode:=(.seq dS.r3 (.seq (.cond (.t 13) .skip (.exit 0)) (.seq (.block 1 (.seq dS.r4 (.seq dS.r5 dS.r6))) dS.r7)))
def dS.r8:ACode:=(.region none [oP 22 (.load none (.t 3)),
oP 23 (.call 421 [.t 22]),
oM 2 23])
def dS:AFunc:=⟨[.tmp 2],(.seq dS.r0 (.seq dS.r1 (.seq (.seq dS.r2 (.block 0 (.loop dS.l0))) (.seq dS.r8 .ret))))⟩
def fK.r0:ACode:=(.region none [oP 2 (.box (.t 0)),
oP 3 (.box (.t 1)),
oP 4 (.move (.c (.bool false)))])
def fK.r1:ACode:=(.region none [oP 5 (.fieldAddr 0 (.t 2)),
oP 6 (.load none (.t 5)),
oP 7 (.fieldAddr 0 (.t 3)),
oP 8 (.load none (.t 7)),
oP 9 (.bin .neq (.t 6) (.t 8))])
def fK.r2:ACode:=(.region none [oP 4 (.move (.c (.bool false)))])
def fK.r3:ACode:=(.region none [oP 10 (.fieldAddr 1 (.t 2)),
oP 11 (.load (some 16) (.t 10)),
oP 12 (.fieldAddr 1 (.t 3)),
oP 13 (.load (some 16) (.t 12)),
oP 14 (.call 189 [.t 11, .t 13]),
oP 15 (.not (.t 14))])
def fK.r4:ACode:=(.region none [oP 4 (.move (.c (.bool false)))])
def fK.r5:ACode:=(.region none [oP 16 (.fieldAddr 17 (.t 2)),
oP 17 (.load (some 16) (.t 16)),
oP 18 (.fieldAddr 17 (.t 3)),
oP 19 (.load (some 16) (.t 18)),
oP 20 (.call 189 [.t 17, .t 19]),
oP 21 (.not (.t 20))])
def fK.r6:ACode:=(.region none [oP 4 (.move (.c (.bool false)))])
def fK.r7:ACode:=(.region none [oP 4 (.move (.c (.bool true)))])
def fK:AFunc:=⟨[.tmp 4],(.seq fK.r0 (.seq (.seq fK.r1 (.cond (.t 9) (.seq fK.r2 .ret) .skip)) (.seq (.seq fK.r3 (.cond (.t 15) (.seq fK.r4 .ret) .skip)) (.seq (.seq fK.r5 (.cond (.t 21) (.seq fK.r6 .ret) .skip)) (.seq fK.r7 .ret)))))⟩
def dR.r0:ACode:=(.region none [oP 8 (.move (.c (.slice none 0 0)))])
def dR.r1:ACode:=(.region none [oM 10 0,
oP 11 (.bin .eql (.t 10) (.c (.int .i64 0)))])
def dR.r2:ACode:=(.region none [oM 12 3,
oM 13 2,
oP 14 (.buildSlice 1 1 [.slice none 0 0] [(0,1, .t 13)]),
oP 15 (.append 1 24 (.t 12) (.t 14)),
oM 8 15])
def dR.r3:ACode:=(.region none [oP 9 (.move (.c (.int .i64 1)))])
def dR.r4:ACode:=(.region none [oM 16 9,
oM 17 1,
oP 18 (.bin .leq (.t 16) (.t 17)),
oM 19 18,
⟨some 20, .move (.t 9),some (19,true)⟩,
⟨some 21, .move (.t 0),some (19,true)⟩,
⟨some 22, .bin .leq (.t 20) (.t 21),some (19,true)⟩,
oP 23 (.pick (.t 19) (.t 22) (.c (.bool false)))])
def dR.r6:ACode:=(.region none [oM 26 0,
oM 27 9,
oP 28 (.bin .sub (.t 26) (.t 27)),
oM 29 9,
oM 30 2,
oP 31 (.call 111 [.t 30]),
oM 32 9,
oP 33 (.buildSlice 1 1 [.int .i64 0] [(0,1, .t 32)]),
oP 34 (.append 1 8 (.t 31) (.t 33)),
oM 35 3,
oP 36 (.call 352 [.t 28, .t 29, .t 34, .t 35]),
oM 3 36])
def dR.r5:ACode:=(.region none [oM 24 9,
oP 25 (.bin .add (.t 24) (.c (.int .i64 1))),
oM 9 25])
def dR.l0:ACode:=(.seq (.seq dR.r4 (.cond (.t 23) .skip (.exit 0))) (.seq (.block 1 dR.r6) dR.r5))
def dR.r7:ACode:=(.region none [oM 37 3,
oM 8 37])
def dR:AFunc:=⟨[.tmp 8],(.seq dR.r0 (.seq (.seq dR.r1 (.cond (.t 11) (.seq dR.r2 .ret) .skip)) (.seq (.seq dR.r3 (.block 0 (.loop dR.l0))) (.seq dR.r7 .ret))))⟩
def bT.r0:ACode:=(.region none [oP 6 (.box (.t 1)),
oP 7 (.box (.t 2)),
oP 10 (.move (.c (.slice none 0 0)))])
def bT.r1:ACode:=(.region none [oM 14 3,
oM 15 4,
oP 16 (.bin .eql (.t 14) (.t 15))])
def bT.r2:ACode:=(.region none [oM 17 4,
oP 18 (.load (some 16) (.t 6)),
oP 19 (.load (some 16) (.t 7)),
oP 20 (.build ([.int .i64 0]++List.replicate 32 (.int .u8 0)) [(0,1, .t 17),(1,16, .t 18),(17,16, .t 19)]),
oP 11 (.alloc ([.int .i64 0]++List.replicate 32 (.int .u8 0))),
⟨none, .store 33 (.t 11) (.t 20),none⟩])
def bT.r3:ACode:=(.region none [oP 21 (.load (some 33) (.t 11)),
oP 22 (.call 184 [.t 21])])
def bT.r4:ACode:=(.region none [oM 23 0,
oP 24 (.load (some 33) (.t 11)),
oP 25 (.call 359 [.t 24]),
oP 26 (.call 391 [.t 23, .t 25]),
oM 10 26])
def bT.r5:ACode:=(.region none [oM 27 0,
oM 10 27])
def bT.r6:ACode:=(.region none [oM 28 3,
oM 12 28])
def bT.r7:ACode:=(.region none [oM 29 12,
oM 30 4,
oP 31 (.bin .lss (.t 29) (.t 30))])
def bT.r9:ACode:=(.region none [oP 34 (.load (some 16) (.t 7)),
oP 13 (.alloc (List.replicate 16 (.int .u8 0))),
⟨none, .store 16 (.t 13) (.t 34),none⟩])
def bT.r10:ACode:=(.region none [oM 35 3,
oM 36 12,
oP 37 (.indexAddr (some 16) 1 (.t 7) (.t 36)),
oP 38 (.load none (.t 37)),
oP 39 (.indexAddr (some 16) 1 (.t 13) (.t 35)),
⟨none, .store 1 (.t 39) (.t 38),none⟩])
def bT.r11:ACode:=(.region none [oM 40 12,
oM 41 3,
oP 42 (.indexAddr (some 16) 1 (.t 7) (.t 41)),
oP 43 (.load none (.t 42)),
oP 44 (.indexAddr (some 16) 1 (.t 13) (.t 40)),
⟨none, .store 1 (.t 44) (.t 43),none⟩])
def bT.r12:ACode:=(.region none [oM 45 0,
oP 46 (.load (some 16) (.t 6)),
oP 47 (.load (some 16) (.t 13)),
oM 48 3,
oP 49 (.bin .add (.t 48) (.c (.int .i64 1))),
oM 50 4,
oP 51 (.call 416 [.t 45, .t 46, .t 47, .t 49, .t 50]),
oM 0 51])
def bT.r8:ACode:=(.region none [oM 32 12,
oP 33 (.bin .add (.t 32) (.c (.int .i64 1))),
oM 12 33])
def bT.l0:ACode:=(.seq (.seq bT.r7 (.cond (.t 31) .skip (.exit 0))) (.seq (.block 1 (.seq bT.r9 (.seq bT.r10 (.seq bT.r11 bT.r12)))) bT.r8))
def bT.r13:ACode:=(.region none [oM 52 0,
oM 10 52])
def bT:AFunc:=⟨[.tmp 10],(.seq bT.r0 (.seq (.seq bT.r1 (.cond (.t 16) (.seq (.seq bT.r2 (.seq bT.r3 (.cond (.t 22) (.seq bT.r4 .ret) .skip))) (.seq bT.r5 .ret)) .skip)) (.seq (.seq bT.r6 (.block 0 (.loop bT.l0))) (.seq bT.r13 .ret))))⟩
def dw.r0:ACode:=(.region none [oP 2 (.alloc (List.replicate 16 (.int .u8 0)))])
def dw.r1:ACode:=(.region none [oP 7 (.build (List.replicate 16 (.int .u8 0)) []),
oP 3 (.alloc (List.replicate 16 (.int .u8 0))),
⟨none, .store 16 (.t 3) (.t 7),none⟩,
oP 4 (.move (.c (.int .i64 0)))])
def dw.r2:ACode:=(.region none [oP 5 (.move (.c (.int .i64 0)))])
def dw.r3:ACode:=(.region none [oM 8 5,
oM 9 0,
oP 10 (.len (.t 9)),
oP 11 (.bin .lss (.t 8) (.t 10))])
def dw.r5:ACode:=(.region none [oP 6 (.move (.c (.int .i64 0)))])
def dw.r6:ACode:=(.region none [oM 14 6,
oM 15 0,
oM 16 5,
oP 17 (.indexAddr none 1 (.t 15) (.t 16)),
oP 18 (.load none (.t 17)),
oP 19 (.bin .lss (.t 14) (.t 18))])
def dw.r8:ACode:=(.region none [oM 22 4,
oM 23 6,
oP 24 (.bin .add (.t 22) (.t 23)),
oM 25 4,
oM 26 6,
oP 27 (.bin .add (.t 26) (.c (.int .i64 1))),
oM 28 0,
oM 29 5,
oP 30 (.indexAddr none 1 (.t 28) (.t 29)),
oP 31 (.load none (.t 30)),
oP 32 (.bin .rem (.t 27) (.t 31)),
oP 33 (.bin .add (.t 25) (.t 32)),
oP 34 (.conv .u8 (.t 33)),
oP 35 (.indexAddr (some 16) 1 (.t 3) (.t 24)),
⟨none, .store 1 (.t 35) (.t 34),none⟩])
def dw.r7:ACode:=(.region none [oM 20 6,
oP 21 (.bin .add (.t 20) (.c (.int .i64 1))),
oM 6 21])
def dw.l0:ACode:=(.seq (.seq dw.r6 (.cond (.t 19) .skip (.exit 2))) (.seq (.block 3 dw.r8) dw.r7))
def dw.r9:ACode:=(.region none [oM 36 4,
oM 37 0,
oM 38 5,
oP 39 (.indexAddr none 1 (.t 37) (.t 38)),
oP 40 (.load none (.t 39)),
oP 41 (.bin .add (.t 36) (.t 40)),
oM 4 41])
def dw.r4:ACode:=(.region none [oM 12 5,
oP 13 (.bin .add (.t 12) (.c (.int .i64 1))),
oM 5 13])
def dw.l1:ACode:=(.seq (.seq dw.r3 (.cond (.t 11) .skip (.exit 0))) (.seq (.block 1 (.seq (.seq dw.r5 (.block 2 (.loop dw.l0))) dw.r9)) dw.r4))
def dw.r10:ACode:=(.region none [oP 42 (.load (some 16) (.t 3)),
⟨none, .store 16 (.t 2) (.t 42),none⟩])
def dw:AFunc:=⟨[.cell 2 (some 16)],(.seq dw.r0 (.seq dw.r1 (.seq (.seq dw.r2 (.block 0 (.loop dw.l1))) (.seq dw.r10 .ret))))⟩
def fD.r0:ACode:=(.region none [oP 2 (.alloc (List.replicate 16 (.int .u8 0)))])
def fD.r1:ACode:=(.region none [oP 5 (.build (List.replicate 16 (.int .u8 0)) []),
oP 3 (.alloc (List.replicate 16 (.int .u8 0))),
⟨none, .store 16 (.t 3) (.t 5),none⟩])
def fD.r2:ACode:=(.region none [oP 4 (.move (.c (.int .i64 0)))])
def fD.r3:ACode:=(.region none [oM 6 4,
oM 7 0,
oP 8 (.bin .lss (.t 6) (.t 7))])
def fD.r5:ACode:=(.region none [oM 11 4,
oM 12 4,
oP 13 (.conv .u8 (.t 12)),
oP 14 (.indexAddr (some 16) 1 (.t 3) (.t 11)),
⟨none, .store 1 (.t 14) (.t 13),none⟩])
def fD.r4:ACode:=(.region none [oM 9 4,
oP 10 (.bin .add (.t 9) (.c (.int .i64 1))),
oM 4 10])
def fD.l0:ACode:=(.seq (.seq fD.r3 (.cond (.t 8) .skip (.exit 0))) (.seq (.block 1 fD.r5) fD.r4))
def fD.r6:ACode:=(.region none [oP 15 (.load (some 16) (.t 3)),
⟨none, .store 16 (.t 2) (.t 15),none⟩])
def fD:AFunc:=⟨[.cell 2 (some 16)],(.seq fD.r0 (.seq fD.r1 (.seq (.seq fD.r2 (.block 0 (.loop fD.l0))) (.seq fD.r6 .ret))))⟩
def bM.r0:ACode:=(.region none [oP 4 (.move (.c (.slice none 0 0)))])
def bM.r1:ACode:=(.region none [oM 9 0,
oP 10 (.bin .eql (.t 9) (.c (.int .i64 0)))])
def bM.r2:ACode:=(.region none [oP 11 (.buildSlice 1 0 [.int .i64 0] []),
oP 12 (.buildSlice 1 1 [.slice none 0 0] [(0,1, .t 11)]),
oM 4 12])
def bM.r3:ACode:=(.region none [oP 13 (.buildSlice 1 0 [.slice none 0 0] []),
oM 5 13])
def bM.r4:ACode:=(.region none [oP 6 (.move (.c (.int .i64 1)))])
def bM.r5:ACode:=(.region none [oM 14 6,
oM 15 0,
oM 16 1,
oP 17 (.min [.t 15, .t 16]),
oP 18 (.bin .leq (.t 14) (.t 17))])
def bM.r7:ACode:=(.region none [oM 21 0,
oM 22 6,
oP 23 (.bin .sub (.t 21) (.t 22)),
oM 24 6,
oP 25 (.call 351 [.t 23, .t 24]),
oP 26 (.len (.t 25)),
oP 27 (.move (.c (.int .i64 0)))])
def bM.r8:ACode:=(.region none [oP 28 (.bin .lss (.t 27) (.t 26))])
def bM.r9:ACode:=(.region none [oP 29 (.indexAddr none 1 (.t 25) (.t 27)),
oP 30 (.load none (.t 29)),
oM 8 30])
def bM.r10:ACode:=(.region none [oM 31 5,
oM 32 6,
oP 33 (.buildSlice 1 1 [.int .i64 0] [(0,1, .t 32)]),
oM 34 8,
oP 35 (.append 1 8 (.t 33) (.t 34)),
oP 36 (.buildSlice 1 1 [.slice none 0 0] [(0,1, .t 35)]),
oP 37 (.append 1 24 (.t 31) (.t 36)),
oM 5 37])
def bM.r11:ACode:=(.region none [oP 38 (.bin .add (.t 27) (.c (.int .i64 1))),
oM 27 38])
def bM.l0:ACode:=(.seq bM.r8 (.seq (.cond (.t 28) .skip (.exit 2)) (.seq (.block 3 (.seq bM.r9 bM.r10)) bM.r11)))
def bM.r6:ACode:=(.region none [oM 19 6,
oP 20 (.bin .add (.t 19) (.c (.int .i64 1))),
oM 6 20])
def bM.l1:ACode:=(.seq (.seq bM.r5 (.cond (.t 18) .skip (.exit 0))) (.seq (.block 1 (.seq bM.r7 (.block 2 (.loop bM.l0)))) bM.r6))
def bM.r12:ACode:=(.region none [oM 39 5,
oM 4 39])
def bM:AFunc:=⟨[.tmp 4],(.seq bM.r0 (.seq (.seq bM.r1 (.cond (.t 10) (.seq bM.r2 .ret) .skip)) (.seq bM.r3 (.seq (.seq bM.r4 (.block 0 (.loop bM.l1))) (.seq bM.r12 .ret)))))⟩
def bU.r0:ACode:=(.region none [oP 2 (.alloc (List.replicate 16 (.int .u8 0)))])
def bU.r1:ACode:=(.region none [oP 8 (.build (List.replicate 16 (.int .u8 0)) []),
oP 3 (.alloc (List.replicate 16 (.int .u8 0))),
⟨none, .store 16 (.t 3) (.t 8),none⟩,
oP 4 (.move (.c (.int .i64 0)))])
def bU.r2:ACode:=(.region none [oM 9 0,
oP 10 (.len (.t 9)),
oP 11 (.move (.c (.int .i64 0)))])
def bU.r3:ACode:=(.region none [oP 12 (.bin .lss (.t 11) (.t 10))])
def bU.r4:ACode:=(.region none [oP 13 (.indexAddr none 1 (.t 9) (.t 11)),
oP 14 (.load none (.t 13)),
oM 6 14])
def bU.r5:ACode:=(.region none [oM 15 6,
oP 16 (.move (.c (.int .i64 0)))])
def bU.r6:ACode:=(.region none [oP 17 (.bin .lss (.t 16) (.t 15))])
def bU.r7:ACode:=(.region none [oM 18 16,
oM 7 18])
def bU.r8:ACode:=(.region none [oM 19 4,
oM 20 7,
oP 21 (.bin .add (.t 19) (.t 20)),
oM 22 4,
oM 23 7,
oP 24 (.bin .add (.t 23) (.c (.int .i64 1))),
oM 25 6,
oP 26 (.bin .rem (.t 24) (.t 25)),
oP 27 (.bin .add (.t 22) (.t 26)),
oP 28 (.conv .u8 (.t 27)),
oP 29 (.indexAddr (some 16) 1 (.t 3) (.t 21)),
⟨none, .store 1 (.t 29) (.t 28),none⟩])
def bU.r9:ACode:=(.region none [oP 30 (.bin .add (.t 16) (.c (.int .i64 1))),
oM 16 30])
def bU.l0:ACode:=(.seq bU.r6 (.seq (.cond (.t 17) .skip (.exit 2)) (.seq (.block 3 (.seq bU.r7 bU.r8)) bU.r9)))
def bU.r10:ACode:=(.region none [oM 31 4,
oM 32 6,
oP 33 (.bin .add (.t 31) (.t 32)),
oM 4 33])
def bU.r11:ACode:=(.region none [oP 34 (.bin .add (.t 11) (.c (.int .i64 1))),
oM 11 34])
def bU.l1:ACode:=(.seq bU.r3 (.seq (.cond (.t 12) .skip (.exit 0)) (.seq (.block 1 (.seq bU.r4 (.seq (.seq bU.r5 (.block 2 (.loop bU.l0))) bU.r10))) bU.r11)))
def bU.r12:ACode:=(.region none [oP 35 (.load (some 16) (.t 3)),
⟨none, .store 16 (.t 2) (.t 35),none⟩])
def bU:AFunc:=⟨[.cell 2 (some 16)],(.seq bU.r0 (.seq bU.r1 (.seq (.seq bU.r2 (.block 0 (.loop bU.l1))) (.seq bU.r12 .ret))))⟩
def gJ.r0:ACode:=(.region none [oP 2 (.box (.t 0)),
oP 3 (.box (.t 1))])
def gJ.r1:ACode:=(.region none [oP 7 (.build (List.replicate 16 (.int .u8 0)) []),
oP 4 (.alloc (List.replicate 16 (.int .u8 0))),
⟨none, .store 16 (.t 4) (.t 7),none⟩])
def gJ.r2:ACode:=(.region none [oP 8 (.build (List.replicate 16 (.bool false)) []),
oP 5 (.alloc (List.replicate 16 (.bool false))),
⟨none, .store 16 (.t 5) (.t 8),none⟩])
def gJ.r3:ACode:=(.region none [oP 6 (.alloc [.nilFunc])])
def gJ.r4:ACode:=(.region none [oP 9 (.makeFunc 377 [.t 2, .t 3, .t 4, .t 5, .t 6]),
⟨none, .store 1 (.t 6) (.t 9),none⟩])
def gJ.r5:ACode:=(.region none [oP 10 (.load none (.t 6)),
oP 11 (.callv (.t 10) [(.c (.int .i64 0))])])
def gJ:AFunc:=⟨[],(.seq gJ.r0 (.seq gJ.r1 (.seq gJ.r2 (.seq gJ.r3 (.seq gJ.r4 gJ.r5)))))⟩
def iJ.r0:ACode:=(.region none [oP 4 (.box (.t 0))])
def iJ.r1:ACode:=(.region none [oP 6 (.load none (.t 1)),
oP 7 (.load (some 16) (.t 2)),
oP 8 (.load (some 16) (.t 4)),
oP 9 (.build ([.int .i64 0]++List.replicate 32 (.int .u8 0)) [(0,1, .t 6),(1,16, .t 7),(17,16, .t 8)]),
oP 5 (.alloc ([.int .i64 0]++List.replicate 32 (.int .u8 0))),
⟨none, .store 33 (.t 5) (.t 9),none⟩])
def iJ.r2:ACode:=(.region none [oP 10 (.load (some 33) (.t 5)),
oP 11 (.call 369 [.t 10])])
def iJ.r3:ACode:=(.region (some 3) [oP 12 (.load none (.t 3)),
oP 13 (.load (some 33) (.t 5)),
oP 14 (.call 198 [.t 13]),
⟨none, .mapPut ([.i64]++List.replicate 32 .u8) (.t 12) (.t 14),none⟩])
def iJ:AFunc:=⟨[],(.seq iJ.r0 (.seq iJ.r1 (.seq iJ.r2 (.cond (.t 11) iJ.r3 .skip))))⟩
def fE.r0:ACode:=(.region none [oP 2 (.box (.t 0)),
oP 3 (.box (.t 1)),
oP 4 (.move (.c (.bool false)))])
def fE.r1:ACode:=(.region none [oP 5 (.move (.c (.int .i64 0)))])
def fE.r2:ACode:=(.region none [oM 6 5,
oP 7 (.bin .lss (.t 6) (.c (.int .i64 16)))])
def fE.r4:ACode:=(.region (some 7) [oM 10 5,
oP 11 (.indexAddr (some 16) 1 (.t 2) (.t 10)),
oP 12 (.load none (.t 11)),
oM 13 5,
oP 14 (.indexAddr (some 16) 1 (.t 3) (.t 13)),
oP 15 (.load none (.t 14)),
oP 16 (.bin .neq (.t 12) (.t 15))])
def fE.r5:ACode:=(.region none [oP 4 (.move (.c (.bool false)))])
def fE.r3:ACode:=(.region none [oM 8 5,
oP 9 (.bin .add (.t 8) (.c (.int .i64 1))),
oM 5 9])
def fE.l0:ACode:=(.seq (.seq fE.r2 (.cond (.t 7) .skip (.exit 0))) (.seq (.block 1 (.seq fE.r4 (.cond (.t 16) (.seq fE.r5 .ret) .skip))) fE.r3))
def fE.r6:ACode:=(.region none [oP 4 (.move (.c (.bool true)))])
def fE:AFunc:=⟨[.tmp 4],(.seq fE.r0 (.seq (.seq fE.r1 (.block 0 (.loop fE.l0))) (.seq fE.r6 .ret)))⟩
def kD.r0:ACode:=(.region none [oP 2 (.move (.c (.slice none 0 0)))])
def kD.r1:ACode:=(.region none [oP 3 (.buildSlice 1 0 [.int .i64 0] []),
oM 4 0,
oP 5 (.append 1 8 (.t 3) (.t 4)),
oM 2 5])
def kD:AFunc:=⟨[.tmp 2],(.seq kD.r0 (.seq kD.r1 .ret))⟩
def kE.r0:ACode:=(.region none [oP 1 (.box (.t 0)),
oP 2 (.move (.c (.bool false)))])
def kE.r1:ACode:=(.region none [oP 3 (.fieldAddr 1 (.t 1)),
oP 4 (.load (some 16) (.t 3)),
oP 5 (.fieldAddr 0 (.t 1)),
oP 6 (.load none (.t 5)),
oP 7 (.call 206 [.t 4, .t 6]),
oM 8 7,
⟨some 9, .fieldAddr 17 (.t 1),some (8,true)⟩,
⟨some 10, .load (some 16) (.t 9),some (8,true)⟩,
⟨some 11, .fieldAddr 0 (.t 1),some (8,true)⟩,
⟨some 12, .load none (.t 11),some (8,true)⟩,
⟨some 13, .call 206 [.t 10, .t 12],some (8,true)⟩,
oP 14 (.pick (.t 8) (.t 13) (.c (.bool false))),
oM 15 14,
⟨some 16, .fieldAddr 0 (.t 1),some (15,true)⟩,
⟨some 17, .load none (.t 16),some (15,true)⟩,
⟨some 18, .fieldAddr 1 (.t 1),some (15,true)⟩,
⟨some 19, .load (some 16) (.t 18),some (15,true)⟩,
⟨some 20, .fieldAddr 17 (.t 1),some (15,true)⟩,
⟨some 21, .load (some 16) (.t 20),some (15,true)⟩,
⟨some 22, .call 207 [.t 17, .t 19, .t 21],some (15,true)⟩,
oP 23 (.pick (.t 15) (.t 22) (.c (.bool false))),
oM 2 23])
def kE:AFunc:=⟨[.tmp 2],(.seq kE.r0 (.seq kE.r1 .ret))⟩
def dD.r0:ACode:=(.region none [oP 3 (.box (.t 1)),
oP 4 (.move (.c (.slice none 0 0)))])
def dD.r1:ACode:=(.region none [oM 9 0,
oP 10 (.len (.t 9)),
oP 5 (.move (.c (.int .i64 0))),
oM 6 10])
def dD.r2:ACode:=(.region none [oM 11 5,
oM 12 6,
oP 13 (.bin .lss (.t 11) (.t 12))])
def dD.r3:ACode:=(.region none [oM 14 5,
oM 15 6,
oP 16 (.bin .add (.t 14) (.t 15)),
oP 17 (.bin .quo (.t 16) (.c (.int .i64 2))),
oM 7 17])
def dD.r4:ACode:=(.region (some 6) [oM 18 0,
oM 19 7,
oP 20 (.indexAddr none 33 (.t 18) (.t 19)),
oP 21 (.load (some 33) (.t 20)),
oP 22 (.load (some 33) (.t 3)),
oP 23 (.call 375 [.t 21, .t 22])])
def dD.r5:ACode:=(.region none [oM 24 7,
oP 25 (.bin .add (.t 24) (.c (.int .i64 1))),
oM 5 25])
def dD.r6:ACode:=(.region none [oM 26 7,
oM 6 26])
def dD.l0:ACode:=(.seq (.seq dD.r2 (.cond (.t 13) .skip (.exit 0))) (.block 1 (.seq dD.r3 (.seq dD.r4 (.cond (.t 23) dD.r5 dD.r6)))))
def dD.r7:ACode:=(.region (some 12) [oM 27 5,
oM 28 0,
oP 29 (.len (.t 28)),
oP 30 (.bin .lss (.t 27) (.t 29)),
oM 31 30,
⟨some 32, .move (.t 0),some (31,true)⟩,
⟨some 33, .move (.t 5),some (31,true)⟩,
⟨some 34, .indexAddr none 33 (.t 32) (.t 33),some (31,true)⟩,
⟨some 35, .load (some 33) (.t 34),some (31,true)⟩,
⟨some 36, .load (some 33) (.t 3),some (31,true)⟩,
⟨some 37, .eqa false 33 (.t 35) (.t 36),some (31,true)⟩,
oP 38 (.pick (.t 31) (.t 37) (.c (.bool false)))])
def dD.r8:ACode:=(.region none [oM 39 0,
oM 4 39])
def dD.r9:ACode:=(.region (some 5) [oP 40 (.load (some 33) (.t 3)),
oP 41 (.buildSlice 33 1 ([.int .i64 0]++List.replicate 32 (.int .u8 0)) [(0,33, .t 40)]),
oM 42 0,
oM 43 5,
oP 44 (.slice 33 (.t 42) (some (.t 43)) none),
oP 45 (.append 33 40 (.t 41) (.t 44)),
oM 8 45])
def dD.r10:ACode:=(.region none [oP 46 (.buildSlice 33 0 ([.int .i64 0]++List.replicate 32 (.int .u8 0)) []),
oM 47 0,
oM 48 5,
oP 49 (.slice 33 (.t 47) none (some (.t 48))),
oP 50 (.append 33 40 (.t 46) (.t 49)),
oM 51 8,
oP 52 (.append 33 40 (.t 50) (.t 51)),
oM 4 52])
def dD:AFunc:=⟨[.tmp 4],(.seq dD.r0 (.seq dD.r1 (.seq (.block 0 (.loop dD.l0)) (.seq (.seq dD.r7 (.cond (.t 38) (.seq dD.r8 .ret) .skip)) (.seq dD.r9 (.seq dD.r10 .ret))))))⟩
def dX.r0:ACode:=(.region none [oP 1 (.box (.t 0)),
oP 2 (.alloc ([.int .i64 0]++List.replicate 32 (.int .u8 0)))])
def dX.r1:ACode:=(.region (some 5) [oP 6 (.load (some 33) (.t 1)),
oP 7 (.load (some 33) (.t 1)),
oP 8 (.call 358 [.t 7,(.c (.int .i64 0))]),
oP 9 (.call 357 [.t 6, .t 8]),
oP 3 (.alloc ([.int .i64 0]++List.replicate 32 (.int .u8 0))),
⟨none, .store 33 (.t 3) (.t 9),none⟩])
def dX.r2:ACode:=(.region none [oP 4 (.move (.c (.int .i64 1)))])
def dX.r3:ACode:=(.region none [oM 10 4,
oP 11 (.fieldAddr 0 (.t 1)),
oP 12 (.load none (.t 11)),
oP 13 (.bin .lss (.t 10) (.t 12))])
def dX.r5:ACode:=(.region (some 6) [oP 16 (.load (some 33) (.t 1)),
oP 17 (.load (some 33) (.t 1)),
oM 18 4,
oP 19 (.call 358 [.t 17, .t 18]),
oP 20 (.call 357 [.t 16, .t 19]),
oP 5 (.alloc ([.int .i64 0]++List.replicate 32 (.int .u8 0))),
⟨none, .store 33 (.t 5) (.t 20),none⟩])
def dX.r6:ACode:=(.region none [oP 21 (.load (some 33) (.t 5)),
oP 22 (.load (some 33) (.t 3)),
oP 23 (.call 375 [.t 21, .t 22])])
def dX.r7:ACode:=(.region none [oP 24 (.load (some 33) (.t 5)),
⟨none, .store 33 (.t 3) (.t 24),none⟩])
def dX.r4:ACode:=(.region none [oM 14 4,
oP 15 (.bin .add (.t 14) (.c (.int .i64 1))),
oM 4 15])
def dX.l0:ACode:=(.seq (.seq dX.r3 (.cond (.t 13) .skip (.exit 0))) (.seq (.block 1 (.seq dX.r5 (.seq dX.r6 (.cond (.t 23) dX.r7 .skip)))) dX.r4))
def dX.r8:ACode:=(.region none [oP 25 (.load (some 33) (.t 3)),
⟨none, .store 33 (.t 2) (.t 25),none⟩])
def dX:AFunc:=⟨[.cell 2 (some 33)],(.seq dX.r0 (.seq dX.r1 (.seq (.seq dX.r2 (.block 0 (.loop dX.l0))) (.seq dX.r8 .ret))))⟩
def dF.r0:ACode:=(.region none [oM 8 0,
oP 9 (.load none (.t 1)),
oP 10 (.bin .eql (.t 8) (.t 9))])
def dF.r1:ACode:=(.region none [oP 11 (.load none (.t 2)),
oP 12 (.load (some 16) (.t 3)),
oP 13 (.callv (.t 11) [.t 12])])
def dF.r2:ACode:=(.region none [oP 14 (.load none (.t 1)),
oP 15 (.move (.c (.int .i64 0)))])
def dF.r3:ACode:=(.region none [oP 16 (.bin .lss (.t 15) (.t 14))])
def dF.r4:ACode:=(.region none [oM 17 15,
oM 7 17])
def dF.r5:ACode:=(.region none [oM 18 7,
oP 19 (.indexAddr (some 16) 1 (.t 4) (.t 18)),
oP 20 (.load none (.t 19)),
oP 21 (.not (.t 20))])
def dF.r6:ACode:=(.region none [oM 22 7,
oP 23 (.indexAddr (some 16) 1 (.t 4) (.t 22)),
⟨none, .store 1 (.t 23) (.c (.bool true)),none⟩])
def dF.r7:ACode:=(.region none [oM 24 0,
oM 25 7,
oP 26 (.conv .u8 (.t 25)),
oP 27 (.indexAddr (some 16) 1 (.t 3) (.t 24)),
⟨none, .store 1 (.t 27) (.t 26),none⟩])
def dF.r8:ACode:=(.region none [oP 28 (.load none (.t 5)),
oM 29 0,
oP 30 (.bin .add (.t 29) (.c (.int .i64 1))),
oP 31 (.callv (.t 28) [.t 30])])
def dF.r9:ACode:=(.region none [oM 32 7,
oP 33 (.indexAddr (some 16) 1 (.t 4) (.t 32)),
⟨none, .store 1 (.t 33) (.c (.bool false)),none⟩])
def dF.r10:ACode:=(.region none [oP 34 (.bin .add (.t 15) (.c (.int .i64 1))),
oM 15 34])
def dF.l0:ACode:=(.seq dF.r3 (.seq (.cond (.t 16) .skip (.exit 0)) (.seq (.block 1 (.seq dF.r4 (.seq dF.r5 (.cond (.t 21) (.seq dF.r6 (.seq dF.r7 (.seq dF.r8 dF.r9))) .skip)))) dF.r10)))
def dF:AFunc:=⟨[],(.seq (.seq dF.r0 (.cond (.t 10) (.seq dF.r1 .ret) .skip)) (.seq dF.r2 (.block 0 (.loop dF.l0))))⟩
def kF.r0:ACode:=(.region none [oP 1 (.box (.t 0)),
oP 2 (.move (.c (.bool false)))])
def kF.r1:ACode:=(.region (some 12) [oP 3 (.fieldAddr 0 (.t 1)),
oP 4 (.load none (.t 3)),
oP 5 (.fieldAddr 1 (.t 1)),
oP 6 (.load (some 16) (.t 5)),
oP 7 (.fieldAddr 17 (.t 1)),
oP 8 (.load (some 16) (.t 7)),
oP 9 (.buildSlice 16 2 (List.replicate 16 (.int .u8 0)) [(0,16, .t 6),(16,16, .t 8)]),
oP 10 (.call 210 [.t 4, .t 9]),
oP 11 (.fieldAddr 0 (.t 1)),
oP 12 (.load none (.t 11)),
oP 13 (.bin .eql (.t 10) (.t 12)),
oM 2 13])
def kF:AFunc:=⟨[.tmp 2],(.seq kF.r0 (.seq kF.r1 .ret))⟩
def dY.r0:ACode:=(.region none [oP 1 (.box (.t 0)),
oP 2 (.alloc ([.int .i64 0]++List.replicate 32 (.int .u8 0)))])
def dY.r1:ACode:=(.region (some 5) [oP 6 (.load (some 33) (.t 1)),
oP 7 (.load (some 33) (.t 1)),
oP 8 (.call 215 [.t 7,(.c (.int .i64 0))]),
oP 9 (.call 216 [.t 6, .t 8]),
oP 3 (.alloc ([.int .i64 0]++List.replicate 32 (.int .u8 0))),
⟨none, .store 33 (.t 3) (.t 9),none⟩])
def dY.r2:ACode:=(.region none [oP 4 (.move (.c (.int .i64 1)))])
def dY.r3:ACode:=(.region none [oM 10 4,
oP 11 (.fieldAddr 0 (.t 1)),
oP 12 (.load none (.t 11)),
oP 13 (.bin .lss (.t 10) (.t 12))])
def dY.r5:ACode:=(.region (some 6) [oP 16 (.load (some 33) (.t 1)),
oP 17 (.load (some 33) (.t 1)),
oM 18 4,
oP 19 (.call 215 [.t 17, .t 18]),
oP 20 (.call 216 [.t 16, .t 19]),
oP 5 (.alloc ([.int .i64 0]++List.replicate 32 (.int .u8 0))),
⟨none, .store 33 (.t 5) (.t 20),none⟩])
def dY.r6:ACode:=(.region none [oP 21 (.load (some 33) (.t 5)),
oP 22 (.load (some 33) (.t 3)),
oP 23 (.call 217 [.t 21, .t 22]),
oP 24 (.bin .lss (.t 23) (.c (.int .i64 0)))])
def dY.r7:ACode:=(.region none [oP 25 (.load (some 33) (.t 5)),
⟨none, .store 33 (.t 3) (.t 25),none⟩])
def dY.r4:ACode:=(.region none [oM 14 4,
oP 15 (.bin .add (.t 14) (.c (.int .i64 1))),
oM 4 15])
def dY.l0:ACode:=(.seq (.seq dY.r3 (.cond (.t 13) .skip (.exit 0))) (.seq (.block 1 (.seq dY.r5 (.seq dY.r6 (.cond (.t 24) dY.r7 .skip)))) dY.r4))
def dY.r8:ACode:=(.region none [oP 26 (.load (some 33) (.t 3)),
⟨none, .store 33 (.t 2) (.t 26),none⟩])
def dY:AFunc:=⟨[.cell 2 (some 33)],(.seq dY.r0 (.seq dY.r1 (.seq (.seq dY.r2 (.block 0 (.loop dY.l0))) (.seq dY.r8 .ret))))⟩
def gW.r0:ACode:=(.region none [oP 2 (.box (.t 0)),
oP 3 (.box (.t 1)),
oP 4 (.move (.c (.int .i64 0)))])
def gW.r1:ACode:=(.region none [oP 6 (.fieldAddr 1 (.t 2)),
oP 7 (.load (some 16) (.t 6)),
oP 8 (.fieldAddr 1 (.t 3)),
oP 9 (.load (some 16) (.t 8)),
oP 10 (.call 222 [.t 7, .t 9]),
oM 5 10])
def gW.r2:ACode:=(.region none [oM 11 5,
oP 12 (.bin .neq (.t 11) (.c (.int .i64 0)))])
def gW.r3:ACode:=(.region none [oM 13 5,
oM 4 13])
def gW.r4:ACode:=(.region none [oP 14 (.fieldAddr 17 (.t 2)),
oP 15 (.load (some 16) (.t 14)),
oP 16 (.fieldAddr 17 (.t 3)),
oP 17 (.load (some 16) (.t 16)),
oP 18 (.call 222 [.t 15, .t 17]),
oM 4 18])
def gW:AFunc:=⟨[.tmp 4],(.seq gW.r0 (.seq (.seq gW.r1 (.seq gW.r2 (.cond (.t 12) (.seq gW.r3 .ret) .skip))) (.seq gW.r4 .ret)))⟩
def bV.r0:ACode:=(.region none [oP 2 (.box (.t 0)),
oP 4 (.move (.c (.bool false)))])
def bV.r1:ACode:=(.region none [oM 7 1,
oP 8 (.call 58 [.t 7,(.c (.int .i64 1)),(.c (.int .i64 16))]),
oP 9 (.not (.t 8))])
def bV.r2:ACode:=(.region none [oP 4 (.move (.c (.bool false)))])
def bV.r3:ACode:=(.region none [oP 10 (.build (List.replicate 16 (.bool false)) []),
oP 5 (.alloc (List.replicate 16 (.bool false))),
⟨none, .store 16 (.t 5) (.t 10),none⟩])
def bV.r4:ACode:=(.region none [oP 6 (.move (.c (.int .i64 0)))])
def bV.r5:ACode:=(.region none [oM 11 6,
oP 12 (.bin .lss (.t 11) (.c (.int .i64 16)))])
def bV.r8:ACode:=(.region none [oM 20 6,
oM 21 1,
oP 22 (.bin .geq (.t 20) (.t 21)),
oM 19 22])
def bV.r9:ACode:=(.region none [oM 23 6,
oP 24 (.indexAddr (some 16) 1 (.t 2) (.t 23)),
oP 25 (.load none (.t 24)),
oP 26 (.bin .neq (.t 25) (.c (.int .u8 0)))])
def bV.r10:ACode:=(.region none [oP 4 (.move (.c (.bool false)))])
def bV.r11:ACode:=(.region none [oM 28 6,
oP 29 (.indexAddr (some 16) 1 (.t 2) (.t 28)),
oP 30 (.load none (.t 29)),
oP 31 (.conv .i64 (.t 30)),
oM 32 1,
oP 33 (.bin .geq (.t 31) (.t 32)),
oM 34 33,
⟨some 35, .move (.t 6),some (34,false)⟩,
⟨some 36, .indexAddr (some 16) 1 (.t 2) (.t 35),some (34,false)⟩,
⟨some 37, .load none (.t 36),some (34,false)⟩,
⟨some 38, .indexAddr (some 16) 1 (.t 5) (.t 37),some (34,false)⟩,
⟨some 39, .load none (.t 38),some (34,false)⟩,
oP 40 (.pick (.t 34) (.c (.bool true)) (.t 39)),
oM 27 40])
def bV.r12:ACode:=(.region none [oP 4 (.move (.c (.bool false)))])
def bV.r7:ACode:=(.region none [oM 15 6,
oP 16 (.indexAddr (some 16) 1 (.t 2) (.t 15)),
oP 17 (.load none (.t 16)),
oP 18 (.indexAddr (some 16) 1 (.t 5) (.t 17)),
⟨none, .store 1 (.t 18) (.c (.bool true)),none⟩])
def bV.r6:ACode:=(.region none [oM 13 6,
oP 14 (.bin .add (.t 13) (.c (.int .i64 1))),
oM 6 14])
def bV.l0:ACode:=(.seq (.seq bV.r5 (.cond (.t 12) .skip (.exit 0))) (.seq (.block 1 (.block 2 (.seq bV.r8 (.cond (.t 19) (.seq bV.r9 (.cond (.t 26) (.seq bV.r10 .ret) .skip)) (.seq bV.r11 (.cond (.t 27) (.seq bV.r12 .ret) bV.r7)))))) bV.r6))
def bV.r13:ACode:=(.region none [oP 4 (.move (.c (.bool true)))])
def bV:AFunc:=⟨[.tmp 4],(.seq bV.r0 (.seq (.seq bV.r1 (.cond (.t 9) (.seq bV.r2 .ret) .skip)) (.seq bV.r3 (.seq (.seq bV.r4 (.block 0 (.loop bV.l0))) (.seq bV.r13 .ret)))))⟩
def bP.r0:ACode:=(.region none [oP 4 (.box (.t 1)),
oP 5 (.box (.t 2)),
oP 6 (.move (.c (.bool false)))])
def bP.r1:ACode:=(.region none [oP 12 (.build (List.replicate 16 (.bool false)) []),
oP 13 (.buildSlice 1 1 [.int .u8 0] [(0,1,(.c (.int .u8 0)))]),
oP 7 (.alloc (List.replicate 16 (.bool false))),
⟨none, .store 16 (.t 7) (.t 12),none⟩,
oM 8 13])
def bP.r2:ACode:=(.region none [oP 14 (.indexAddr (some 16) 1 (.t 7) (.c (.int .i64 0))),
⟨none, .store 1 (.t 14) (.c (.bool true)),none⟩])
def bP.r3:ACode:=(.region none [oP 9 (.move (.c (.int .i64 0)))])
def bP.r4:ACode:=(.region none [oM 15 9,
oM 16 8,
oP 17 (.len (.t 16)),
oP 18 (.bin .lss (.t 15) (.t 17))])
def bP.r6:ACode:=(.region (some 14) [oM 21 8,
oM 22 9,
oP 23 (.indexAddr none 1 (.t 21) (.t 22)),
oP 24 (.load none (.t 23)),
oP 25 (.indexAddr (some 16) 1 (.t 4) (.t 24)),
oP 26 (.load none (.t 25)),
oM 27 8,
oM 28 9,
oP 29 (.indexAddr none 1 (.t 27) (.t 28)),
oP 30 (.load none (.t 29)),
oP 31 (.indexAddr (some 16) 1 (.t 5) (.t 30)),
oP 32 (.load none (.t 31)),
oP 33 (.buildSlice 1 2 [.int .u8 0] [(0,1, .t 26),(1,1, .t 32)]),
oM 10 33])
def bP.r7:ACode:=(.region none [oP 11 (.move (.c (.int .i64 0)))])
def bP.r8:ACode:=(.region none [oM 34 11,
oP 35 (.bin .lss (.t 34) (.c (.int .i64 2)))])
def bP.r10:ACode:=(.region none [oM 38 10,
oM 39 11,
oP 40 (.indexAddr none 1 (.t 38) (.t 39)),
oP 41 (.load none (.t 40)),
oP 42 (.indexAddr (some 16) 1 (.t 7) (.t 41)),
oP 43 (.load none (.t 42)),
oP 44 (.not (.t 43))])
def bP.r11:ACode:=(.region none [oM 45 10,
oM 46 11,
oP 47 (.indexAddr none 1 (.t 45) (.t 46)),
oP 48 (.load none (.t 47)),
oP 49 (.indexAddr (some 16) 1 (.t 7) (.t 48)),
⟨none, .store 1 (.t 49) (.c (.bool true)),none⟩])
def bP.r12:ACode:=(.region none [oM 50 8,
oM 51 10,
oM 52 11,
oP 53 (.indexAddr none 1 (.t 51) (.t 52)),
oP 54 (.load none (.t 53)),
oP 55 (.buildSlice 1 1 [.int .u8 0] [(0,1, .t 54)]),
oP 56 (.append 1 1 (.t 50) (.t 55)),
oM 8 56])
def bP.r9:ACode:=(.region none [oM 36 11,
oP 37 (.bin .add (.t 36) (.c (.int .i64 1))),
oM 11 37])
def bP.l0:ACode:=(.seq (.seq bP.r8 (.cond (.t 35) .skip (.exit 2))) (.seq (.block 3 (.seq bP.r10 (.cond (.t 44) (.seq bP.r11 bP.r12) .skip))) bP.r9))
def bP.r5:ACode:=(.region none [oM 19 9,
oP 20 (.bin .add (.t 19) (.c (.int .i64 1))),
oM 9 20])
def bP.l1:ACode:=(.seq (.seq bP.r4 (.cond (.t 18) .skip (.exit 0))) (.seq (.block 1 (.seq bP.r6 (.seq bP.r7 (.block 2 (.loop bP.l0))))) bP.r5))
def bP.r13:ACode:=(.region none [oM 57 8,
oP 58 (.len (.t 57)),
oM 59 0,
oP 60 (.bin .eql (.t 58) (.t 59)),
oM 6 60])
def bP:AFunc:=⟨[.tmp 6],(.seq bP.r0 (.seq bP.r1 (.seq bP.r2 (.seq (.seq bP.r3 (.block 0 (.loop bP.l1))) (.seq bP.r13 .ret)))))⟩
def iK.r0:ACode:=(.region none [oP 2 (.box (.t 0)),
oP 3 (.box (.t 1)),
oP 4 (.move (.c (.bool false)))])
def iK.r1:ACode:=(.region none [oP 5 (.fieldAddr 1 (.t 2)),
oP 6 (.load (some 16) (.t 5)),
oP 7 (.fieldAddr 1 (.t 3)),
oP 8 (.load (some 16) (.t 7)),
oP 9 (.eqa true 16 (.t 6) (.t 8))])
def iK.r2:ACode:=(.region none [oP 10 (.fieldAddr 1 (.t 2)),
oP 11 (.load (some 16) (.t 10)),
oP 12 (.fieldAddr 1 (.t 3)),
oP 13 (.load (some 16) (.t 12)),
oP 14 (.call 389 [.t 11, .t 13]),
oM 4 14])
def iK.r3:ACode:=(.region none [oP 15 (.fieldAddr 17 (.t 2)),
oP 16 (.load (some 16) (.t 15)),
oP 17 (.fieldAddr 17 (.t 3)),
oP 18 (.load (some 16) (.t 17)),
oP 19 (.call 389 [.t 16, .t 18]),
oM 4 19])
def iK:AFunc:=⟨[.tmp 4],(.seq iK.r0 (.seq (.seq iK.r1 (.cond (.t 9) (.seq iK.r2 .ret) .skip)) (.seq iK.r3 .ret)))⟩
def eP.r0:ACode:=(.region none [oP 2 (.box (.t 0)),
oP 3 (.box (.t 1)),
oP 4 (.alloc ([.int .i64 0]++List.replicate 32 (.int .u8 0)))])
def eP.r1:ACode:=(.region none [oP 7 (.fieldAddr 0 (.t 2)),
oP 8 (.load none (.t 7)),
oP 9 (.build ([.int .i64 0]++List.replicate 32 (.int .u8 0)) [(0,1, .t 8)]),
oP 5 (.alloc ([.int .i64 0]++List.replicate 32 (.int .u8 0))),
⟨none, .store 33 (.t 5) (.t 9),none⟩])
def eP.r2:ACode:=(.region none [oP 6 (.move (.c (.int .i64 0)))])
def eP.r3:ACode:=(.region none [oM 10 6,
oP 11 (.fieldAddr 0 (.t 2)),
oP 12 (.load none (.t 11)),
oP 13 (.bin .lss (.t 10) (.t 12))])
def eP.r5:ACode:=(.region (some 11) [oM 16 6,
oP 17 (.indexAddr (some 16) 1 (.t 3) (.t 16)),
oP 18 (.load none (.t 17)),
oM 19 6,
oP 20 (.fieldAddr 1 (.t 2)),
oP 21 (.indexAddr (some 16) 1 (.t 20) (.t 19)),
oP 22 (.load none (.t 21)),
oP 23 (.indexAddr (some 16) 1 (.t 3) (.t 22)),
oP 24 (.load none (.t 23)),
oP 25 (.fieldAddr 1 (.t 5)),
oP 26 (.indexAddr (some 16) 1 (.t 25) (.t 18)),
⟨none, .store 1 (.t 26) (.t 24),none⟩])
def eP.r6:ACode:=(.region (some 11) [oM 27 6,
oP 28 (.indexAddr (some 16) 1 (.t 3) (.t 27)),
oP 29 (.load none (.t 28)),
oM 30 6,
oP 31 (.fieldAddr 17 (.t 2)),
oP 32 (.indexAddr (some 16) 1 (.t 31) (.t 30)),
oP 33 (.load none (.t 32)),
oP 34 (.indexAddr (some 16) 1 (.t 3) (.t 33)),
oP 35 (.load none (.t 34)),
oP 36 (.fieldAddr 17 (.t 5)),
oP 37 (.indexAddr (some 16) 1 (.t 36) (.t 29)),
⟨none, .store 1 (.t 37) (.t 35),none⟩])
def eP.r4:ACode:=(.region none [oM 14 6,
oP 15 (.bin .add (.t 14) (.c (.int .i64 1))),
oM 6 15])
def eP.l0:ACode:=(.seq (.seq eP.r3 (.cond (.t 13) .skip (.exit 0))) (.seq (.block 1 (.seq eP.r5 eP.r6)) eP.r4))
def eP.r7:ACode:=(.region none [oP 38 (.load (some 33) (.t 5)),
⟨none, .store 33 (.t 4) (.t 38),none⟩])
def eP:AFunc:=⟨[.cell 4 (some 33)],(.seq eP.r0 (.seq eP.r1 (.seq (.seq eP.r2 (.block 0 (.loop eP.l0))) (.seq eP.r7 .ret))))⟩
def aY.r0:ACode:=(.region none [oP 2 (.box (.t 0)),
oP 4 (.alloc (List.replicate 16 (.int .u8 0)))])
def aY.r1:ACode:=(.region none [oP 12 (.build (List.replicate 16 (.int .u8 0)) []),
oP 13 (.build (List.replicate 16 (.bool false)) []),
oM 14 1,
oP 15 (.conv .u8 (.t 14)),
oP 16 (.buildSlice 1 1 [.int .u8 0] [(0,1, .t 15)]),
oP 5 (.alloc (List.replicate 16 (.int .u8 0))),
oP 6 (.alloc (List.replicate 16 (.bool false))),
⟨none, .store 16 (.t 5) (.t 12),none⟩,
⟨none, .store 16 (.t 6) (.t 13),none⟩,
oM 7 16])
def aY.r2:ACode:=(.region none [oM 17 1,
oP 18 (.indexAddr (some 16) 1 (.t 6) (.t 17)),
⟨none, .store 1 (.t 18) (.c (.bool true)),none⟩])
def aY.r3:ACode:=(.region none [oP 8 (.move (.c (.int .i64 0)))])
def aY.r4:ACode:=(.region none [oM 19 8,
oM 20 7,
oP 21 (.len (.t 20)),
oP 22 (.bin .lss (.t 19) (.t 21))])
def aY.r6:ACode:=(.region none [oM 25 7,
oM 26 8,
oP 27 (.indexAddr none 1 (.t 25) (.t 26)),
oP 28 (.load none (.t 27)),
oM 9 28])
def aY.r7:ACode:=(.region none [oM 29 9,
oM 30 8,
oP 31 (.conv .u8 (.t 30)),
oP 32 (.indexAddr (some 16) 1 (.t 5) (.t 29)),
⟨none, .store 1 (.t 32) (.t 31),none⟩])
def aY.r8:ACode:=(.region none [oP 10 (.move (.c (.int .i64 0)))])
def aY.r9:ACode:=(.region none [oM 33 10,
oP 34 (.bin .lss (.t 33) (.c (.int .i64 2)))])
def aY.r11:ACode:=(.region none [oM 37 9,
oP 38 (.fieldAddr 1 (.t 2)),
oP 39 (.indexAddr (some 16) 1 (.t 38) (.t 37)),
oP 40 (.load none (.t 39)),
oM 11 40])
def aY.r12:ACode:=(.region none [oM 41 10,
oP 42 (.bin .eql (.t 41) (.c (.int .i64 1)))])
def aY.r13:ACode:=(.region none [oM 43 9,
oP 44 (.fieldAddr 17 (.t 2)),
oP 45 (.indexAddr (some 16) 1 (.t 44) (.t 43)),
oP 46 (.load none (.t 45)),
oM 11 46])
def aY.iL:ACode:=(.region none [oM 47 11,
oP 48 (.indexAddr (some 16) 1 (.t 6) (.t 47)),
oP 49 (.load none (.t 48)),
oP 50 (.not (.t 49))])
def aY.kG:ACode:=(.region none [oM 51 11,
oP 52 (.indexAddr (some 16) 1 (.t 6) (.t 51)),
⟨none, .store 1 (.t 52) (.c (.bool true)),none⟩])
def aY.r16:ACode:=(.region none [oM 53 7,
oM 54 11,
oP 55 (.buildSlice 1 1 [.int .u8 0] [(0,1, .t 54)]),
oP 56 (.append 1 1 (.t 53) (.t 55)),
oM 7 56])
def aY.r10:ACode:=(.region none [oM 35 10,
oP 36 (.bin .add (.t 35) (.c (.int .i64 1))),
oM 10 36])
def aY.l0:ACode:=(.seq (.seq aY.r9 (.cond (.t 34) .skip (.exit 2))) (.seq (.block 3 (.seq aY.r11 (.seq (.seq aY.r12 (.cond (.t 42) aY.r13 .skip)) (.seq aY.iL (.cond (.t 50) (.seq aY.kG aY.r16) .skip))))) aY.r10))
def aY.r5:ACode:=(.region none [oM 23 8,
oP 24 (.bin .add (.t 23) (.c (.int .i64 1))),
oM 8 24])
def aY.l1:ACode:=(.seq (.seq aY.r4 (.cond (.t 22) .skip (.exit 0))) (.seq (.block 1 (.seq aY.r6 (.seq aY.r7 (.seq aY.r8 (.block 2 (.loop aY.l0)))))) aY.r5))
def aY.pW:ACode:=(.region none [oP 57 (.load (some 16) (.t 5)),
⟨none, .store 16 (.t 4) (.t 57),none⟩])
def aY:AFunc:=⟨[.cell 4 (some 16)],(.seq aY.r0 (.seq aY.r1 (.seq aY.r2 (.seq (.seq aY.r3 (.block 0 (.loop aY.l1))) (.seq aY.pW .ret)))))⟩
def bJ.r0:ACode:=(.region none [oP 4 (.move (.c (.int .i64 0)))])
def bJ.r1:ACode:=(.region none [oP 11 (.build (List.replicate 16 (.bool false)) [(0,1,(.c (.bool true)))]),
oP 5 (.alloc (List.replicate 16 (.bool false))),
⟨none, .store 16 (.t 5) (.t 11),none⟩])
def bJ.r2:ACode:=(.region none [oP 12 (.buildSlice 1 1 [.int .u8 0] [(0,1,(.c (.int .u8 0)))]),
oM 6 12])
def bJ.r3:ACode:=(.region none [oP 7 (.move (.c (.int .i64 0)))])
def bJ.r4:ACode:=(.region none [oM 13 7,
oM 14 6,
oP 15 (.len (.t 14)),
oP 16 (.bin .lss (.t 13) (.t 15))])
def bJ.r6:ACode:=(.region none [oM 19 1,
oP 20 (.len (.t 19)),
oP 21 (.move (.c (.int .i64 0)))])
def bJ.r7:ACode:=(.region none [oP 22 (.bin .lss (.t 21) (.t 20))])
def bJ.r8:ACode:=(.region none [oP 23 (.indexAddr none 16 (.t 19) (.t 21)),
oP 24 (.load (some 16) (.t 23)),
oP 9 (.alloc (List.replicate 16 (.int .u8 0))),
⟨none, .store 16 (.t 9) (.t 24),none⟩])
def bJ.r9:ACode:=(.region none [oM 25 6,
oM 26 7,
oP 27 (.indexAddr none 1 (.t 25) (.t 26)),
oP 28 (.load none (.t 27)),
oP 29 (.indexAddr (some 16) 1 (.t 9) (.t 28)),
oP 30 (.load none (.t 29)),
oM 10 30])
def bJ.r10:ACode:=(.region none [oM 31 10,
oP 32 (.indexAddr (some 16) 1 (.t 5) (.t 31)),
oP 33 (.load none (.t 32)),
oP 34 (.not (.t 33))])
def bJ.r11:ACode:=(.region none [oM 35 10,
oP 36 (.indexAddr (some 16) 1 (.t 5) (.t 35)),
⟨none, .store 1 (.t 36) (.c (.bool true)),none⟩])
def bJ.r12:ACode:=(.region none [oM 37 6,
oM 38 10,
oP 39 (.buildSlice 1 1 [.int .u8 0] [(0,1, .t 38)]),
oP 40 (.append 1 1 (.t 37) (.t 39)),
oM 6 40])
def bJ.r13:ACode:=(.region none [oP 41 (.bin .add (.t 21) (.c (.int .i64 1))),
oM 21 41])
def bJ.l0:ACode:=(.seq bJ.r7 (.seq (.cond (.t 22) .skip (.exit 2)) (.seq (.block 3 (.seq bJ.r8 (.seq bJ.r9 (.seq bJ.r10 (.cond (.t 34) (.seq bJ.r11 bJ.r12) .skip))))) bJ.r13)))
def bJ.r5:ACode:=(.region none [oM 17 7,
oP 18 (.bin .add (.t 17) (.c (.int .i64 1))),
oM 7 18])
def bJ.l1:ACode:=(.seq (.seq bJ.r4 (.cond (.t 16) .skip (.exit 0))) (.seq (.block 1 (.seq bJ.r6 (.block 2 (.loop bJ.l0)))) bJ.r5))
def bJ.iL:ACode:=(.region none [oM 42 6,
oP 43 (.len (.t 42)),
oM 4 43])
def bJ:AFunc:=⟨[.tmp 4],(.seq bJ.r0 (.seq bJ.r1 (.seq bJ.r2 (.seq (.seq bJ.r3 (.block 0 (.loop bJ.l1))) (.seq bJ.iL .ret)))))⟩
def dZ.r0:ACode:=(.region none [oP 2 (.box (.t 0)),
oP 3 (.box (.t 1)),
oP 4 (.alloc ([.int .i64 0]++List.replicate 32 (.int .u8 0)))])
def dZ.r1:ACode:=(.region none [oP 7 (.fieldAddr 0 (.t 2)),
oP 8 (.load none (.t 7)),
oP 9 (.build ([.int .i64 0]++List.replicate 32 (.int .u8 0)) [(0,1, .t 8)]),
oP 5 (.alloc ([.int .i64 0]++List.replicate 32 (.int .u8 0))),
⟨none, .store 33 (.t 5) (.t 9),none⟩])
def dZ.r2:ACode:=(.region none [oP 10 (.fieldAddr 0 (.t 2)),
oP 11 (.load none (.t 10)),
oP 12 (.move (.c (.int .i64 0)))])
def dZ.r3:ACode:=(.region none [oP 13 (.bin .lss (.t 12) (.t 11))])
def dZ.r4:ACode:=(.region none [oM 14 12,
oM 6 14])
def dZ.r5:ACode:=(.region (some 11) [oM 15 6,
oP 16 (.indexAddr (some 16) 1 (.t 3) (.t 15)),
oP 17 (.load none (.t 16)),
oM 18 6,
oP 19 (.fieldAddr 1 (.t 2)),
oP 20 (.indexAddr (some 16) 1 (.t 19) (.t 18)),
oP 21 (.load none (.t 20)),
oP 22 (.indexAddr (some 16) 1 (.t 3) (.t 21)),
oP 23 (.load none (.t 22)),
oP 24 (.fieldAddr 1 (.t 5)),
oP 25 (.indexAddr (some 16) 1 (.t 24) (.t 17)),
⟨none, .store 1 (.t 25) (.t 23),none⟩])
def dZ.r6:ACode:=(.region (some 11) [oM 26 6,
oP 27 (.indexAddr (some 16) 1 (.t 3) (.t 26)),
oP 28 (.load none (.t 27)),
oM 29 6,
oP 30 (.fieldAddr 17 (.t 2)),
oP 31 (.indexAddr (some 16) 1 (.t 30) (.t 29)),
oP 32 (.load none (.t 31)),
oP 33 (.indexAddr (some 16) 1 (.t 3) (.t 32)),
oP 34 (.load none (.t 33)),
oP 35 (.fieldAddr 17 (.t 5)),
oP 36 (.indexAddr (some 16) 1 (.t 35) (.t 28)),
⟨none, .store 1 (.t 36) (.t 34),none⟩])
def dZ.r7:ACode:=(.region none [oP 37 (.bin .add (.t 12) (.c (.int .i64 1))),
oM 12 37])
def dZ.l0:ACode:=(.seq dZ.r3 (.seq (.cond (.t 13) .skip (.exit 0)) (.seq (.block 1 (.seq dZ.r4 (.seq dZ.r5 dZ.r6))) dZ.r7)))
def dZ.r8:ACode:=(.region none [oP 38 (.load (some 33) (.t 5)),
⟨none, .store 33 (.t 4) (.t 38),none⟩])
def dZ:AFunc:=⟨[.cell 4 (some 33)],(.seq dZ.r0 (.seq dZ.r1 (.seq (.seq dZ.r2 (.block 0 (.loop dZ.l0))) (.seq dZ.r8 .ret))))⟩
def eU.r0:ACode:=(.region none [oP 2 (.box (.t 0)),
oP 4 (.alloc (List.replicate 16 (.int .u8 0)))])
def eU.r1:ACode:=(.region none [oP 8 (.build (List.replicate 16 (.int .u8 0)) []),
oP 5 (.alloc (List.replicate 16 (.int .u8 0))),
⟨none, .store 16 (.t 5) (.t 8),none⟩])
def eU.r2:ACode:=(.region none [oP 9 (.load (some 33) (.t 2)),
oM 10 1,
oP 11 (.call 221 [.t 9, .t 10]),
oP 12 (.len (.t 11)),
oP 13 (.move (.c (.int .i64 0)))])
def eU.r3:ACode:=(.region none [oP 14 (.bin .lss (.t 13) (.t 12))])
def eU.r4:ACode:=(.region none [oM 15 13,
oP 16 (.indexAddr none 1 (.t 11) (.t 13)),
oP 17 (.load none (.t 16)),
oM 6 15,
oM 7 17])
def eU.r5:ACode:=(.region none [oM 18 7,
oM 19 6,
oP 20 (.conv .u8 (.t 19)),
oP 21 (.indexAddr (some 16) 1 (.t 5) (.t 18)),
⟨none, .store 1 (.t 21) (.t 20),none⟩])
def eU.r6:ACode:=(.region none [oP 22 (.bin .add (.t 13) (.c (.int .i64 1))),
oM 13 22])
def eU.l0:ACode:=(.seq eU.r3 (.seq (.cond (.t 14) .skip (.exit 0)) (.seq (.block 1 (.seq eU.r4 eU.r5)) eU.r6)))
def eU.r7:ACode:=(.region none [oP 23 (.load (some 16) (.t 5)),
⟨none, .store 16 (.t 4) (.t 23),none⟩])
def eU:AFunc:=⟨[.cell 4 (some 16)],(.seq eU.r0 (.seq eU.r1 (.seq (.seq eU.r2 (.block 0 (.loop eU.l0))) (.seq eU.r7 .ret))))⟩
def jM.r0:ACode:=(.region none [oP 2 (.box (.t 0)),
oP 3 (.box (.t 1)),
oP 4 (.move (.c (.int .i64 0)))])
def jM.r1:ACode:=(.region (some 4) [oP 5 (.sliceArr 16 1 (.t 2) none none),
oP 6 (.sliceArr 16 1 (.t 3) none none),
oP 7 (.call 226 [.t 5, .t 6]),
oM 4 7])
def jM:AFunc:=⟨[.tmp 4],(.seq jM.r0 (.seq jM.r1 .ret))⟩
def fF.r0:ACode:=(.region none [oP 2 (.box (.t 0)),
oP 3 (.box (.t 1)),
oP 4 (.move (.c (.bool false)))])
def fF.r1:ACode:=(.region none [oP 5 (.move (.c (.int .i64 0)))])
def fF.r2:ACode:=(.region none [oM 6 5,
oP 7 (.bin .lss (.t 6) (.c (.int .i64 16)))])
def fF.r4:ACode:=(.region (some 7) [oM 10 5,
oP 11 (.indexAddr (some 16) 1 (.t 2) (.t 10)),
oP 12 (.load none (.t 11)),
oM 13 5,
oP 14 (.indexAddr (some 16) 1 (.t 3) (.t 13)),
oP 15 (.load none (.t 14)),
oP 16 (.bin .neq (.t 12) (.t 15))])
def fF.r5:ACode:=(.region (some 8) [oM 17 5,
oP 18 (.indexAddr (some 16) 1 (.t 2) (.t 17)),
oP 19 (.load none (.t 18)),
oM 20 5,
oP 21 (.indexAddr (some 16) 1 (.t 3) (.t 20)),
oP 22 (.load none (.t 21)),
oP 23 (.bin .lss (.t 19) (.t 22)),
oM 4 23])
def fF.r3:ACode:=(.region none [oM 8 5,
oP 9 (.bin .add (.t 8) (.c (.int .i64 1))),
oM 5 9])
def fF.l0:ACode:=(.seq (.seq fF.r2 (.cond (.t 7) .skip (.exit 0))) (.seq (.block 1 (.seq fF.r4 (.cond (.t 16) (.seq fF.r5 .ret) .skip))) fF.r3))
def fF.r6:ACode:=(.region none [oP 4 (.move (.c (.bool false)))])
def fF:AFunc:=⟨[.tmp 4],(.seq fF.r0 (.seq (.seq fF.r1 (.block 0 (.loop fF.l0))) (.seq fF.r6 .ret)))⟩
def bK.r0:ACode:=(.region none [oP 2 (.box (.t 0)),
oP 4 (.move (.c (.slice none 0 0)))])
def bK.r1:ACode:=(.region none [oP 10 (.build (List.replicate 16 (.bool false)) []),
oP 5 (.alloc (List.replicate 16 (.bool false))),
⟨none, .store 16 (.t 5) (.t 10),none⟩])
def bK.r2:ACode:=(.region none [oM 11 1,
oP 12 (.indexAddr (some 16) 1 (.t 5) (.t 11)),
⟨none, .store 1 (.t 12) (.c (.bool true)),none⟩])
def bK.r3:ACode:=(.region none [oM 13 1,
oP 14 (.conv .u8 (.t 13)),
oP 15 (.buildSlice 1 1 [.int .u8 0] [(0,1, .t 14)]),
oM 6 15])
def bK.r4:ACode:=(.region none [oP 7 (.move (.c (.int .i64 0)))])
def bK.r5:ACode:=(.region none [oM 16 7,
oM 17 6,
oP 18 (.len (.t 17)),
oP 19 (.bin .lss (.t 16) (.t 18))])
def bK.r7:ACode:=(.region (some 17) [oM 22 6,
oM 23 7,
oP 24 (.indexAddr none 1 (.t 22) (.t 23)),
oP 25 (.load none (.t 24)),
oP 26 (.fieldAddr 1 (.t 2)),
oP 27 (.indexAddr (some 16) 1 (.t 26) (.t 25)),
oP 28 (.load none (.t 27)),
oM 29 6,
oM 30 7,
oP 31 (.indexAddr none 1 (.t 29) (.t 30)),
oP 32 (.load none (.t 31)),
oP 33 (.fieldAddr 17 (.t 2)),
oP 34 (.indexAddr (some 16) 1 (.t 33) (.t 32)),
oP 35 (.load none (.t 34)),
oP 36 (.buildSlice 1 2 [.int .u8 0] [(0,1, .t 28),(1,1, .t 35)]),
oP 37 (.len (.t 36)),
oP 38 (.move (.c (.int .i64 0)))])
def bK.r8:ACode:=(.region none [oP 39 (.bin .lss (.t 38) (.t 37))])
def bK.r9:ACode:=(.region none [oP 40 (.indexAddr none 1 (.t 36) (.t 38)),
oP 41 (.load none (.t 40)),
oM 9 41])
def bK.r10:ACode:=(.region none [oM 42 9,
oP 43 (.indexAddr (some 16) 1 (.t 5) (.t 42)),
oP 44 (.load none (.t 43)),
oP 45 (.not (.t 44))])
def bK.r11:ACode:=(.region none [oM 46 9,
oP 47 (.indexAddr (some 16) 1 (.t 5) (.t 46)),
⟨none, .store 1 (.t 47) (.c (.bool true)),none⟩])
def bK.r12:ACode:=(.region none [oM 48 6,
oM 49 9,
oP 50 (.buildSlice 1 1 [.int .u8 0] [(0,1, .t 49)]),
oP 51 (.append 1 1 (.t 48) (.t 50)),
oM 6 51])
def bK.r13:ACode:=(.region none [oP 52 (.bin .add (.t 38) (.c (.int .i64 1))),
oM 38 52])
def bK.l0:ACode:=(.seq bK.r8 (.seq (.cond (.t 39) .skip (.exit 2)) (.seq (.block 3 (.seq bK.r9 (.seq bK.r10 (.cond (.t 45) (.seq bK.r11 bK.r12) .skip)))) bK.r13)))
def bK.r6:ACode:=(.region none [oM 20 7,
oP 21 (.bin .add (.t 20) (.c (.int .i64 1))),
oM 7 21])
def bK.l1:ACode:=(.seq (.seq bK.r5 (.cond (.t 19) .skip (.exit 0))) (.seq (.block 1 (.seq bK.r7 (.block 2 (.loop bK.l0)))) bK.r6))
def bK.iL:ACode:=(.region none [oM 53 6,
oM 4 53])
def bK:AFunc:=⟨[.tmp 4],(.seq bK.r0 (.seq bK.r1 (.seq bK.r2 (.seq bK.r3 (.seq (.seq bK.r4 (.block 0 (.loop bK.l1))) (.seq bK.iL .ret))))))⟩
end Go.Am
