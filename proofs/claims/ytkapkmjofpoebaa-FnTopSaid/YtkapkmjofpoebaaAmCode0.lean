/- The code of the functions that the claim reaches, in the small machine's form: written by a program of mine, off the loaded program; the checks compare the two. -/
import Derived.Test.YtkapkmjofpoebaaAmCore
set_option linter.unusedVariables false
set_option maxRecDepth 100000
namespace Go.Am
open Go
def aT.r0:aj:=(.region none [oP 2 (.move (.c (.bool false)))])
def aT.r1:aj:=(.region none [oM 40 0,
oP 41 (.call 41 [.t 40])])
def aT.r2:aj:=(.region none [oP 2 (.move (.c (.bool true)))])
def aT.r3:aj:=(.region none [oM 42 0,
oP 43 (.call 399 [.t 42]),
oP 3 (.alloc ([.int .i64 0]++List.replicate 32 (.int .u8 0))),
⟨none, .store 33 (.t 3) (.t 43),none⟩])
def aT.r4:aj:=(.region none [oP 45 (.load (some 33) (.t 3)),
oP 46 (.call 330 [.t 45]),
oM 44 46,
oP 47 (.extract (.t 44) 0),
oP 48 (.extract (.t 44) 1),
oM 4 47,
oM 5 48])
def aT.r5:aj:=(.region none [oP 50 (.load (some 33) (.t 3)),
oP 51 (.call 400 [.t 50]),
oM 49 51,
oP 52 (.extract (.t 49) 0),
oP 53 (.extract (.t 49) 1),
oM 6 52,
oM 7 53])
def aT.r6:aj:=(.region none [oM 54 5,
oM 55 7,
oP 56 (.bin .neq (.t 54) (.t 55)),
oM 57 56,
⟨some 58, .move (.t 4),some (57,false)⟩,
⟨some 59, .move (.t 6),some (57,false)⟩,
⟨some 60, .call 401 [.t 58, .t 59],some (57,false)⟩,
⟨some 61, .not (.t 60),some (57,false)⟩,
oP 62 (.pick (.t 57) (.c (.bool true)) (.t 61))])
def aT.r7:aj:=(.region none [oP 2 (.move (.c (.bool false)))])
def aT.r8:aj:=(.region none [oM 63 5,
oP 64 (.bin .neq (.t 63) (.c (.int .i64 0)))])
def aT.r9:aj:=(.region none [oP 2 (.move (.c (.bool true)))])
def aT.r10:aj:=(.region none [oM 65 0,
oP 66 (.call 47 [.t 65,(.c (.int .u64 950))]),
oM 8 66])
def aT.r11:aj:=(.region none [oP 67 (.build (List.replicate 16 (.int .u8 0)) []),
oP 9 (.alloc (List.replicate 16 (.int .u8 0))),
⟨none, .store 16 (.t 9) (.t 67),none⟩])
def aT.r12:aj:=(.region none [oP 10 (.move (.c (.int .i64 0)))])
def aT.r13:aj:=(.region none [oM 68 10,
oP 69 (.fieldAddr 0 (.t 3)),
oP 70 (.load none (.t 69)),
oP 71 (.bin .lss (.t 68) (.t 70))])
def aT.jR:aj:=(.region none [oM 74 10,
oM 75 10,
oP 76 (.conv .u8 (.t 75)),
oP 77 (.indexAddr (some 16) 1 (.t 9) (.t 74)),
⟨none, .store 1 (.t 77) (.t 76),none⟩])
def aT.gQ:aj:=(.region none [oM 72 10,
oP 73 (.bin .add (.t 72) (.c (.int .i64 1))),
oM 10 73])
def aT.l0:aj:=(.seq (.seq aT.r13 (.cond (.t 71) .skip (.exit 0))) (.seq (.block 1 aT.jR) aT.gQ))
def aT.r16:aj:=(.region none [oP 78 (.fieldAddr 0 (.t 3)),
oP 79 (.load none (.t 78)),
oP 80 (.bin .sub (.t 79) (.c (.int .i64 1))),
oM 11 80])
def aT.kT:aj:=(.region none [oM 81 11,
oP 82 (.bin .gtr (.t 81) (.c (.int .i64 0)))])
def aT.lF:aj:=(.region none [oM 85 8,
oM 86 11,
oP 87 (.bin .add (.t 86) (.c (.int .i64 1))),
oP 88 (.call 48 [.t 85, .t 87]),
oM 12 88])
def aT.nS:aj:=(.region none [oM 89 11,
oP 90 (.indexAddr (some 16) 1 (.t 9) (.t 89)),
oP 91 (.load none (.t 90)),
oM 13 91])
def aT.ng:aj:=(.region none [oM 92 11,
oM 93 12,
oP 94 (.indexAddr (some 16) 1 (.t 9) (.t 93)),
oP 95 (.load none (.t 94)),
oP 96 (.indexAddr (some 16) 1 (.t 9) (.t 92)),
⟨none, .store 1 (.t 96) (.t 95),none⟩])
def aT.r22:aj:=(.region none [oM 97 12,
oM 98 13,
oP 99 (.indexAddr (some 16) 1 (.t 9) (.t 97)),
⟨none, .store 1 (.t 99) (.t 98),none⟩])
def aT.lY:aj:=(.region none [oM 83 11,
oP 84 (.bin .sub (.t 83) (.c (.int .i64 1))),
oM 11 84])
def aT.l1:aj:=(.seq (.seq aT.kT (.cond (.t 82) .skip (.exit 2))) (.seq (.block 3 (.seq aT.lF (.seq aT.nS (.seq aT.ng aT.r22)))) aT.lY))
def aT.vN:aj:=(.region none [oP 100 (.fieldAddr 0 (.t 3)),
oP 101 (.load none (.t 100)),
oP 102 (.build ([.int .i64 0]++List.replicate 32 (.int .u8 0)) [(0,1, .t 101)]),
oP 14 (.alloc ([.int .i64 0]++List.replicate 32 (.int .u8 0))),
⟨none, .store 33 (.t 14) (.t 102),none⟩])
def aT.zQ:aj:=(.region none [oP 15 (.move (.c (.int .i64 0)))])
def aT.r25:aj:=(.region none [oM 103 15,
oP 104 (.fieldAddr 0 (.t 3)),
oP 105 (.load none (.t 104)),
oP 106 (.bin .lss (.t 103) (.t 105))])
def aT.r27:aj:=(.region (some 11) [oM 109 15,
oP 110 (.indexAddr (some 16) 1 (.t 9) (.t 109)),
oP 111 (.load none (.t 110)),
oM 112 15,
oP 113 (.fieldAddr 1 (.t 3)),
oP 114 (.indexAddr (some 16) 1 (.t 113) (.t 112)),
oP 115 (.load none (.t 114)),
oP 116 (.indexAddr (some 16) 1 (.t 9) (.t 115)),
oP 117 (.load none (.t 116)),
oP 118 (.fieldAddr 1 (.t 14)),
oP 119 (.indexAddr (some 16) 1 (.t 118) (.t 111)),
⟨none, .store 1 (.t 119) (.t 117),none⟩])
def aT.r28:aj:=(.region (some 11) [oM 120 15,
oP 121 (.indexAddr (some 16) 1 (.t 9) (.t 120)),
oP 122 (.load none (.t 121)),
oM 123 15,
oP 124 (.fieldAddr 17 (.t 3)),
oP 125 (.indexAddr (some 16) 1 (.t 124) (.t 123)),
oP 126 (.load none (.t 125)),
oP 127 (.indexAddr (some 16) 1 (.t 9) (.t 126)),
oP 128 (.load none (.t 127)),
oP 129 (.fieldAddr 17 (.t 14)),
oP 130 (.indexAddr (some 16) 1 (.t 129) (.t 122)),
⟨none, .store 1 (.t 130) (.t 128),none⟩])
def aT.Gz:aj:=(.region none [oM 107 15,
oP 108 (.bin .add (.t 107) (.c (.int .i64 1))),
oM 15 108])
def aT.l2:aj:=(.seq (.seq aT.r25 (.cond (.t 106) .skip (.exit 4))) (.seq (.block 5 (.seq aT.r27 aT.r28)) aT.Gz))
def aT.DW:aj:=(.region none [oP 132 (.load (some 33) (.t 14)),
oP 133 (.call 330 [.t 132]),
oM 131 133,
oP 134 (.extract (.t 131) 0),
oP 135 (.extract (.t 131) 1),
oM 16 134,
oM 17 135])
def aT.DX:aj:=(.region none [oP 137 (.load (some 33) (.t 3)),
oP 138 (.load (some 33) (.t 14)),
oP 139 (.call 158 [.t 137, .t 138]),
oM 136 139,
oP 140 (.extract (.t 136) 0),
oP 141 (.extract (.t 136) 1),
oM 18 140,
oM 19 141])
def aT.MP:aj:=(.region none [oP 143 (.load (some 33) (.t 3)),
oP 144 (.call 328 [.t 143]),
oM 142 144,
oP 145 (.extract (.t 142) 0),
oP 146 (.extract (.t 142) 1),
oP 20 (.alloc ([.int .i64 0]++List.replicate 32 (.int .u8 0))),
⟨none, .store 33 (.t 20) (.t 145),none⟩,
oM 21 146])
def aT.r32:aj:=(.region none [oP 148 (.load (some 33) (.t 14)),
oP 149 (.call 328 [.t 148]),
oM 147 149,
oP 150 (.extract (.t 147) 0),
oP 151 (.extract (.t 147) 1),
oP 22 (.alloc ([.int .i64 0]++List.replicate 32 (.int .u8 0))),
⟨none, .store 33 (.t 22) (.t 150),none⟩,
oM 23 151])
def aT.MQ:aj:=(.region none [oP 153 (.load (some 33) (.t 3)),
oP 154 (.call 402 [.t 153]),
oM 152 154,
oP 155 (.extract (.t 152) 0),
oP 156 (.extract (.t 152) 1),
oM 24 155,
oM 25 156])
def aT.MR:aj:=(.region none [oP 158 (.load (some 33) (.t 14)),
oP 159 (.call 402 [.t 158]),
oM 157 159,
oP 160 (.extract (.t 157) 0),
oP 161 (.extract (.t 157) 1),
oM 26 160,
oM 27 161])
def aT.MS:aj:=(.region none [oM 162 17,
oP 163 (.bin .neq (.t 162) (.c (.int .i64 0))),
oM 164 163,
⟨some 165, .move (.t 19),some (164,false)⟩,
⟨some 166, .bin .neq (.t 165) (.c (.int .i64 0)),some (164,false)⟩,
oP 167 (.pick (.t 164) (.c (.bool true)) (.t 166)),
oM 168 167,
⟨some 169, .move (.t 21),some (168,false)⟩,
⟨some 170, .bin .neq (.t 169) (.c (.int .i64 0)),some (168,false)⟩,
oP 171 (.pick (.t 168) (.c (.bool true)) (.t 170)),
oM 172 171,
⟨some 173, .move (.t 23),some (172,false)⟩,
⟨some 174, .bin .neq (.t 173) (.c (.int .i64 0)),some (172,false)⟩,
oP 175 (.pick (.t 172) (.c (.bool true)) (.t 174)),
oM 176 175,
⟨some 177, .move (.t 25),some (176,false)⟩,
⟨some 178, .bin .neq (.t 177) (.c (.int .i64 0)),some (176,false)⟩,
oP 179 (.pick (.t 176) (.c (.bool true)) (.t 178)),
oM 180 179,
⟨some 181, .move (.t 27),some (180,false)⟩,
⟨some 182, .bin .neq (.t 181) (.c (.int .i64 0)),some (180,false)⟩,
oP 183 (.pick (.t 180) (.c (.bool true)) (.t 182)),
oM 184 183,
⟨some 185, .move (.t 4),some (184,false)⟩,
⟨some 186, .move (.t 16),some (184,false)⟩,
⟨some 187, .call 401 [.t 185, .t 186],some (184,false)⟩,
⟨some 188, .not (.t 187),some (184,false)⟩,
oP 189 (.pick (.t 184) (.c (.bool true)) (.t 188)),
oM 190 189,
⟨some 191, .move (.t 18),some (190,false)⟩,
⟨some 192, .not (.t 191),some (190,false)⟩,
oP 193 (.pick (.t 190) (.c (.bool true)) (.t 192)),
oM 194 193,
⟨some 195, .load (some 33) (.t 20),some (194,false)⟩,
⟨some 196, .load (some 33) (.t 22),some (194,false)⟩,
⟨some 197, .qH true 33 (.t 195) (.t 196),some (194,false)⟩,
oP 198 (.pick (.t 194) (.c (.bool true)) (.t 197)),
oM 199 198,
⟨some 200, .move (.t 24),some (199,false)⟩,
⟨some 201, .move (.t 26),some (199,false)⟩,
⟨some 202, .bin .neq (.t 200) (.t 201),some (199,false)⟩,
oP 203 (.pick (.t 199) (.c (.bool true)) (.t 202))])
def aT.MV:aj:=(.region none [oP 2 (.move (.c (.bool false)))])
def aT.MW:aj:=(.region none [oP 205 (.load (some 33) (.t 3)),
oP 206 (.call 151 [.t 205,(.c (.int .i64 2))]),
oM 204 206,
oP 207 (.extract (.t 204) 0),
oP 208 (.extract (.t 204) 1),
oP 28 (.alloc ([.int .i64 0]++List.replicate 32 (.int .u8 0))),
⟨none, .store 33 (.t 28) (.t 207),none⟩,
oM 29 208])
def aT.MX:aj:=(.region none [oP 210 (.load (some 33) (.t 28)),
oP 211 (.call 330 [.t 210]),
oM 209 211,
oP 212 (.extract (.t 209) 0),
oP 213 (.extract (.t 209) 1),
oM 30 212,
oM 31 213])
def aT.MZ:aj:=(.region (some 41) [oM 214 29,
oP 215 (.bin .neq (.t 214) (.c (.int .i64 0))),
oM 216 215,
⟨some 217, .move (.t 31),some (216,false)⟩,
⟨some 218, .bin .neq (.t 217) (.c (.int .i64 0)),some (216,false)⟩,
oP 219 (.pick (.t 216) (.c (.bool true)) (.t 218)),
oM 220 219,
⟨some 221, .move (.t 30),some (220,false)⟩,
⟨some 222, .len (.t 221),some (220,false)⟩,
⟨some 223, .bin .neq (.t 222) (.c (.int .i64 3)),some (220,false)⟩,
oP 224 (.pick (.t 220) (.c (.bool true)) (.t 223)),
oM 225 224,
⟨some 226, .move (.t 30),some (225,false)⟩,
⟨some 227, .indexAddr none 1 (.t 226) (.c (.int .i64 0)),some (225,false)⟩,
⟨some 228, .load none (.t 227),some (225,false)⟩,
⟨some 229, .move (.t 4),some (225,false)⟩,
⟨some 230, .indexAddr none 1 (.t 229) (.c (.int .i64 1)),some (225,false)⟩,
⟨some 231, .load none (.t 230),some (225,false)⟩,
⟨some 232, .call 43 [.t 228, .t 231],some (225,false)⟩,
⟨some 233, .not (.t 232),some (225,false)⟩,
oP 234 (.pick (.t 225) (.c (.bool true)) (.t 233)),
oM 235 234,
⟨some 236, .move (.t 30),some (235,false)⟩,
⟨some 237, .indexAddr none 1 (.t 236) (.c (.int .i64 1)),some (235,false)⟩,
⟨some 238, .load none (.t 237),some (235,false)⟩,
⟨some 239, .move (.t 4),some (235,false)⟩,
⟨some 240, .indexAddr none 1 (.t 239) (.c (.int .i64 2)),some (235,false)⟩,
⟨some 241, .load none (.t 240),some (235,false)⟩,
⟨some 242, .call 43 [.t 238, .t 241],some (235,false)⟩,
⟨some 243, .not (.t 242),some (235,false)⟩,
oP 244 (.pick (.t 235) (.c (.bool true)) (.t 243)),
oM 245 244,
⟨some 246, .move (.t 30),some (245,false)⟩,
⟨some 247, .indexAddr none 1 (.t 246) (.c (.int .i64 2)),some (245,false)⟩,
⟨some 248, .load none (.t 247),some (245,false)⟩,
⟨some 249, .move (.t 4),some (245,false)⟩,
⟨some 250, .indexAddr none 1 (.t 249) (.c (.int .i64 0)),some (245,false)⟩,
⟨some 251, .load none (.t 250),some (245,false)⟩,
⟨some 252, .call 43 [.t 248, .t 251],some (245,false)⟩,
⟨some 253, .not (.t 252),some (245,false)⟩,
oP 254 (.pick (.t 245) (.c (.bool true)) (.t 253))])
def aT.Na:aj:=(.region none [oP 2 (.move (.c (.bool false)))])
def aT.Nb:aj:=(.region none [oP 256 (.load (some 33) (.t 3)),
oP 257 (.call 403 [.t 256]),
oM 255 257,
oP 258 (.extract (.t 255) 0),
oP 259 (.extract (.t 255) 1),
oM 32 258,
oM 33 259])
def aT.Nc:aj:=(.region none [oM 260 33,
oP 261 (.bin .neq (.t 260) (.c (.int .i64 0)))])
def aT.Nh:aj:=(.region none [oP 2 (.move (.c (.bool false)))])
def aT.Nj:aj:=(.region none [oP 262 (.fieldAddr 0 (.t 3)),
oP 263 (.load none (.t 262)),
oP 264 (.bin .gtr (.t 263) (.c (.int .i64 8)))])
def aT.Nk:aj:=(.region none [oP 2 (.move (.c (.bool true)))])
def aT.Nl:aj:=(.region none [oP 266 (.load (some 33) (.t 3)),
oP 267 (.call 145 [.t 266]),
oM 265 267,
oP 268 (.extract (.t 265) 0),
oP 269 (.extract (.t 265) 1),
oP 34 (.alloc ([.int .i64 0]++List.replicate 32 (.int .u8 0))),
⟨none, .store 33 (.t 34) (.t 268),none⟩,
oM 35 269])
def aT.Np:aj:=(.region none [oP 271 (.load (some 33) (.t 34)),
oP 272 (.call 179 [.t 271]),
oM 270 272,
oP 273 (.extract (.t 270) 0),
oP 274 (.extract (.t 270) 1),
oP 36 (.alloc ([.int .i64 0]++List.replicate 96 (.int .u8 0))),
⟨none, .store 97 (.t 36) (.t 273),none⟩,
oM 37 274])
def aT.Nq:aj:=(.region none [oP 276 (.load (some 97) (.t 36)),
oP 277 (.call 137 [.t 276]),
oM 275 277,
oP 278 (.extract (.t 275) 0),
oP 279 (.extract (.t 275) 1),
oM 38 278,
oM 39 279])
def aT.Nr:aj:=(.region none [oM 280 35,
oP 281 (.bin .eql (.t 280) (.c (.int .i64 0))),
oM 282 281,
⟨some 283, .move (.t 37),some (282,true)⟩,
⟨some 284, .bin .eql (.t 283) (.c (.int .i64 0)),some (282,true)⟩,
oP 285 (.pick (.t 282) (.t 284) (.c (.bool false))),
oM 286 285,
⟨some 287, .move (.t 39),some (286,true)⟩,
⟨some 288, .bin .eql (.t 287) (.c (.int .i64 0)),some (286,true)⟩,
oP 289 (.pick (.t 286) (.t 288) (.c (.bool false))),
oM 290 289,
⟨some 291, .move (.t 38),some (290,true)⟩,
⟨some 292, .move (.t 32),some (290,true)⟩,
⟨some 293, .bin .mul (.c (.int .i64 2)) (.t 292),some (290,true)⟩,
⟨some 294, .bin .sub (.c (.int .i64 2)) (.t 293),some (290,true)⟩,
⟨some 295, .bin .eql (.t 291) (.t 294),some (290,true)⟩,
oP 296 (.pick (.t 290) (.t 295) (.c (.bool false))),
oM 2 296])
def aT:bg:=⟨[.tmp 2],(.seq aT.r0 (.seq (.seq aT.r1 (.cond (.t 41) (.seq aT.r2 .ret) .skip)) (.seq aT.r3 (.seq aT.r4 (.seq aT.r5 (.seq (.seq aT.r6 (.cond (.t 62) (.seq aT.r7 .ret) .skip)) (.seq (.seq aT.r8 (.cond (.t 64) (.seq aT.r9 .ret) .skip)) (.seq aT.r10 (.seq aT.r11 (.seq (.seq aT.r12 (.block 0 (.loop aT.l0))) (.seq (.seq aT.r16 (.block 2 (.loop aT.l1))) (.seq aT.vN (.seq (.seq aT.zQ (.block 4 (.loop aT.l2))) (.seq aT.DW (.seq aT.DX (.seq aT.MP (.seq aT.r32 (.seq aT.MQ (.seq aT.MR (.seq (.seq aT.MS (.cond (.t 203) (.seq aT.MV .ret) .skip)) (.seq aT.MW (.seq aT.MX (.seq (.seq aT.MZ (.cond (.t 254) (.seq aT.Na .ret) .skip)) (.seq aT.Nb (.seq (.seq aT.Nc (.cond (.t 261) (.seq aT.Nh .ret) .skip)) (.seq (.seq aT.Nj (.cond (.t 264) (.seq aT.Nk .ret) .skip)) (.seq aT.Nl (.seq aT.Np (.seq aT.Nq (.seq aT.Nr .ret))))))))))))))))))))))))))))))⟩
def tC.r0:aj:=(.region none [oP 2 (.move (.c (.bool false)))])
def tC.r1:aj:=(.region none [oM 3 0,
oP 4 (.len (.t 3)),
oP 5 (.bin .gtr (.t 4) (.c (.int .i64 4096))),
oM 2 5])
def tC:bg:=⟨[.tmp 2],(.seq tC.r0 (.seq tC.r1 .ret))⟩
def tH.r0:aj:=(.region none [oP 2 (.alloc ([.int .i64 0]++List.replicate 32 (.int .u8 0)))])
def tH.r1:aj:=(.region none [oM 3 0,
oP 4 (.call 97 [.t 3]),
oP 5 (.call 374 [.t 4,(.c (.int .i64 16))]),
⟨none, .store 33 (.t 2) (.t 5),none⟩])
def tH:bg:=⟨[.cell 2 (some 33)],(.seq tH.r0 (.seq tH.r1 .ret))⟩
def oz.r0:aj:=(.region none [oP 1 (.box (.t 0)),
oP 2 (.move (.c (.slice none 0 0))),
oP 3 (.move (.c (.int .i64 0)))])
def oz.r1:aj:=(.region none [oP 4 (.load (some 33) (.t 1)),
oP 5 (.call 187 [.t 4]),
oP 6 (.not (.t 5))])
def oz.r2:aj:=(.region none [oP 2 (.move (.c (.slice none 0 0))),
oP 3 (.move (.c (.int .i64 1)))])
def oz.r3:aj:=(.region none [oP 7 (.load (some 33) (.t 1)),
oP 8 (.call 280 [.t 7]),
oM 2 8,
oP 3 (.move (.c (.int .i64 0)))])
def oz:bg:=⟨[.tmp 2, .tmp 3],(.seq oz.r0 (.seq (.seq oz.r1 (.cond (.t 6) (.seq oz.r2 .ret) .skip)) (.seq oz.r3 .ret)))⟩
def oC.r0:aj:=(.region none [oP 1 (.box (.t 0)),
oP 2 (.move (.c (.slice none 0 0))),
oP 3 (.move (.c (.int .i64 0)))])
def oC.r1:aj:=(.region none [oP 4 (.load (some 33) (.t 1)),
oP 5 (.call 184 [.t 4]),
oP 6 (.not (.t 5))])
def oC.r2:aj:=(.region none [oP 2 (.move (.c (.slice none 0 0))),
oP 3 (.move (.c (.int .i64 1)))])
def oC.r3:aj:=(.region none [oP 7 (.load (some 33) (.t 1)),
oP 8 (.call 279 [.t 7]),
oM 2 8,
oP 3 (.move (.c (.int .i64 0)))])
def oC:bg:=⟨[.tmp 2, .tmp 3],(.seq oC.r0 (.seq (.seq oC.r1 (.cond (.t 6) (.seq oC.r2 .ret) .skip)) (.seq oC.r3 .ret)))⟩
def iY.r0:aj:=(.region none [oP 4 (.move (.c (.bool false)))])
def iY.r1:aj:=(.region none [oM 6 0,
oP 7 (.len (.t 6)),
oM 8 1,
oP 9 (.len (.t 8)),
oP 10 (.bin .neq (.t 7) (.t 9))])
def iY.r2:aj:=(.region none [oP 4 (.move (.c (.bool false)))])
def iY.r3:aj:=(.region none [oP 5 (.move (.c (.int .i64 0)))])
def iY.r4:aj:=(.region none [oM 11 5,
oM 12 0,
oP 13 (.len (.t 12)),
oP 14 (.bin .lss (.t 11) (.t 13))])
def iY.r6:aj:=(.region (some 10) [oM 17 0,
oM 18 5,
oP 19 (.indexAddr none 1 (.t 17) (.t 18)),
oP 20 (.load none (.t 19)),
oM 21 1,
oM 22 5,
oP 23 (.indexAddr none 1 (.t 21) (.t 22)),
oP 24 (.load none (.t 23)),
oP 25 (.call 43 [.t 20, .t 24]),
oP 26 (.not (.t 25))])
def iY.r7:aj:=(.region none [oP 4 (.move (.c (.bool false)))])
def iY.r5:aj:=(.region none [oM 15 5,
oP 16 (.bin .add (.t 15) (.c (.int .i64 1))),
oM 5 16])
def iY.l0:aj:=(.seq (.seq iY.r4 (.cond (.t 14) .skip (.exit 0))) (.seq (.block 1 (.seq iY.r6 (.cond (.t 26) (.seq iY.r7 .ret) .skip))) iY.r5))
def iY.r8:aj:=(.region none [oP 4 (.move (.c (.bool true)))])
def iY:bg:=⟨[.tmp 4],(.seq iY.r0 (.seq (.seq iY.r1 (.cond (.t 10) (.seq iY.r2 .ret) .skip)) (.seq (.seq iY.r3 (.block 0 (.loop iY.l0))) (.seq iY.r8 .ret))))⟩
def jK.r0:aj:=(.region none [oP 4 (.move (.c (.pointer none)))])
def jK.r1:aj:=(.region none [oM 7 0,
oM 8 1,
oP 9 (.bin .mul (.t 8) (.c (.int .u64 6257))),
oM 10 0,
oP 11 (.len (.t 10)),
oP 12 (.conv .u64 (.t 11)),
oP 13 (.bin .add (.t 9) (.t 12)),
oP 14 (.build ([.slice none 0 0]++[.int .i64 0]++[.int .u64 0]) [(0,1, .t 7),(2,1, .t 13)]),
oP 15 (.box (.t 14)),
oM 5 15])
def jK.r2:aj:=(.region none [oP 6 (.move (.c (.int .i64 0)))])
def jK.r3:aj:=(.region none [oM 16 6,
oM 17 0,
oP 18 (.len (.t 17)),
oP 19 (.bin .lss (.t 16) (.t 18))])
def jK.r5:aj:=(.region (some 15) [oM 22 5,
oM 23 5,
oP 24 (.nilCheck (.t 23)),
oP 25 (.fieldAddr 2 (.t 24)),
oP 26 (.load none (.t 25)),
oP 27 (.bin .mul (.t 26) (.c (.int .u64 1099511628211))),
oM 28 0,
oM 29 6,
oP 30 (.indexAddr none 1 (.t 28) (.t 29)),
oP 31 (.load none (.t 30)),
oP 32 (.conv .u64 (.t 31)),
oP 33 (.bin .add (.t 27) (.t 32)),
oP 34 (.bin .add (.t 33) (.c (.int .u64 5))),
oP 35 (.nilCheck (.t 22)),
oP 36 (.fieldAddr 2 (.t 35)),
⟨none, .store 1 (.t 36) (.t 34),none⟩])
def jK.r4:aj:=(.region none [oM 20 6,
oP 21 (.bin .add (.t 20) (.c (.int .i64 1))),
oM 6 21])
def jK.l0:aj:=(.seq (.seq jK.r3 (.cond (.t 19) .skip (.exit 0))) (.seq (.block 1 jK.r5) jK.r4))
def jK.r6:aj:=(.region none [oM 37 5,
oM 4 37])
def jK:bg:=⟨[.tmp 4],(.seq jK.r0 (.seq jK.r1 (.seq (.seq jK.r2 (.block 0 (.loop jK.l0))) (.seq jK.r6 .ret))))⟩
def jm.r0:aj:=(.region none [oP 4 (.move (.c (.int .i64 0)))])
def jm.r1:aj:=(.region none [oM 6 1,
oP 7 (.bin .lss (.t 6) (.c (.int .i64 1)))])
def jm.r2:aj:=(.region none [oP 4 (.move (.c (.int .i64 0)))])
def jm.r3:aj:=(.region none [oM 8 0,
oM 9 0,
oP 10 (.nilCheck (.t 9)),
oP 11 (.fieldAddr 2 (.t 10)),
oP 12 (.load none (.t 11)),
oP 13 (.bin .mul (.t 12) (.c (.int .u64 6364136223846793005))),
oP 14 (.bin .add (.t 13) (.c (.int .u64 1442695040888963407))),
oP 15 (.nilCheck (.t 8)),
oP 16 (.fieldAddr 2 (.t 15)),
⟨none, .store 1 (.t 16) (.t 14),none⟩])
def jm.r4:aj:=(.region none [oM 17 0,
oP 18 (.nilCheck (.t 17)),
oP 19 (.fieldAddr 2 (.t 18)),
oP 20 (.load none (.t 19)),
oP 21 (.bin .shr (.t 20) (.c (.int .u64 33))),
oP 22 (.bin .and (.t 21) (.c (.int .u64 16777215))),
oP 23 (.conv .i64 (.t 22)),
oM 5 23])
def jm.r5:aj:=(.region (some 10) [oM 24 0,
oP 25 (.nilCheck (.t 24)),
oP 26 (.fieldAddr 1 (.t 25)),
oP 27 (.load none (.t 26)),
oM 28 0,
oP 29 (.nilCheck (.t 28)),
oP 30 (.fieldAddr 0 (.t 29)),
oP 31 (.load none (.t 30)),
oP 32 (.len (.t 31)),
oP 33 (.bin .lss (.t 27) (.t 32))])
def jm.r6:aj:=(.region (some 14) [oM 34 5,
oM 35 0,
oP 36 (.nilCheck (.t 35)),
oP 37 (.fieldAddr 0 (.t 36)),
oP 38 (.load none (.t 37)),
oM 39 0,
oP 40 (.nilCheck (.t 39)),
oP 41 (.fieldAddr 1 (.t 40)),
oP 42 (.load none (.t 41)),
oP 43 (.indexAddr none 1 (.t 38) (.t 42)),
oP 44 (.load none (.t 43)),
oP 45 (.conv .i64 (.t 44)),
oP 46 (.bin .add (.t 34) (.t 45)),
oM 5 46])
def jm.r7:aj:=(.region none [oM 47 0,
oM 48 0,
oP 49 (.nilCheck (.t 48)),
oP 50 (.fieldAddr 1 (.t 49)),
oP 51 (.load none (.t 50)),
oP 52 (.bin .add (.t 51) (.c (.int .i64 1))),
oP 53 (.nilCheck (.t 47)),
oP 54 (.fieldAddr 1 (.t 53)),
⟨none, .store 1 (.t 54) (.t 52),none⟩])
def jm.r8:aj:=(.region none [oM 55 5,
oM 56 1,
oP 57 (.bin .rem (.t 55) (.t 56)),
oM 4 57])
def jm:bg:=⟨[.tmp 4],(.seq jm.r0 (.seq (.seq jm.r1 (.cond (.t 7) (.seq jm.r2 .ret) .skip)) (.seq jm.r3 (.seq jm.r4 (.seq (.seq jm.r5 (.cond (.t 33) (.seq jm.r6 jm.r7) .skip)) (.seq jm.r8 .ret))))))⟩
def oD.r0:aj:=(.region none [oP 2 (.box (.t 0)),
oP 3 (.box (.t 1)),
oP 4 (.move (.c (.bool false))),
oP 5 (.move (.c (.int .i64 0)))])
def oD.r1:aj:=(.region none [oP 6 (.load (some 33) (.t 2)),
oP 7 (.call 187 [.t 6]),
oP 8 (.not (.t 7)),
oM 9 8,
⟨some 10, .load (some 33) (.t 3),some (9,false)⟩,
⟨some 11, .call 187 [.t 10],some (9,false)⟩,
⟨some 12, .not (.t 11),some (9,false)⟩,
oP 13 (.pick (.t 9) (.c (.bool true)) (.t 12))])
def oD.r2:aj:=(.region none [oP 4 (.move (.c (.bool false))),
oP 5 (.move (.c (.int .i64 1)))])
def oD.r3:aj:=(.region (some 14) [oP 14 (.fieldAddr 0 (.t 2)),
oP 15 (.load none (.t 14)),
oP 16 (.fieldAddr 0 (.t 3)),
oP 17 (.load none (.t 16)),
oP 18 (.bin .eql (.t 15) (.t 17)),
oM 19 18,
⟨some 20, .load (some 33) (.t 2),some (19,true)⟩,
⟨some 21, .call 198 [.t 20],some (19,true)⟩,
⟨some 22, .load (some 33) (.t 3),some (19,true)⟩,
⟨some 23, .call 198 [.t 22],some (19,true)⟩,
⟨some 24, .qH false 33 (.t 21) (.t 23),some (19,true)⟩,
oP 25 (.pick (.t 19) (.t 24) (.c (.bool false))),
oM 4 25,
oP 5 (.move (.c (.int .i64 0)))])
def oD:bg:=⟨[.tmp 4, .tmp 5],(.seq oD.r0 (.seq (.seq oD.r1 (.cond (.t 13) (.seq oD.r2 .ret) .skip)) (.seq oD.r3 .ret)))⟩
def oG.r0:aj:=(.region none [oP 1 (.box (.t 0)),
oP 2 (.alloc ([.int .i64 0]++List.replicate 32 (.int .u8 0))),
oP 3 (.move (.c (.int .i64 0)))])
def oG.r1:aj:=(.region none [oP 4 (.load (some 33) (.t 1)),
oP 5 (.call 187 [.t 4]),
oP 6 (.not (.t 5))])
def oG.r2:aj:=(.region none [oP 7 (.build ([.int .i64 0]++List.replicate 32 (.int .u8 0)) []),
⟨none, .store 33 (.t 2) (.t 7),none⟩,
oP 3 (.move (.c (.int .i64 1)))])
def oG.r3:aj:=(.region none [oP 8 (.load (some 33) (.t 1)),
oP 9 (.call 198 [.t 8]),
⟨none, .store 33 (.t 2) (.t 9),none⟩,
oP 3 (.move (.c (.int .i64 0)))])
def oG:bg:=⟨[.cell 2 (some 33), .tmp 3],(.seq oG.r0 (.seq (.seq oG.r1 (.cond (.t 6) (.seq oG.r2 .ret) .skip)) (.seq oG.r3 .ret)))⟩
def oH.r0:aj:=(.region none [oP 1 (.box (.t 0)),
oP 2 (.move (.c (.int .i64 0))),
oP 3 (.move (.c (.int .i64 0)))])
def oH.r1:aj:=(.region none [oP 4 (.load (some 33) (.t 1)),
oP 5 (.call 187 [.t 4]),
oP 6 (.not (.t 5))])
def oH.r2:aj:=(.region none [oP 2 (.move (.c (.int .i64 0))),
oP 3 (.move (.c (.int .i64 1)))])
def oH.r3:aj:=(.region none [oP 7 (.load (some 33) (.t 1)),
oP 8 (.call 410 [.t 7]),
oP 9 (.call 411 [.t 8]),
oM 2 9,
oP 3 (.move (.c (.int .i64 0)))])
def oH:bg:=⟨[.tmp 2, .tmp 3],(.seq oH.r0 (.seq (.seq oH.r1 (.cond (.t 6) (.seq oH.r2 .ret) .skip)) (.seq oH.r3 .ret)))⟩
def jV.r0:aj:=(.region none [oP 2 (.box (.t 0)),
oP 4 (.alloc ([.int .i64 0]++List.replicate 32 (.int .u8 0))),
oP 5 (.move (.c (.int .i64 0)))])
def jV.r1:aj:=(.region none [oP 11 (.load (some 33) (.t 2)),
oP 12 (.call 187 [.t 11]),
oP 13 (.not (.t 12)),
oM 10 13])
def jV.r2:aj:=(.region none [oP 14 (.build ([.int .i64 0]++List.replicate 32 (.int .u8 0)) []),
⟨none, .store 33 (.t 4) (.t 14),none⟩,
oP 5 (.move (.c (.int .i64 1)))])
def jV.r3:aj:=(.region none [oM 16 1,
oP 17 (.bin .lss (.t 16) (.c (.int .i64 0))),
oM 18 17,
⟨some 19, .move (.t 1),some (18,false)⟩,
⟨some 20, .bin .gtr (.t 19) (.c (.int .i64 5)),some (18,false)⟩,
oP 21 (.pick (.t 18) (.c (.bool true)) (.t 20)),
oM 15 21])
def jV.r4:aj:=(.region none [oP 22 (.build ([.int .i64 0]++List.replicate 32 (.int .u8 0)) []),
⟨none, .store 33 (.t 4) (.t 22),none⟩,
oP 5 (.move (.c (.int .i64 2)))])
def jV.r5:aj:=(.region (some 9) [oP 23 (.fieldAddr 1 (.t 2)),
oP 24 (.load (some 16) (.t 23)),
oP 25 (.fieldAddr 17 (.t 2)),
oP 26 (.load (some 16) (.t 25)),
oP 27 (.load (some 33) (.t 2)),
oP 28 (.call 193 [.t 27]),
oP 6 (.alloc (List.replicate 16 (.int .u8 0))),
oP 7 (.alloc (List.replicate 16 (.int .u8 0))),
oP 8 (.alloc (List.replicate 16 (.int .u8 0))),
⟨none, .fE 16 (.t 6) (.t 24) [.t 25],none⟩,
⟨none, .store 16 (.t 7) (.t 26),none⟩,
⟨none, .store 16 (.t 8) (.t 28),none⟩])
def jV.r6:aj:=(.region none [oP 29 (.load (some 16) (.t 6)),
oP 30 (.load (some 16) (.t 7)),
oP 31 (.build (List.replicate 32 (.int .u8 0)) [(0,16, .t 29),(16,16, .t 30)]),
oP 32 (.load (some 16) (.t 7)),
oP 33 (.load (some 16) (.t 6)),
oP 34 (.build (List.replicate 32 (.int .u8 0)) [(0,16, .t 32),(16,16, .t 33)]),
oP 35 (.load (some 16) (.t 7)),
oP 36 (.load (some 16) (.t 8)),
oP 37 (.build (List.replicate 32 (.int .u8 0)) [(0,16, .t 35),(16,16, .t 36)]),
oP 38 (.load (some 16) (.t 8)),
oP 39 (.load (some 16) (.t 6)),
oP 40 (.build (List.replicate 32 (.int .u8 0)) [(0,16, .t 38),(16,16, .t 39)]),
oP 41 (.load (some 16) (.t 6)),
oP 42 (.load (some 16) (.t 8)),
oP 43 (.build (List.replicate 32 (.int .u8 0)) [(0,16, .t 41),(16,16, .t 42)]),
oP 44 (.load (some 16) (.t 8)),
oP 45 (.load (some 16) (.t 7)),
oP 46 (.build (List.replicate 32 (.int .u8 0)) [(0,16, .t 44),(16,16, .t 45)]),
oP 47 (.buildSlice 32 6 (List.replicate 32 (.int .u8 0)) [(0,32, .t 31),(32,32, .t 34),(64,32, .t 37),(96,32, .t 40),(128,32, .t 43),(160,32, .t 46)]),
oM 48 1,
oP 49 (.indexAddr none 32 (.t 47) (.t 48)),
oP 50 (.load (some 32) (.t 49)),
oP 9 (.alloc (List.replicate 32 (.int .u8 0))),
⟨none, .store 32 (.t 9) (.t 50),none⟩])
def jV.r7:aj:=(.region none [oP 51 (.fieldAddr 0 (.t 2)),
oP 52 (.load none (.t 51)),
oP 53 (.indexAddr (some 2) 16 (.t 9) (.c (.int .i64 0))),
oP 54 (.load (some 16) (.t 53)),
oP 55 (.indexAddr (some 2) 16 (.t 9) (.c (.int .i64 1))),
oP 56 (.load (some 16) (.t 55)),
oP 57 (.build ([.int .i64 0]++List.replicate 32 (.int .u8 0)) [(0,1, .t 52),(1,16, .t 54),(17,16, .t 56)]),
⟨none, .store 33 (.t 4) (.t 57),none⟩,
oP 5 (.move (.c (.int .i64 0)))])
def jV:bg:=⟨[.cell 4 (some 33), .tmp 5],(.seq jV.r0 (.seq (.block 0 (.seq jV.r1 (.cond (.t 10) (.seq jV.r2 .ret) (.seq jV.r3 (.cond (.t 15) (.seq jV.r4 .ret) .skip))))) (.seq jV.r5 (.seq jV.r6 (.seq jV.r7 .ret)))))⟩
def iZ.r0:aj:=(.region none [oP 4 (.move (.c (.bool false)))])
def iZ.r1:aj:=(.region none [oM 6 0,
oP 7 (.len (.t 6)),
oM 8 1,
oP 9 (.len (.t 8)),
oP 10 (.bin .neq (.t 7) (.t 9))])
def iZ.r2:aj:=(.region none [oP 4 (.move (.c (.bool false)))])
def iZ.r3:aj:=(.region none [oP 5 (.move (.c (.int .i64 0)))])
def iZ.r4:aj:=(.region none [oM 11 5,
oM 12 0,
oP 13 (.len (.t 12)),
oP 14 (.bin .lss (.t 11) (.t 13))])
def iZ.r6:aj:=(.region (some 9) [oM 17 0,
oM 18 5,
oP 19 (.indexAddr none 1 (.t 17) (.t 18)),
oP 20 (.load none (.t 19)),
oM 21 1,
oM 22 5,
oP 23 (.indexAddr none 1 (.t 21) (.t 22)),
oP 24 (.load none (.t 23)),
oP 25 (.bin .neq (.t 20) (.t 24))])
def iZ.r7:aj:=(.region none [oP 4 (.move (.c (.bool false)))])
def iZ.r5:aj:=(.region none [oM 15 5,
oP 16 (.bin .add (.t 15) (.c (.int .i64 1))),
oM 5 16])
def iZ.l0:aj:=(.seq (.seq iZ.r4 (.cond (.t 14) .skip (.exit 0))) (.seq (.block 1 (.seq iZ.r6 (.cond (.t 25) (.seq iZ.r7 .ret) .skip))) iZ.r5))
def iZ.r8:aj:=(.region none [oP 4 (.move (.c (.bool true)))])
def iZ:bg:=⟨[.tmp 4],(.seq iZ.r0 (.seq (.seq iZ.r1 (.cond (.t 10) (.seq iZ.r2 .ret) .skip)) (.seq (.seq iZ.r3 (.block 0 (.loop iZ.l0))) (.seq iZ.r8 .ret))))⟩
def oI.r0:aj:=(.region none [oP 1 (.box (.t 0)),
oP 2 (.move (.c (.int .i64 0))),
oP 3 (.move (.c (.int .i64 0)))])
def oI.r1:aj:=(.region none [oP 4 (.load (some 33) (.t 1)),
oP 5 (.call 187 [.t 4]),
oP 6 (.not (.t 5))])
def oI.r2:aj:=(.region none [oP 2 (.move (.c (.int .i64 0))),
oP 3 (.move (.c (.int .i64 1)))])
def oI.r3:aj:=(.region none [oP 7 (.load (some 33) (.t 1)),
oP 8 (.call 412 [.t 7]),
oM 2 8,
oP 3 (.move (.c (.int .i64 0)))])
def oI:bg:=⟨[.tmp 2, .tmp 3],(.seq oI.r0 (.seq (.seq oI.r1 (.cond (.t 6) (.seq oI.r2 .ret) .skip)) (.seq oI.r3 .ret)))⟩
def fF.r0:aj:=(.region none [oP 1 (.box (.t 0)),
oP 2 (.alloc ([.int .i64 0]++List.replicate 32 (.int .u8 0))),
oP 3 (.move (.c (.int .i64 0)))])
def fF.r1:aj:=(.region none [oP 7 (.fieldAddr 0 (.t 1)),
oP 8 (.load none (.t 7)),
oM 4 8])
def fF.r2:aj:=(.region none [oP 10 (.load (some 33) (.t 1)),
oP 11 (.call 187 [.t 10]),
oP 12 (.not (.t 11)),
oM 9 12])
def fF.r3:aj:=(.region none [oP 13 (.build ([.int .i64 0]++List.replicate 32 (.int .u8 0)) []),
⟨none, .store 33 (.t 2) (.t 13),none⟩,
oP 3 (.move (.c (.int .i64 1)))])
def fF.r4:aj:=(.region none [oM 15 4,
oP 16 (.bin .mul (.c (.int .i64 2)) (.t 15)),
oP 17 (.bin .gtr (.t 16) (.c (.int .i64 16))),
oM 14 17])
def fF.r5:aj:=(.region none [oP 18 (.build ([.int .i64 0]++List.replicate 32 (.int .u8 0)) []),
⟨none, .store 33 (.t 2) (.t 18),none⟩,
oP 3 (.move (.c (.int .i64 3)))])
def fF.r6:aj:=(.region none [oM 19 4,
oP 20 (.bin .mul (.c (.int .i64 2)) (.t 19)),
oP 21 (.build ([.int .i64 0]++List.replicate 32 (.int .u8 0)) [(0,1, .t 20)]),
oP 5 (.alloc ([.int .i64 0]++List.replicate 32 (.int .u8 0))),
⟨none, .store 33 (.t 5) (.t 21),none⟩])
def fF.r7:aj:=(.region none [oM 22 4,
oP 23 (.move (.c (.int .i64 0)))])
def fF.r8:aj:=(.region none [oP 24 (.bin .lss (.t 23) (.t 22))])
def fF.r9:aj:=(.region none [oM 25 23,
oM 6 25])
def fF.r10:aj:=(.region none [oM 26 6,
oM 27 6,
oP 28 (.fieldAddr 1 (.t 1)),
oP 29 (.indexAddr (some 16) 1 (.t 28) (.t 27)),
oP 30 (.load none (.t 29)),
oP 31 (.fieldAddr 1 (.t 5)),
oP 32 (.indexAddr (some 16) 1 (.t 31) (.t 26)),
⟨none, .store 1 (.t 32) (.t 30),none⟩])
def fF.r11:aj:=(.region none [oM 33 4,
oM 34 6,
oP 35 (.bin .add (.t 33) (.t 34)),
oM 36 4,
oP 37 (.conv .u8 (.t 36)),
oM 38 6,
oP 39 (.fieldAddr 17 (.t 1)),
oP 40 (.indexAddr (some 16) 1 (.t 39) (.t 38)),
oP 41 (.load none (.t 40)),
oP 42 (.bin .add (.t 37) (.t 41)),
oP 43 (.fieldAddr 1 (.t 5)),
oP 44 (.indexAddr (some 16) 1 (.t 43) (.t 35)),
⟨none, .store 1 (.t 44) (.t 42),none⟩])
def fF.r12:aj:=(.region none [oM 45 6,
oM 46 4,
oM 47 6,
oP 48 (.bin .add (.t 46) (.t 47)),
oP 49 (.conv .u8 (.t 48)),
oP 50 (.fieldAddr 17 (.t 5)),
oP 51 (.indexAddr (some 16) 1 (.t 50) (.t 45)),
⟨none, .store 1 (.t 51) (.t 49),none⟩])
def fF.r13:aj:=(.region none [oM 52 4,
oM 53 6,
oP 54 (.bin .add (.t 52) (.t 53)),
oM 55 6,
oP 56 (.conv .u8 (.t 55)),
oP 57 (.fieldAddr 17 (.t 5)),
oP 58 (.indexAddr (some 16) 1 (.t 57) (.t 54)),
⟨none, .store 1 (.t 58) (.t 56),none⟩])
def fF.gQ:aj:=(.region none [oP 59 (.bin .add (.t 23) (.c (.int .i64 1))),
oM 23 59])
def fF.l0:aj:=(.seq fF.r8 (.seq (.cond (.t 24) .skip (.exit 1)) (.seq (.block 2 (.seq fF.r9 (.seq fF.r10 (.seq fF.r11 (.seq fF.r12 fF.r13))))) fF.gQ)))
def fF.jR:aj:=(.region none [oP 60 (.load (some 33) (.t 5)),
⟨none, .store 33 (.t 2) (.t 60),none⟩,
oP 3 (.move (.c (.int .i64 0)))])
def fF:bg:=⟨[.cell 2 (some 33), .tmp 3],(.seq fF.r0 (.seq fF.r1 (.seq (.block 0 (.seq fF.r2 (.cond (.t 9) (.seq fF.r3 .ret) (.seq fF.r4 (.cond (.t 14) (.seq fF.r5 .ret) .skip))))) (.seq fF.r6 (.seq (.seq fF.r7 (.block 1 (.loop fF.l0))) (.seq fF.jR .ret))))))⟩
def dO.r0:aj:=(.region none [oP 1 (.box (.t 0)),
oP 2 (.alloc ([.int .i64 0]++List.replicate 96 (.int .u8 0))),
oP 3 (.move (.c (.int .i64 0)))])
def dO.r1:aj:=(.region none [oP 9 (.load (some 33) (.t 1)),
oP 10 (.call 187 [.t 9]),
oP 11 (.not (.t 10)),
oM 8 11])
def dO.r2:aj:=(.region none [oP 12 (.build ([.int .i64 0]++List.replicate 96 (.int .u8 0)) []),
⟨none, .store 97 (.t 2) (.t 12),none⟩,
oP 3 (.move (.c (.int .i64 1)))])
def dO.r3:aj:=(.region none [oP 14 (.load (some 33) (.t 1)),
oP 15 (.call 200 [.t 14]),
oP 16 (.not (.t 15)),
oM 13 16])
def dO.r4:aj:=(.region none [oP 17 (.build ([.int .i64 0]++List.replicate 96 (.int .u8 0)) []),
⟨none, .store 97 (.t 2) (.t 17),none⟩,
oP 3 (.move (.c (.int .i64 5)))])
def dO.r5:aj:=(.region none [oP 18 (.fieldAddr 0 (.t 1)),
oP 19 (.load none (.t 18)),
oP 20 (.bin .mul (.c (.int .i64 2)) (.t 19)),
oP 21 (.build ([.int .i64 0]++List.replicate 96 (.int .u8 0)) [(0,1, .t 20)]),
oP 4 (.alloc ([.int .i64 0]++List.replicate 96 (.int .u8 0))),
⟨none, .store 97 (.t 4) (.t 21),none⟩])
def dO.r6:aj:=(.region none [oP 22 (.fieldAddr 0 (.t 1)),
oP 23 (.load none (.t 22)),
oP 24 (.move (.c (.int .i64 0)))])
def dO.r7:aj:=(.region none [oP 25 (.bin .lss (.t 24) (.t 23))])
def dO.r8:aj:=(.region none [oM 26 24,
oM 5 26])
def dO.r9:aj:=(.region none [oP 27 (.move (.c (.int .i64 0)))])
def dO.r10:aj:=(.region none [oP 28 (.bin .lss (.t 27) (.c (.int .i64 2)))])
def dO.r11:aj:=(.region none [oM 29 27,
oM 6 29])
def dO.r12:aj:=(.region none [oM 30 5,
oP 31 (.bin .mul (.c (.int .i64 2)) (.t 30)),
oM 32 6,
oP 33 (.bin .add (.t 31) (.t 32)),
oM 34 5,
oP 35 (.fieldAddr 17 (.t 1)),
oP 36 (.indexAddr (some 16) 1 (.t 35) (.t 34)),
oP 37 (.load none (.t 36)),
oP 38 (.bin .mul (.c (.int .u8 2)) (.t 37)),
oM 39 6,
oP 40 (.bin .sub (.c (.int .i64 1)) (.t 39)),
oP 41 (.conv .u8 (.t 40)),
oP 42 (.bin .add (.t 38) (.t 41)),
oP 43 (.fieldAddr 1 (.t 4)),
oP 44 (.indexAddr (some 32) 1 (.t 43) (.t 33)),
⟨none, .store 1 (.t 44) (.t 42),none⟩])
def dO.r13:aj:=(.region none [oM 45 5,
oP 46 (.bin .mul (.c (.int .i64 2)) (.t 45)),
oM 47 6,
oP 48 (.bin .add (.t 46) (.t 47)),
oM 49 5,
oP 50 (.bin .mul (.c (.int .i64 2)) (.t 49)),
oP 51 (.bin .add (.t 50) (.c (.int .i64 1))),
oM 52 6,
oP 53 (.bin .sub (.t 51) (.t 52)),
oP 54 (.conv .u8 (.t 53)),
oP 55 (.fieldAddr 65 (.t 4)),
oP 56 (.indexAddr (some 32) 1 (.t 55) (.t 48)),
⟨none, .store 1 (.t 56) (.t 54),none⟩])
def dO.gQ:aj:=(.region none [oP 57 (.bin .add (.t 27) (.c (.int .i64 1))),
oM 27 57])
def dO.l0:aj:=(.seq dO.r10 (.seq (.cond (.t 28) .skip (.exit 3)) (.seq (.block 4 (.seq dO.r11 (.seq dO.r12 dO.r13))) dO.gQ)))
def dO.jR:aj:=(.region none [oM 58 5,
oP 59 (.fieldAddr 1 (.t 1)),
oP 60 (.indexAddr (some 16) 1 (.t 59) (.t 58)),
oP 61 (.load none (.t 60)),
oP 62 (.bin .mul (.c (.int .u8 2)) (.t 61)),
oM 7 62])
def dO.r16:aj:=(.region none [oM 63 5,
oP 64 (.bin .mul (.c (.int .i64 2)) (.t 63)),
oP 65 (.bin .add (.t 64) (.c (.int .i64 1))),
oM 66 7,
oP 67 (.fieldAddr 33 (.t 4)),
oP 68 (.indexAddr (some 32) 1 (.t 67) (.t 65)),
⟨none, .store 1 (.t 68) (.t 66),none⟩])
def dO.kT:aj:=(.region none [oM 69 7,
oM 70 5,
oP 71 (.bin .mul (.c (.int .i64 2)) (.t 70)),
oP 72 (.bin .add (.t 71) (.c (.int .i64 1))),
oP 73 (.conv .u8 (.t 72)),
oP 74 (.fieldAddr 33 (.t 4)),
oP 75 (.indexAddr (some 32) 1 (.t 74) (.t 69)),
⟨none, .store 1 (.t 75) (.t 73),none⟩])
def dO.lY:aj:=(.region none [oP 76 (.bin .add (.t 24) (.c (.int .i64 1))),
oM 24 76])
def dO.l1:aj:=(.seq dO.r7 (.seq (.cond (.t 25) .skip (.exit 1)) (.seq (.block 2 (.seq dO.r8 (.seq (.seq dO.r9 (.block 3 (.loop dO.l0))) (.seq dO.jR (.seq dO.r16 dO.kT))))) dO.lY)))
def dO.lF:aj:=(.region none [oP 77 (.load (some 97) (.t 4)),
⟨none, .store 97 (.t 2) (.t 77),none⟩,
oP 3 (.move (.c (.int .i64 0)))])
def dO:bg:=⟨[.cell 2 (some 97), .tmp 3],(.seq dO.r0 (.seq (.block 0 (.seq dO.r1 (.cond (.t 8) (.seq dO.r2 .ret) (.seq dO.r3 (.cond (.t 13) (.seq dO.r4 .ret) .skip))))) (.seq dO.r5 (.seq (.seq dO.r6 (.block 1 (.loop dO.l1))) (.seq dO.lF .ret)))))⟩
def mV.r0:aj:=(.region none [oP 1 (.box (.t 0)),
oP 2 (.move (.c (.int .i64 0))),
oP 3 (.move (.c (.int .i64 0)))])
def mV.r1:aj:=(.region none [oP 5 (.load (some 97) (.t 1)),
oP 6 (.call 134 [.t 5]),
oP 7 (.not (.t 6))])
def mV.r2:aj:=(.region none [oP 2 (.move (.c (.int .i64 0))),
oP 3 (.move (.c (.int .i64 1)))])
def mV.r3:aj:=(.region (some 30) [oP 8 (.fieldAddr 0 (.t 1)),
oP 9 (.load none (.t 8)),
oP 10 (.fieldAddr 33 (.t 1)),
oP 11 (.load (some 32) (.t 10)),
oP 12 (.fieldAddr 65 (.t 1)),
oP 13 (.load (some 32) (.t 12)),
oP 14 (.buildSlice 32 2 (List.replicate 32 (.int .u8 0)) [(0,32, .t 11),(32,32, .t 13)]),
oP 15 (.call 182 [.t 9, .t 14]),
oP 16 (.len (.t 15)),
oP 17 (.fieldAddr 0 (.t 1)),
oP 18 (.load none (.t 17)),
oP 19 (.fieldAddr 1 (.t 1)),
oP 20 (.load (some 32) (.t 19)),
oP 21 (.fieldAddr 65 (.t 1)),
oP 22 (.load (some 32) (.t 21)),
oP 23 (.buildSlice 32 2 (List.replicate 32 (.int .u8 0)) [(0,32, .t 20),(32,32, .t 22)]),
oP 24 (.call 182 [.t 18, .t 23]),
oP 25 (.len (.t 24)),
oP 26 (.bin .sub (.t 16) (.t 25)),
oP 27 (.fieldAddr 0 (.t 1)),
oP 28 (.load none (.t 27)),
oP 29 (.fieldAddr 33 (.t 1)),
oP 30 (.load (some 32) (.t 29)),
oP 31 (.fieldAddr 1 (.t 1)),
oP 32 (.load (some 32) (.t 31)),
oP 33 (.buildSlice 32 2 (List.replicate 32 (.int .u8 0)) [(0,32, .t 30),(32,32, .t 32)]),
oP 34 (.call 182 [.t 28, .t 33]),
oP 35 (.len (.t 34)),
oP 36 (.bin .add (.t 26) (.t 35)),
oM 4 36])
def mV.r4:aj:=(.region none [oM 37 4,
oM 2 37,
oP 3 (.move (.c (.int .i64 0)))])
def mV:bg:=⟨[.tmp 2, .tmp 3],(.seq mV.r0 (.seq (.seq mV.r1 (.cond (.t 7) (.seq mV.r2 .ret) .skip)) (.seq mV.r3 (.seq mV.r4 .ret))))⟩
def iC.r0:aj:=(.region none [oP 4 (.alloc ([.int .i64 0]++List.replicate 32 (.int .u8 0)))])
def iC.r1:aj:=(.region none [oM 6 0,
oM 7 1,
oP 8 (.call 372 [.t 6, .t 7]),
oP 5 (.alloc ([.int .i64 0]++List.replicate 32 (.int .u8 0))),
⟨none, .store 33 (.t 5) (.t 8),none⟩])
def iC.r2:aj:=(.region none [oM 9 0,
oP 10 (.call 102 [.t 9,(.c (.int .i64 40))])])
def iC.r3:aj:=(.region none [oP 12 (.bin .eql (.t 10) (.c (.int .i64 0))),
oM 11 12])
def iC.r4:aj:=(.region none [oP 13 (.fieldAddr 1 (.t 5)),
oP 14 (.indexAddr (some 16) 1 (.t 13) (.c (.int .i64 0))),
oP 15 (.load none (.t 14)),
oP 16 (.bin .add (.t 15) (.c (.int .u8 1))),
oP 17 (.fieldAddr 1 (.t 5)),
oP 18 (.indexAddr (some 16) 1 (.t 17) (.c (.int .i64 0))),
⟨none, .store 1 (.t 18) (.t 16),none⟩])
def iC.r5:aj:=(.region none [oP 20 (.bin .eql (.t 10) (.c (.int .i64 1))),
oM 19 20])
def iC.r6:aj:=(.region none [oM 21 0,
oP 22 (.fieldAddr 0 (.t 5)),
oP 23 (.load none (.t 22)),
oP 24 (.bin .add (.t 23) (.c (.int .i64 1))),
oP 25 (.fieldAddr 0 (.t 5)),
oP 26 (.load none (.t 25)),
oP 27 (.bin .sub (.t 26) (.c (.int .i64 1))),
oP 28 (.buildSlice 1 5 [.int .i64 0] [(0,1,(.c (.int .i64 0))),(1,1,(.c (.int .i64 17))),(2,1,(.c (.int .i64 (-1)))),(3,1, .t 24),(4,1, .t 27)]),
oP 29 (.call 98 [.t 21, .t 28]),
oP 30 (.fieldAddr 0 (.t 5)),
⟨none, .store 1 (.t 30) (.t 29),none⟩])
def iC.r7:aj:=(.region none [oP 32 (.bin .eql (.t 10) (.c (.int .i64 2))),
oM 31 32])
def iC.r8:aj:=(.region none [oP 33 (.fieldAddr 0 (.t 5)),
oP 34 (.load none (.t 33)),
oP 35 (.min [.t 34,(.c (.int .i64 16))]),
oP 36 (.call 364 [.t 35]),
oP 37 (.fieldAddr 17 (.t 5)),
⟨none, .store 16 (.t 37) (.t 36),none⟩])
def iC.r9:aj:=(.region none [oP 39 (.bin .eql (.t 10) (.c (.int .i64 3))),
oM 38 39])
def iC.r10:aj:=(.region none [oM 40 0,
oP 41 (.buildSlice 1 2 [.int .i64 0] [(0,1,(.c (.int .i64 1))),(1,1,(.c (.int .i64 255)))]),
oP 42 (.call 98 [.t 40, .t 41]),
oP 43 (.conv .u8 (.t 42)),
oP 44 (.fieldAddr 17 (.t 5)),
oP 45 (.indexAddr (some 16) 1 (.t 44) (.c (.int .i64 15))),
⟨none, .store 1 (.t 45) (.t 43),none⟩])
def iC.r11:aj:=(.region none [oP 46 (.load (some 33) (.t 5)),
⟨none, .store 33 (.t 4) (.t 46),none⟩])
def iC:bg:=⟨[.cell 4 (some 33)],(.seq iC.r0 (.seq iC.r1 (.seq (.seq iC.r2 (.block 0 (.seq iC.r3 (.cond (.t 11) iC.r4 (.seq iC.r5 (.cond (.t 19) iC.r6 (.seq iC.r7 (.cond (.t 31) iC.r8 (.seq iC.r9 (.cond (.t 38) iC.r10 .skip)))))))))) (.seq iC.r11 .ret))))⟩
def jL.r0:aj:=(.region none [oP 2 (.move (.c (.pointer none)))])
def jL.r1:aj:=(.region none [oM 5 0,
oM 6 0,
oP 7 (.len (.t 6)),
oP 8 (.conv .u64 (.t 7)),
oP 9 (.bin .add (.c (.int .u64 8117)) (.t 8)),
oP 10 (.build ([.slice none 0 0]++[.int .i64 0]++[.int .u64 0]) [(0,1, .t 5),(2,1, .t 9)]),
oP 11 (.box (.t 10)),
oM 3 11])
def jL.r2:aj:=(.region none [oP 4 (.move (.c (.int .i64 0)))])
def jL.r3:aj:=(.region none [oM 12 4,
oM 13 0,
oP 14 (.len (.t 13)),
oP 15 (.bin .lss (.t 12) (.t 14)),
oM 16 15,
⟨some 17, .move (.t 4),some (16,true)⟩,
⟨some 18, .bin .lss (.t 17) (.c (.int .i64 4096)),some (16,true)⟩,
oP 19 (.pick (.t 16) (.t 18) (.c (.bool false)))])
def jL.r5:aj:=(.region (some 15) [oM 22 3,
oM 23 3,
oP 24 (.nilCheck (.t 23)),
oP 25 (.fieldAddr 2 (.t 24)),
oP 26 (.load none (.t 25)),
oP 27 (.bin .mul (.t 26) (.c (.int .u64 1099511628211))),
oM 28 0,
oM 29 4,
oP 30 (.indexAddr none 1 (.t 28) (.t 29)),
oP 31 (.load none (.t 30)),
oP 32 (.conv .u64 (.t 31)),
oP 33 (.bin .add (.t 27) (.t 32)),
oP 34 (.bin .add (.t 33) (.c (.int .u64 23))),
oP 35 (.nilCheck (.t 22)),
oP 36 (.fieldAddr 2 (.t 35)),
⟨none, .store 1 (.t 36) (.t 34),none⟩])
def jL.r4:aj:=(.region none [oM 20 4,
oP 21 (.bin .add (.t 20) (.c (.int .i64 1))),
oM 4 21])
def jL.l0:aj:=(.seq (.seq jL.r3 (.cond (.t 19) .skip (.exit 0))) (.seq (.block 1 jL.r5) jL.r4))
def jL.r6:aj:=(.region none [oM 37 3,
oM 2 37])
def jL:bg:=⟨[.tmp 2],(.seq jL.r0 (.seq jL.r1 (.seq (.seq jL.r2 (.block 0 (.loop jL.l0))) (.seq jL.r6 .ret))))⟩
def qF.r0:aj:=(.region none [oP 1 (.box (.t 0)),
oP 2 (.move (.c (.bool false)))])
def qF.r1:aj:=(.region none [oP 4 (.fieldAddr 0 (.t 1)),
oP 5 (.load none (.t 4)),
oM 3 5])
def qF.r2:aj:=(.region none [oP 6 (.fieldAddr 1 (.t 1)),
oP 7 (.load (some 16) (.t 6)),
oM 8 3,
oP 9 (.call 209 [.t 7, .t 8]),
oM 10 9,
⟨some 11, .fieldAddr 17 (.t 1),some (10,true)⟩,
⟨some 12, .load (some 16) (.t 11),some (10,true)⟩,
⟨some 13, .move (.t 3),some (10,true)⟩,
⟨some 14, .call 209 [.t 12, .t 13],some (10,true)⟩,
oP 15 (.pick (.t 10) (.t 14) (.c (.bool false))),
oM 16 15,
⟨some 17, .move (.t 3),some (16,true)⟩,
⟨some 18, .fieldAddr 1 (.t 1),some (16,true)⟩,
⟨some 19, .load (some 16) (.t 18),some (16,true)⟩,
⟨some 20, .fieldAddr 17 (.t 1),some (16,true)⟩,
⟨some 21, .load (some 16) (.t 20),some (16,true)⟩,
⟨some 22, .buildSlice 16 2 (List.replicate 16 (.int .u8 0)) [(0,16, .t 19),(16,16, .t 21)],some (16,true)⟩,
⟨some 23, .call 210 [.t 17, .t 22],some (16,true)⟩,
⟨some 24, .move (.t 3),some (16,true)⟩,
⟨some 25, .bin .eql (.t 23) (.t 24),some (16,true)⟩,
oP 26 (.pick (.t 16) (.t 25) (.c (.bool false))),
oM 2 26])
def qF:bg:=⟨[.tmp 2],(.seq qF.r0 (.seq qF.r1 (.seq qF.r2 .ret)))⟩
def tJ.r0:aj:=(.region none [oP 1 (.box (.t 0)),
oP 2 (.move (.c (.slice none 0 0)))])
def tJ.r1:aj:=(.region (some 17) [oP 3 (.fieldAddr 1 (.t 1)),
oP 4 (.load (some 16) (.t 3)),
oP 5 (.fieldAddr 0 (.t 1)),
oP 6 (.load none (.t 5)),
oP 7 (.call 218 [.t 4, .t 6]),
oP 8 (.fieldAddr 17 (.t 1)),
oP 9 (.load (some 16) (.t 8)),
oP 10 (.fieldAddr 0 (.t 1)),
oP 11 (.load none (.t 10)),
oP 12 (.call 218 [.t 9, .t 11]),
oP 13 (.load (some 33) (.t 1)),
oP 14 (.call 193 [.t 13]),
oP 15 (.fieldAddr 0 (.t 1)),
oP 16 (.load none (.t 15)),
oP 17 (.call 218 [.t 14, .t 16]),
oP 18 (.buildSlice 1 3 [.slice none 0 0] [(0,1, .t 7),(1,1, .t 12),(2,1, .t 17)]),
oM 2 18])
def tJ:bg:=⟨[.tmp 2],(.seq tJ.r0 (.seq tJ.r1 .ret))⟩
def tK.r0:aj:=(.region none [oP 1 (.box (.t 0)),
oP 2 (.move (.c (.bool false)))])
def tK.r1:aj:=(.region none [oP 3 (.fieldAddr 1 (.t 1)),
oP 4 (.load (some 16) (.t 3)),
oP 5 (.fieldAddr 0 (.t 1)),
oP 6 (.load none (.t 5)),
oP 7 (.call 206 [.t 4, .t 6]),
oM 8 7,
⟨some 9, .fieldAddr 17 (.t 1),some (8,true)⟩,
⟨some 10, .load (some 16) (.t 9),some (8,true)⟩,
⟨some 11, .fieldAddr 0 (.t 1),some (8,true)⟩,
⟨some 12, .load none (.t 11),some (8,true)⟩,
⟨some 13, .call 206 [.t 10, .t 12],some (8,true)⟩,
oP 14 (.pick (.t 8) (.t 13) (.c (.bool false))),
oM 15 14,
⟨some 16, .fieldAddr 0 (.t 1),some (15,true)⟩,
⟨some 17, .load none (.t 16),some (15,true)⟩,
⟨some 18, .fieldAddr 1 (.t 1),some (15,true)⟩,
⟨some 19, .load (some 16) (.t 18),some (15,true)⟩,
⟨some 20, .fieldAddr 17 (.t 1),some (15,true)⟩,
⟨some 21, .load (some 16) (.t 20),some (15,true)⟩,
⟨some 22, .call 207 [.t 17, .t 19, .t 21],some (15,true)⟩,
oP 23 (.pick (.t 15) (.t 22) (.c (.bool false))),
oM 2 23])
def tK:bg:=⟨[.tmp 2],(.seq tK.r0 (.seq tK.r1 .ret))⟩
def tN.r0:aj:=(.region none [oP 1 (.box (.t 0)),
oP 2 (.move (.c (.slice none 0 0)))])
def tN.r1:aj:=(.region (some 17) [oP 3 (.fieldAddr 1 (.t 1)),
oP 4 (.load (some 16) (.t 3)),
oP 5 (.fieldAddr 0 (.t 1)),
oP 6 (.load none (.t 5)),
oP 7 (.call 284 [.t 4, .t 6]),
oP 8 (.fieldAddr 17 (.t 1)),
oP 9 (.load (some 16) (.t 8)),
oP 10 (.fieldAddr 0 (.t 1)),
oP 11 (.load none (.t 10)),
oP 12 (.call 284 [.t 9, .t 11]),
oP 13 (.load (some 33) (.t 1)),
oP 14 (.call 192 [.t 13]),
oP 15 (.fieldAddr 0 (.t 1)),
oP 16 (.load none (.t 15)),
oP 17 (.call 284 [.t 14, .t 16]),
oP 18 (.buildSlice 1 3 [.slice none 0 0] [(0,1, .t 7),(1,1, .t 12),(2,1, .t 17)]),
oM 2 18])
def tN:bg:=⟨[.tmp 2],(.seq tN.r0 (.seq tN.r1 .ret))⟩
def jc.r0:aj:=(.region none [oP 1 (.box (.t 0)),
oP 2 (.alloc ([.int .i64 0]++List.replicate 32 (.int .u8 0)))])
def jc.r1:aj:=(.region (some 5) [oP 6 (.load (some 33) (.t 1)),
oP 7 (.load (some 33) (.t 1)),
oP 8 (.call 215 [.t 7,(.c (.int .i64 0))]),
oP 9 (.call 216 [.t 6, .t 8]),
oP 3 (.alloc ([.int .i64 0]++List.replicate 32 (.int .u8 0))),
⟨none, .store 33 (.t 3) (.t 9),none⟩])
def jc.r2:aj:=(.region none [oP 4 (.move (.c (.int .i64 1)))])
def jc.r3:aj:=(.region none [oM 10 4,
oP 11 (.fieldAddr 0 (.t 1)),
oP 12 (.load none (.t 11)),
oP 13 (.bin .lss (.t 10) (.t 12))])
def jc.r5:aj:=(.region (some 6) [oP 16 (.load (some 33) (.t 1)),
oP 17 (.load (some 33) (.t 1)),
oM 18 4,
oP 19 (.call 215 [.t 17, .t 18]),
oP 20 (.call 216 [.t 16, .t 19]),
oP 5 (.alloc ([.int .i64 0]++List.replicate 32 (.int .u8 0))),
⟨none, .store 33 (.t 5) (.t 20),none⟩])
def jc.r6:aj:=(.region none [oP 21 (.load (some 33) (.t 5)),
oP 22 (.load (some 33) (.t 3)),
oP 23 (.call 217 [.t 21, .t 22]),
oP 24 (.bin .lss (.t 23) (.c (.int .i64 0)))])
def jc.r7:aj:=(.region none [oP 25 (.load (some 33) (.t 5)),
⟨none, .store 33 (.t 3) (.t 25),none⟩])
def jc.r4:aj:=(.region none [oM 14 4,
oP 15 (.bin .add (.t 14) (.c (.int .i64 1))),
oM 4 15])
def jc.l0:aj:=(.seq (.seq jc.r3 (.cond (.t 13) .skip (.exit 0))) (.seq (.block 1 (.seq jc.r5 (.seq jc.r6 (.cond (.t 24) jc.r7 .skip)))) jc.r4))
def jc.r8:aj:=(.region none [oP 26 (.load (some 33) (.t 3)),
⟨none, .store 33 (.t 2) (.t 26),none⟩])
def jc:bg:=⟨[.cell 2 (some 33)],(.seq jc.r0 (.seq jc.r1 (.seq (.seq jc.r2 (.block 0 (.loop jc.l0))) (.seq jc.r8 .ret))))⟩
def tV.r0:aj:=(.region none [oP 1 (.box (.t 0)),
oP 2 (.move (.c (.pointer none)))])
def tV.r1:aj:=(.region none [oP 3 (.fieldAddr 0 (.t 1)),
oP 4 (.load none (.t 3)),
oP 5 (.fieldAddr 1 (.t 1)),
oP 6 (.load (some 16) (.t 5)),
oP 7 (.fieldAddr 17 (.t 1)),
oP 8 (.load (some 16) (.t 7)),
oP 9 (.buildSlice 16 2 (List.replicate 16 (.int .u8 0)) [(0,16, .t 6),(16,16, .t 8)]),
oP 10 (.call 415 [.t 4, .t 9]),
oM 2 10])
def tV:bg:=⟨[.tmp 2],(.seq tV.r0 (.seq tV.r1 .ret))⟩
def eP.r0:aj:=(.region none [oP 2 (.move (.c (.int .i64 0)))])
def eP.r1:aj:=(.region none [oP 3 (.move (.c (.int .i64 1)))])
def eP.r2:aj:=(.region none [oM 8 0,
oP 9 (.nilCheck (.t 8)),
oP 10 (.fieldAddr 0 (.t 9)),
oP 11 (.load none (.t 10)),
oP 12 (.move (.c (.int .i64 0)))])
def eP.r3:aj:=(.region none [oP 13 (.bin .lss (.t 12) (.t 11))])
def eP.r4:aj:=(.region none [oM 14 12,
oM 4 14])
def eP.r5:aj:=(.region none [oP 5 (.move (.c (.int .i64 0)))])
def eP.r6:aj:=(.region none [oM 15 0,
oM 16 4,
oP 17 (.nilCheck (.t 15)),
oP 18 (.fieldAddr 4097 (.t 17)),
oP 19 (.indexAddr (some 16) 16 (.t 18) (.t 16)),
oP 20 (.load (some 16) (.t 19)),
oP 21 (.move (.c (.int .i64 0)))])
def eP.r7:aj:=(.region none [oP 22 (.bin .lss (.t 21) (.c (.int .i64 16)))])
def eP.r8:aj:=(.region none [oP 23 (.index 16 1 none (.t 20) (.t 21)),
oM 7 23])
def eP.r9:aj:=(.region none [oM 24 7])
def eP.r10:aj:=(.region none [oM 25 5,
oP 26 (.bin .add (.t 25) (.c (.int .i64 1))),
oM 5 26])
def eP.r11:aj:=(.region none [oP 27 (.bin .add (.t 21) (.c (.int .i64 1))),
oM 21 27])
def eP.l0:aj:=(.seq eP.r7 (.seq (.cond (.t 22) .skip (.exit 2)) (.seq (.block 3 (.seq eP.r8 (.seq eP.r9 (.cond (.t 24) eP.r10 .skip)))) eP.r11)))
def eP.r12:aj:=(.region none [oM 28 3,
oM 29 5,
oP 30 (.bin .mul (.t 28) (.t 29)),
oM 3 30])
def eP.r13:aj:=(.region none [oP 31 (.bin .add (.t 12) (.c (.int .i64 1))),
oM 12 31])
def eP.l1:aj:=(.seq eP.r3 (.seq (.cond (.t 13) .skip (.exit 0)) (.seq (.block 1 (.seq eP.r4 (.seq eP.r5 (.seq (.seq eP.r6 (.block 2 (.loop eP.l0))) eP.r12)))) eP.r13)))
def eP.gQ:aj:=(.region none [oM 32 3,
oM 2 32])
def eP:bg:=⟨[.tmp 2],(.seq eP.r0 (.seq eP.r1 (.seq (.seq eP.r2 (.block 0 (.loop eP.l1))) (.seq eP.gQ .ret))))⟩
def tX.r0:aj:=(.region none [oP 1 (.box (.t 0)),
oP 2 (.alloc (List.replicate 16 (.int .u8 0)))])
def tX.r1:aj:=(.region (some 10) [oP 3 (.fieldAddr 1 (.t 1)),
oP 4 (.load (some 16) (.t 3)),
oP 5 (.fieldAddr 17 (.t 1)),
oP 6 (.load (some 16) (.t 5)),
oP 7 (.fieldAddr 0 (.t 1)),
oP 8 (.load none (.t 7)),
oP 9 (.call 213 [.t 4, .t 6, .t 8]),
oP 10 (.fieldAddr 0 (.t 1)),
oP 11 (.load none (.t 10)),
oP 12 (.call 211 [.t 9, .t 11]),
⟨none, .store 16 (.t 2) (.t 12),none⟩])
def tX:bg:=⟨[.cell 2 (some 16)],(.seq tX.r0 (.seq tX.r1 .ret))⟩
def tY.r0:aj:=(.region none [oP 1 (.box (.t 0)),
oP 2 (.move (.c (.int .i64 0)))])
def tY.r1:aj:=(.region (some 8) [oP 3 (.load (some 33) (.t 1)),
oP 4 (.call 280 [.t 3]),
oP 5 (.fieldAddr 0 (.t 1)),
oP 6 (.load none (.t 5)),
oP 7 (.call 81 [.t 4, .t 6]),
oP 8 (.bin .quo (.t 7) (.c (.int .i64 2))),
oP 9 (.bin .sub (.c (.int .i64 1)) (.t 8)),
oM 2 9])
def tY:bg:=⟨[.tmp 2],(.seq tY.r0 (.seq tY.r1 .ret))⟩
def jo.r0:aj:=(.region none [oP 1 (.box (.t 0)),
oP 2 (.move (.c (.bool false)))])
def jo.r1:aj:=(.region none [oP 5 (.fieldAddr 17 (.t 1)),
oP 6 (.load (some 16) (.t 5)),
oP 7 (.fieldAddr 0 (.t 1)),
oP 8 (.load none (.t 7)),
oP 9 (.call 218 [.t 6, .t 8]),
oP 10 (.len (.t 9)),
oP 11 (.move (.c (.int .i64 0)))])
def jo.r2:aj:=(.region none [oP 12 (.bin .lss (.t 11) (.t 10))])
def jo.r3:aj:=(.region none [oP 13 (.indexAddr none 1 (.t 9) (.t 11)),
oP 14 (.load none (.t 13)),
oM 4 14])
def jo.r4:aj:=(.region none [oM 15 4,
oP 16 (.bin .neq (.t 15) (.c (.int .i64 2)))])
def jo.r5:aj:=(.region none [oP 2 (.move (.c (.bool false)))])
def jo.r6:aj:=(.region none [oP 17 (.bin .add (.t 11) (.c (.int .i64 1))),
oM 11 17])
def jo.l0:aj:=(.seq jo.r2 (.seq (.cond (.t 12) .skip (.exit 0)) (.seq (.block 1 (.seq jo.r3 (.seq jo.r4 (.cond (.t 16) (.seq jo.r5 .ret) .skip)))) jo.r6)))
def jo.r7:aj:=(.region none [oP 2 (.move (.c (.bool true)))])
def jo:bg:=⟨[.tmp 2],(.seq jo.r0 (.seq (.seq jo.r1 (.block 0 (.loop jo.l0))) (.seq jo.r7 .ret)))⟩
def cZ.r0:aj:=(.region none [oP 1 (.box (.t 0)),
oP 2 (.move (.c (.bool false)))])
def cZ.r1:aj:=(.region none [oP 10 (.fieldAddr 0 (.t 1)),
oP 11 (.load none (.t 10)),
oP 12 (.bin .lss (.t 11) (.c (.int .i64 4))),
oM 13 12,
⟨some 14, .fieldAddr 0 (.t 1),some (13,false)⟩,
⟨some 15, .load none (.t 14),some (13,false)⟩,
⟨some 16, .bin .gtr (.t 15) (.c (.int .i64 32)),some (13,false)⟩,
oP 17 (.pick (.t 13) (.c (.bool true)) (.t 16)),
oM 18 17,
⟨some 19, .fieldAddr 0 (.t 1),some (18,false)⟩,
⟨some 20, .load none (.t 19),some (18,false)⟩,
⟨some 21, .bin .rem (.t 20) (.c (.int .i64 4)),some (18,false)⟩,
⟨some 22, .bin .neq (.t 21) (.c (.int .i64 0)),some (18,false)⟩,
oP 23 (.pick (.t 18) (.c (.bool true)) (.t 22))])
def cZ.r2:aj:=(.region none [oP 2 (.move (.c (.bool false)))])
def cZ.r3:aj:=(.region none [oP 24 (.fieldAddr 1 (.t 1)),
oP 25 (.load (some 32) (.t 24)),
oP 26 (.fieldAddr 33 (.t 1)),
oP 27 (.load (some 32) (.t 26)),
oP 28 (.fieldAddr 65 (.t 1)),
oP 29 (.load (some 32) (.t 28)),
oP 30 (.buildSlice 32 3 (List.replicate 32 (.int .u8 0)) [(0,32, .t 25),(32,32, .t 27),(64,32, .t 29)]),
oP 31 (.len (.t 30)),
oP 32 (.move (.c (.int .i64 0)))])
def cZ.r4:aj:=(.region none [oP 33 (.bin .lss (.t 32) (.t 31))])
def cZ.r5:aj:=(.region none [oP 34 (.indexAddr none 32 (.t 30) (.t 32)),
oP 35 (.load (some 32) (.t 34)),
oP 4 (.alloc (List.replicate 32 (.int .u8 0))),
⟨none, .store 32 (.t 4) (.t 35),none⟩])
def cZ.r6:aj:=(.region none [oP 36 (.load (some 32) (.t 4)),
oP 37 (.move (.c (.int .i64 0)))])
def cZ.r7:aj:=(.region none [oP 38 (.bin .lss (.t 37) (.c (.int .i64 32)))])
def cZ.r8:aj:=(.region none [oM 39 37,
oP 40 (.index 32 1 none (.t 36) (.t 37)),
oM 5 39,
oM 6 40])
def cZ.r9:aj:=(.region none [oM 41 5,
oP 42 (.fieldAddr 0 (.t 1)),
oP 43 (.load none (.t 42)),
oP 44 (.bin .geq (.t 41) (.t 43))])
def cZ.r10:aj:=(.region none [oM 45 6,
oP 46 (.bin .neq (.t 45) (.c (.int .u8 0)))])
def cZ.r11:aj:=(.region none [oP 2 (.move (.c (.bool false)))])
def cZ.r12:aj:=(.region none [oM 47 6,
oP 48 (.conv .i64 (.t 47)),
oP 49 (.fieldAddr 0 (.t 1)),
oP 50 (.load none (.t 49)),
oP 51 (.bin .geq (.t 48) (.t 50)),
oM 52 51,
⟨some 53, .move (.t 6),some (52,false)⟩,
⟨some 54, .conv .i64 (.t 53),some (52,false)⟩,
⟨some 55, .move (.t 5),some (52,false)⟩,
⟨some 56, .bin .eql (.t 54) (.t 55),some (52,false)⟩,
oP 57 (.pick (.t 52) (.c (.bool true)) (.t 56)),
oM 58 57,
⟨some 59, .move (.t 6),some (58,false)⟩,
⟨some 60, .indexAddr (some 32) 1 (.t 4) (.t 59),some (58,false)⟩,
⟨some 61, .load none (.t 60),some (58,false)⟩,
⟨some 62, .conv .i64 (.t 61),some (58,false)⟩,
⟨some 63, .move (.t 5),some (58,false)⟩,
⟨some 64, .bin .neq (.t 62) (.t 63),some (58,false)⟩,
oP 65 (.pick (.t 58) (.c (.bool true)) (.t 64))])
def cZ.r13:aj:=(.region none [oP 2 (.move (.c (.bool false)))])
def cZ.gQ:aj:=(.region none [oP 66 (.bin .add (.t 37) (.c (.int .i64 1))),
oM 37 66])
def cZ.l0:aj:=(.seq cZ.r7 (.seq (.cond (.t 38) .skip (.exit 2)) (.seq (.block 3 (.seq cZ.r8 (.seq (.seq cZ.r9 (.cond (.t 44) (.seq (.seq cZ.r10 (.cond (.t 46) (.seq cZ.r11 .ret) .skip)) (.exit 3)) .skip)) (.seq cZ.r12 (.cond (.t 65) (.seq cZ.r13 .ret) .skip))))) cZ.gQ)))
def cZ.jR:aj:=(.region none [oP 67 (.bin .add (.t 32) (.c (.int .i64 1))),
oM 32 67])
def cZ.l1:aj:=(.seq cZ.r4 (.seq (.cond (.t 33) .skip (.exit 0)) (.seq (.block 1 (.seq cZ.r5 (.seq cZ.r6 (.block 2 (.loop cZ.l0))))) cZ.jR)))
def cZ.r16:aj:=(.region none [oP 68 (.fieldAddr 0 (.t 1)),
oP 69 (.load none (.t 68)),
oP 70 (.move (.c (.int .i64 0)))])
def cZ.kT:aj:=(.region none [oP 71 (.bin .lss (.t 70) (.t 69))])
def cZ.lY:aj:=(.region none [oM 72 70,
oM 7 72])
def cZ.lF:aj:=(.region (some 16) [oM 73 7,
oP 74 (.fieldAddr 1 (.t 1)),
oP 75 (.indexAddr (some 32) 1 (.t 74) (.t 73)),
oP 76 (.load none (.t 75)),
oP 77 (.fieldAddr 65 (.t 1)),
oP 78 (.indexAddr (some 32) 1 (.t 77) (.t 76)),
oP 79 (.load none (.t 78)),
oM 80 7,
oP 81 (.fieldAddr 65 (.t 1)),
oP 82 (.indexAddr (some 32) 1 (.t 81) (.t 80)),
oP 83 (.load none (.t 82)),
oP 84 (.fieldAddr 1 (.t 1)),
oP 85 (.indexAddr (some 32) 1 (.t 84) (.t 83)),
oP 86 (.load none (.t 85)),
oM 8 79,
oM 9 86])
def cZ.nS:aj:=(.region none [oM 87 8,
oM 88 9,
oP 89 (.bin .neq (.t 87) (.t 88)),
oM 90 89,
⟨some 91, .move (.t 8),some (90,false)⟩,
⟨some 92, .conv .i64 (.t 91),some (90,false)⟩,
⟨some 93, .move (.t 7),some (90,false)⟩,
⟨some 94, .bin .eql (.t 92) (.t 93),some (90,false)⟩,
oP 95 (.pick (.t 90) (.c (.bool true)) (.t 94))])
def cZ.ng:aj:=(.region none [oP 2 (.move (.c (.bool false)))])
def cZ.r22:aj:=(.region none [oP 96 (.bin .add (.t 70) (.c (.int .i64 1))),
oM 70 96])
def cZ.l2:aj:=(.seq cZ.kT (.seq (.cond (.t 71) .skip (.exit 4)) (.seq (.block 5 (.seq cZ.lY (.seq cZ.lF (.seq cZ.nS (.cond (.t 95) (.seq cZ.ng .ret) .skip))))) cZ.r22)))
def cZ.vN:aj:=(.region none [oP 97 (.fieldAddr 0 (.t 1)),
oP 98 (.load none (.t 97)),
oP 99 (.fieldAddr 1 (.t 1)),
oP 100 (.load (some 32) (.t 99)),
oP 101 (.fieldAddr 33 (.t 1)),
oP 102 (.load (some 32) (.t 101)),
oP 103 (.fieldAddr 65 (.t 1)),
oP 104 (.load (some 32) (.t 103)),
oP 105 (.buildSlice 32 3 (List.replicate 32 (.int .u8 0)) [(0,32, .t 100),(32,32, .t 102),(64,32, .t 104)]),
oP 106 (.call 182 [.t 98, .t 105]),
oP 107 (.len (.t 106)),
oP 108 (.bin .eql (.t 107) (.c (.int .i64 1))),
oM 2 108])
def cZ:bg:=⟨[.tmp 2],(.seq cZ.r0 (.seq (.seq cZ.r1 (.cond (.t 23) (.seq cZ.r2 .ret) .skip)) (.seq (.seq cZ.r3 (.block 0 (.loop cZ.l1))) (.seq (.seq cZ.r16 (.block 4 (.loop cZ.l2))) (.seq cZ.vN .ret)))))⟩
def dh.r0:aj:=(.region none [oP 4 (.move (.c (.slice none 0 0)))])
def dh.r1:aj:=(.region none [oP 13 (.build (List.replicate 32 (.bool false)) []),
oP 5 (.alloc (List.replicate 32 (.bool false))),
⟨none, .store 32 (.t 5) (.t 13),none⟩])
def dh.r2:aj:=(.region none [oP 14 (.buildSlice 1 0 [.int .i64 0] []),
oM 6 14])
def dh.r3:aj:=(.region none [oM 15 0,
oP 16 (.move (.c (.int .i64 0)))])
def dh.r4:aj:=(.region none [oP 17 (.bin .lss (.t 16) (.t 15))])
def dh.r5:aj:=(.region none [oM 18 16,
oM 7 18])
def dh.r6:aj:=(.region none [oM 19 7,
oP 20 (.indexAddr (some 32) 1 (.t 5) (.t 19)),
oP 21 (.load none (.t 20))])
def dh.r7:aj:=(.region none [oM 22 7,
oP 23 (.indexAddr (some 32) 1 (.t 5) (.t 22)),
⟨none, .store 1 (.t 23) (.c (.bool true)),none⟩])
def dh.r8:aj:=(.region none [oM 24 7,
oP 25 (.conv .u8 (.t 24)),
oP 26 (.buildSlice 1 1 [.int .u8 0] [(0,1, .t 25)]),
oM 8 26])
def dh.r9:aj:=(.region none [oP 9 (.move (.c (.int .i64 0)))])
def dh.r10:aj:=(.region none [oM 27 9,
oM 28 8,
oP 29 (.len (.t 28)),
oP 30 (.bin .lss (.t 27) (.t 29))])
def dh.r12:aj:=(.region none [oM 33 1,
oP 34 (.len (.t 33)),
oP 35 (.move (.c (.int .i64 0)))])
def dh.r13:aj:=(.region none [oP 36 (.bin .lss (.t 35) (.t 34))])
def dh.gQ:aj:=(.region none [oP 37 (.indexAddr none 32 (.t 33) (.t 35)),
oP 38 (.load (some 32) (.t 37)),
oP 11 (.alloc (List.replicate 32 (.int .u8 0))),
⟨none, .store 32 (.t 11) (.t 38),none⟩])
def dh.jR:aj:=(.region none [oM 39 8,
oM 40 9,
oP 41 (.indexAddr none 1 (.t 39) (.t 40)),
oP 42 (.load none (.t 41)),
oP 43 (.indexAddr (some 32) 1 (.t 11) (.t 42)),
oP 44 (.load none (.t 43)),
oM 12 44])
def dh.r16:aj:=(.region none [oM 45 12,
oP 46 (.indexAddr (some 32) 1 (.t 5) (.t 45)),
oP 47 (.load none (.t 46)),
oP 48 (.not (.t 47))])
def dh.kT:aj:=(.region none [oM 49 12,
oP 50 (.indexAddr (some 32) 1 (.t 5) (.t 49)),
⟨none, .store 1 (.t 50) (.c (.bool true)),none⟩])
def dh.lY:aj:=(.region none [oM 51 8,
oM 52 12,
oP 53 (.buildSlice 1 1 [.int .u8 0] [(0,1, .t 52)]),
oP 54 (.append 1 1 (.t 51) (.t 53)),
oM 8 54])
def dh.lF:aj:=(.region none [oP 55 (.bin .add (.t 35) (.c (.int .i64 1))),
oM 35 55])
def dh.l0:aj:=(.seq dh.r13 (.seq (.cond (.t 36) .skip (.exit 4)) (.seq (.block 5 (.seq dh.gQ (.seq dh.jR (.seq dh.r16 (.cond (.t 48) (.seq dh.kT dh.lY) .skip))))) dh.lF)))
def dh.r11:aj:=(.region none [oM 31 9,
oP 32 (.bin .add (.t 31) (.c (.int .i64 1))),
oM 9 32])
def dh.l1:aj:=(.seq (.seq dh.r10 (.cond (.t 30) .skip (.exit 2))) (.seq (.block 3 (.seq dh.r12 (.block 4 (.loop dh.l0)))) dh.r11))
def dh.nS:aj:=(.region none [oM 56 6,
oM 57 8,
oP 58 (.len (.t 57)),
oP 59 (.buildSlice 1 1 [.int .i64 0] [(0,1, .t 58)]),
oP 60 (.append 1 8 (.t 56) (.t 59)),
oM 6 60])
def dh.ng:aj:=(.region none [oP 61 (.bin .add (.t 16) (.c (.int .i64 1))),
oM 16 61])
def dh.l2:aj:=(.seq dh.r4 (.seq (.cond (.t 17) .skip (.exit 0)) (.seq (.block 1 (.seq dh.r5 (.seq (.seq dh.r6 (.cond (.t 21) (.exit 1) .skip)) (.seq dh.r7 (.seq dh.r8 (.seq (.seq dh.r9 (.block 2 (.loop dh.l1))) dh.nS)))))) dh.ng)))
def dh.r22:aj:=(.region none [oM 62 6,
oM 4 62])
def dh:bg:=⟨[.tmp 4],(.seq dh.r0 (.seq dh.r1 (.seq dh.r2 (.seq (.seq dh.r3 (.block 0 (.loop dh.l2))) (.seq dh.r22 .ret)))))⟩
def tZ.r0:aj:=(.region none [oP 6 (.move (.c (.bool false)))])
def tZ.r1:aj:=(.region none [oM 7 0,
oM 8 1,
oP 9 (.bin .geq (.t 7) (.t 8)),
oM 10 9,
⟨some 11, .move (.t 0),some (10,true)⟩,
⟨some 12, .move (.t 2),some (10,true)⟩,
⟨some 13, .bin .leq (.t 11) (.t 12),some (10,true)⟩,
oP 14 (.pick (.t 10) (.t 13) (.c (.bool false))),
oM 6 14])
def tZ:bg:=⟨[.tmp 6],(.seq tZ.r0 (.seq tZ.r1 .ret))⟩
def iD.r0:aj:=(.region none [oP 4 (.alloc ([.int .i64 0]++List.replicate 32 (.int .u8 0)))])
def iD.r1:aj:=(.region none [oM 9 0,
oM 10 1,
oP 11 (.call 102 [.t 9, .t 10]),
oP 12 (.bin .add (.c (.int .i64 1)) (.t 11)),
oM 5 12])
def iD.r2:aj:=(.region none [oP 6 (.move (.c (.int .i64 0)))])
def iD.r3:aj:=(.region none [oM 13 6,
oP 14 (.bin .lss (.t 13) (.c (.int .i64 8)))])
def iD.r5:aj:=(.region none [oM 17 5,
oM 18 0,
oM 19 5,
oM 20 0,
oM 21 5,
oP 22 (.buildSlice 1 4 [.int .i64 0] [(0,1,(.c (.int .i64 2))),(1,1,(.c (.int .i64 3))),(2,1,(.c (.int .i64 4))),(3,1, .t 21)]),
oP 23 (.call 98 [.t 20, .t 22]),
oP 24 (.call 387 [.t 18, .t 19, .t 23]),
oM 25 0,
oM 26 5,
oM 27 0,
oM 28 5,
oP 29 (.buildSlice 1 4 [.int .i64 0] [(0,1,(.c (.int .i64 2))),(1,1,(.c (.int .i64 2))),(2,1,(.c (.int .i64 3))),(3,1, .t 28)]),
oP 30 (.call 98 [.t 27, .t 29]),
oP 31 (.call 387 [.t 25, .t 26, .t 30]),
oP 32 (.build ([.int .i64 0]++List.replicate 32 (.int .u8 0)) [(0,1, .t 17),(1,16, .t 24),(17,16, .t 31)]),
oP 7 (.alloc ([.int .i64 0]++List.replicate 32 (.int .u8 0))),
⟨none, .store 33 (.t 7) (.t 32),none⟩])
def iD.r6:aj:=(.region none [oP 33 (.load (some 33) (.t 7)),
oP 34 (.call 184 [.t 33])])
def iD.r7:aj:=(.region none [oP 35 (.load (some 33) (.t 7)),
⟨none, .store 33 (.t 4) (.t 35),none⟩])
def iD.r4:aj:=(.region none [oM 15 6,
oP 16 (.bin .add (.t 15) (.c (.int .i64 1))),
oM 6 16])
def iD.l0:aj:=(.seq (.seq iD.r3 (.cond (.t 14) .skip (.exit 0))) (.seq (.block 1 (.seq iD.r5 (.seq iD.r6 (.cond (.t 34) (.seq iD.r7 .ret) .skip)))) iD.r4))
def iD.r8:aj:=(.region none [oM 36 5,
oP 37 (.call 388 [.t 36]),
oP 8 (.alloc ([.int .i64 0]++List.replicate 32 (.int .u8 0))),
⟨none, .store 33 (.t 8) (.t 37),none⟩])
def iD.r9:aj:=(.region none [oM 38 0,
oM 39 5,
oP 40 (.call 356 [.t 38, .t 39]),
oP 41 (.fieldAddr 17 (.t 8)),
⟨none, .store 16 (.t 41) (.t 40),none⟩])
def iD.r10:aj:=(.region none [oP 42 (.load (some 33) (.t 8)),
⟨none, .store 33 (.t 4) (.t 42),none⟩])
def iD:bg:=⟨[.cell 4 (some 33)],(.seq iD.r0 (.seq iD.r1 (.seq (.seq iD.r2 (.block 0 (.loop iD.l0))) (.seq iD.r8 (.seq iD.r9 (.seq iD.r10 .ret))))))⟩
def jq.r0:aj:=(.region none [oP 4 (.move (.c (.int .i64 0)))])
def jq.r1:aj:=(.region none [oM 6 1,
oP 7 (.bin .lss (.t 6) (.c (.int .i64 1)))])
def jq.r2:aj:=(.region none [oP 4 (.move (.c (.int .i64 0)))])
def jq.r3:aj:=(.region none [oM 8 0,
oM 9 0,
oP 10 (.nilCheck (.t 9)),
oP 11 (.fieldAddr 2 (.t 10)),
oP 12 (.load none (.t 11)),
oP 13 (.bin .mul (.t 12) (.c (.int .u64 6364136223846793005))),
oP 14 (.bin .add (.t 13) (.c (.int .u64 1442695040888963407))),
oP 15 (.nilCheck (.t 8)),
oP 16 (.fieldAddr 2 (.t 15)),
⟨none, .store 1 (.t 16) (.t 14),none⟩])
def jq.r4:aj:=(.region none [oM 17 0,
oP 18 (.nilCheck (.t 17)),
oP 19 (.fieldAddr 2 (.t 18)),
oP 20 (.load none (.t 19)),
oP 21 (.bin .shr (.t 20) (.c (.int .u64 33))),
oP 22 (.bin .and (.t 21) (.c (.int .u64 16777215))),
oP 23 (.conv .i64 (.t 22)),
oM 5 23])
def jq.r5:aj:=(.region (some 10) [oM 24 0,
oP 25 (.nilCheck (.t 24)),
oP 26 (.fieldAddr 1 (.t 25)),
oP 27 (.load none (.t 26)),
oM 28 0,
oP 29 (.nilCheck (.t 28)),
oP 30 (.fieldAddr 0 (.t 29)),
oP 31 (.load none (.t 30)),
oP 32 (.len (.t 31)),
oP 33 (.bin .lss (.t 27) (.t 32))])
def jq.r6:aj:=(.region (some 14) [oM 34 5,
oM 35 0,
oP 36 (.nilCheck (.t 35)),
oP 37 (.fieldAddr 0 (.t 36)),
oP 38 (.load none (.t 37)),
oM 39 0,
oP 40 (.nilCheck (.t 39)),
oP 41 (.fieldAddr 1 (.t 40)),
oP 42 (.load none (.t 41)),
oP 43 (.indexAddr none 1 (.t 38) (.t 42)),
oP 44 (.load none (.t 43)),
oP 45 (.conv .i64 (.t 44)),
oP 46 (.bin .add (.t 34) (.t 45)),
oM 5 46])
def jq.r7:aj:=(.region none [oM 47 0,
oM 48 0,
oP 49 (.nilCheck (.t 48)),
oP 50 (.fieldAddr 1 (.t 49)),
oP 51 (.load none (.t 50)),
oP 52 (.bin .add (.t 51) (.c (.int .i64 1))),
oP 53 (.nilCheck (.t 47)),
oP 54 (.fieldAddr 1 (.t 53)),
⟨none, .store 1 (.t 54) (.t 52),none⟩])
def jq.r8:aj:=(.region none [oM 55 5,
oM 56 1,
oP 57 (.bin .rem (.t 55) (.t 56)),
oM 4 57])
def jq:bg:=⟨[.tmp 4],(.seq jq.r0 (.seq (.seq jq.r1 (.cond (.t 7) (.seq jq.r2 .ret) .skip)) (.seq jq.r3 (.seq jq.r4 (.seq (.seq jq.r5 (.cond (.t 33) (.seq jq.r6 jq.r7) .skip)) (.seq jq.r8 .ret))))))⟩
def uf.r0:aj:=(.region none [oP 4 (.move (.c (.int .i64 0)))])
def uf.r1:aj:=(.region none [oM 5 1,
oM 6 0,
oM 7 1,
oP 8 (.len (.t 7)),
oP 9 (.call 102 [.t 6, .t 8]),
oP 10 (.indexAddr none 1 (.t 5) (.t 9)),
oP 11 (.load none (.t 10)),
oM 4 11])
def uf:bg:=⟨[.tmp 4],(.seq uf.r0 (.seq uf.r1 .ret))⟩
def jM.r0:aj:=(.region none [oP 2 (.alloc (List.replicate 16 (.int .u8 0)))])
def jM.r1:aj:=(.region none [oP 5 (.build (List.replicate 16 (.int .u8 0)) []),
oP 3 (.alloc (List.replicate 16 (.int .u8 0))),
⟨none, .store 16 (.t 3) (.t 5),none⟩])
def jM.r2:aj:=(.region none [oP 4 (.move (.c (.int .i64 0)))])
def jM.r3:aj:=(.region none [oM 6 4,
oM 7 0,
oP 8 (.bin .lss (.t 6) (.t 7))])
def jM.r5:aj:=(.region none [oM 11 4,
oM 12 4,
oP 13 (.conv .u8 (.t 12)),
oP 14 (.indexAddr (some 16) 1 (.t 3) (.t 11)),
⟨none, .store 1 (.t 14) (.t 13),none⟩])
def jM.r4:aj:=(.region none [oM 9 4,
oP 10 (.bin .add (.t 9) (.c (.int .i64 1))),
oM 4 10])
def jM.l0:aj:=(.seq (.seq jM.r3 (.cond (.t 8) .skip (.exit 0))) (.seq (.block 1 jM.r5) jM.r4))
def jM.r6:aj:=(.region none [oP 15 (.load (some 16) (.t 3)),
⟨none, .store 16 (.t 2) (.t 15),none⟩])
def jM:bg:=⟨[.cell 2 (some 16)],(.seq jM.r0 (.seq jM.r1 (.seq (.seq jM.r2 (.block 0 (.loop jM.l0))) (.seq jM.r6 .ret))))⟩
def fK.r0:aj:=(.region none [oP 2 (.box (.t 0)),
oP 4 (.move (.c (.bool false)))])
def fK.r1:aj:=(.region none [oM 8 1,
oP 9 (.call 220 [.t 8]),
oP 10 (.not (.t 9))])
def fK.r2:aj:=(.region none [oP 4 (.move (.c (.bool false)))])
def fK.r3:aj:=(.region none [oP 11 (.build (List.replicate 16 (.bool false)) []),
oP 5 (.alloc (List.replicate 16 (.bool false))),
⟨none, .store 16 (.t 5) (.t 11),none⟩])
def fK.r4:aj:=(.region none [oP 12 (.load (some 16) (.t 2)),
oP 13 (.move (.c (.int .i64 0)))])
def fK.r5:aj:=(.region none [oP 14 (.bin .lss (.t 13) (.c (.int .i64 16)))])
def fK.r6:aj:=(.region none [oM 15 13,
oP 16 (.index 16 1 none (.t 12) (.t 13)),
oM 6 15,
oM 7 16])
def fK.r7:aj:=(.region none [oM 17 6,
oM 18 1,
oP 19 (.bin .geq (.t 17) (.t 18))])
def fK.r8:aj:=(.region none [oM 20 7,
oP 21 (.bin .neq (.t 20) (.c (.int .u8 0)))])
def fK.r9:aj:=(.region none [oP 4 (.move (.c (.bool false)))])
def fK.r10:aj:=(.region none [oM 22 7,
oP 23 (.conv .i64 (.t 22)),
oM 24 1,
oP 25 (.bin .geq (.t 23) (.t 24)),
oM 26 25,
⟨some 27, .move (.t 7),some (26,false)⟩,
⟨some 28, .indexAddr (some 16) 1 (.t 5) (.t 27),some (26,false)⟩,
⟨some 29, .load none (.t 28),some (26,false)⟩,
oP 30 (.pick (.t 26) (.c (.bool true)) (.t 29))])
def fK.r11:aj:=(.region none [oP 4 (.move (.c (.bool false)))])
def fK.r12:aj:=(.region none [oM 31 7,
oP 32 (.indexAddr (some 16) 1 (.t 5) (.t 31)),
⟨none, .store 1 (.t 32) (.c (.bool true)),none⟩])
def fK.r13:aj:=(.region none [oP 33 (.bin .add (.t 13) (.c (.int .i64 1))),
oM 13 33])
def fK.l0:aj:=(.seq fK.r5 (.seq (.cond (.t 14) .skip (.exit 0)) (.seq (.block 1 (.seq fK.r6 (.seq (.seq fK.r7 (.cond (.t 19) (.seq (.seq fK.r8 (.cond (.t 21) (.seq fK.r9 .ret) .skip)) (.exit 1)) .skip)) (.seq (.seq fK.r10 (.cond (.t 30) (.seq fK.r11 .ret) .skip)) fK.r12)))) fK.r13)))
def fK.gQ:aj:=(.region none [oP 4 (.move (.c (.bool true)))])
def fK:bg:=⟨[.tmp 4],(.seq fK.r0 (.seq (.seq fK.r1 (.cond (.t 10) (.seq fK.r2 .ret) .skip)) (.seq fK.r3 (.seq (.seq fK.r4 (.block 0 (.loop fK.l0))) (.seq fK.gQ .ret)))))⟩
def eU.r0:aj:=(.region none [oP 4 (.move (.c (.int .i64 0)))])
def eU.r1:aj:=(.region none [oP 11 (.build (List.replicate 16 (.bool false)) [(0,1,(.c (.bool true)))]),
oP 5 (.alloc (List.replicate 16 (.bool false))),
⟨none, .store 16 (.t 5) (.t 11),none⟩])
def eU.r2:aj:=(.region none [oP 12 (.buildSlice 1 1 [.int .u8 0] [(0,1,(.c (.int .u8 0)))]),
oM 6 12])
def eU.r3:aj:=(.region none [oP 7 (.move (.c (.int .i64 0)))])
def eU.r4:aj:=(.region none [oM 13 7,
oM 14 6,
oP 15 (.len (.t 14)),
oP 16 (.bin .lss (.t 13) (.t 15))])
def eU.r6:aj:=(.region none [oM 19 1,
oP 20 (.len (.t 19)),
oP 21 (.move (.c (.int .i64 0)))])
def eU.r7:aj:=(.region none [oP 22 (.bin .lss (.t 21) (.t 20))])
def eU.r8:aj:=(.region none [oP 23 (.indexAddr none 16 (.t 19) (.t 21)),
oP 24 (.load (some 16) (.t 23)),
oP 9 (.alloc (List.replicate 16 (.int .u8 0))),
⟨none, .store 16 (.t 9) (.t 24),none⟩])
def eU.r9:aj:=(.region none [oM 25 6,
oM 26 7,
oP 27 (.indexAddr none 1 (.t 25) (.t 26)),
oP 28 (.load none (.t 27)),
oP 29 (.indexAddr (some 16) 1 (.t 9) (.t 28)),
oP 30 (.load none (.t 29)),
oM 10 30])
def eU.r10:aj:=(.region none [oM 31 10,
oP 32 (.indexAddr (some 16) 1 (.t 5) (.t 31)),
oP 33 (.load none (.t 32)),
oP 34 (.not (.t 33))])
def eU.r11:aj:=(.region none [oM 35 10,
oP 36 (.indexAddr (some 16) 1 (.t 5) (.t 35)),
⟨none, .store 1 (.t 36) (.c (.bool true)),none⟩])
def eU.r12:aj:=(.region none [oM 37 6,
oM 38 10,
oP 39 (.buildSlice 1 1 [.int .u8 0] [(0,1, .t 38)]),
oP 40 (.append 1 1 (.t 37) (.t 39)),
oM 6 40])
def eU.r13:aj:=(.region none [oP 41 (.bin .add (.t 21) (.c (.int .i64 1))),
oM 21 41])
def eU.l0:aj:=(.seq eU.r7 (.seq (.cond (.t 22) .skip (.exit 2)) (.seq (.block 3 (.seq eU.r8 (.seq eU.r9 (.seq eU.r10 (.cond (.t 34) (.seq eU.r11 eU.r12) .skip))))) eU.r13)))
def eU.r5:aj:=(.region none [oM 17 7,
oP 18 (.bin .add (.t 17) (.c (.int .i64 1))),
oM 7 18])
def eU.l1:aj:=(.seq (.seq eU.r4 (.cond (.t 16) .skip (.exit 0))) (.seq (.block 1 (.seq eU.r6 (.block 2 (.loop eU.l0)))) eU.r5))
def eU.gQ:aj:=(.region none [oM 42 6,
oP 43 (.len (.t 42)),
oM 4 43])
def eU:bg:=⟨[.tmp 4],(.seq eU.r0 (.seq eU.r1 (.seq eU.r2 (.seq (.seq eU.r3 (.block 0 (.loop eU.l1))) (.seq eU.gQ .ret)))))⟩
def jr.r0:aj:=(.region none [oP 2 (.box (.t 0)),
oP 4 (.move (.c (.slice none 0 0)))])
def jr.r1:aj:=(.region none [oP 8 (.buildSlice 1 0 [.int .i64 0] []),
oM 5 8])
def jr.r2:aj:=(.region none [oP 9 (.load (some 16) (.t 2)),
oM 10 1,
oP 11 (.call 223 [.t 9, .t 10]),
oP 12 (.len (.t 11)),
oP 13 (.move (.c (.int .i64 0)))])
def jr.r3:aj:=(.region none [oP 14 (.bin .lss (.t 13) (.t 12))])
def jr.r4:aj:=(.region none [oP 15 (.indexAddr none 1 (.t 11) (.t 13)),
oP 16 (.load none (.t 15)),
oM 7 16])
def jr.r5:aj:=(.region none [oM 17 5,
oM 18 7,
oP 19 (.len (.t 18)),
oP 20 (.buildSlice 1 1 [.int .i64 0] [(0,1, .t 19)]),
oP 21 (.append 1 8 (.t 17) (.t 20)),
oM 5 21])
def jr.r6:aj:=(.region none [oP 22 (.bin .add (.t 13) (.c (.int .i64 1))),
oM 13 22])
def jr.l0:aj:=(.seq jr.r3 (.seq (.cond (.t 14) .skip (.exit 0)) (.seq (.block 1 (.seq jr.r4 jr.r5)) jr.r6)))
def jr.r7:aj:=(.region none [oM 23 5,
oP 24 (.call 219 [.t 23]),
oM 4 24])
def jr:bg:=⟨[.tmp 4],(.seq jr.r0 (.seq jr.r1 (.seq (.seq jr.r2 (.block 0 (.loop jr.l0))) (.seq jr.r7 .ret))))⟩
def fZ.r0:aj:=(.region none [oP 2 (.box (.t 0)),
oP 4 (.move (.c (.bool false)))])
def fZ.r1:aj:=(.region none [oM 7 1,
oP 8 (.call 58 [.t 7,(.c (.int .i64 1)),(.c (.int .i64 16))]),
oP 9 (.not (.t 8))])
def fZ.r2:aj:=(.region none [oP 4 (.move (.c (.bool false)))])
def fZ.r3:aj:=(.region none [oP 10 (.build (List.replicate 16 (.bool false)) []),
oP 5 (.alloc (List.replicate 16 (.bool false))),
⟨none, .store 16 (.t 5) (.t 10),none⟩])
def fZ.r4:aj:=(.region none [oP 6 (.move (.c (.int .i64 0)))])
def fZ.r5:aj:=(.region none [oM 11 6,
oP 12 (.bin .lss (.t 11) (.c (.int .i64 16)))])
def fZ.r8:aj:=(.region none [oM 20 6,
oM 21 1,
oP 22 (.bin .geq (.t 20) (.t 21)),
oM 19 22])
def fZ.r9:aj:=(.region none [oM 23 6,
oP 24 (.indexAddr (some 16) 1 (.t 2) (.t 23)),
oP 25 (.load none (.t 24)),
oP 26 (.bin .neq (.t 25) (.c (.int .u8 0)))])
def fZ.r10:aj:=(.region none [oP 4 (.move (.c (.bool false)))])
def fZ.r11:aj:=(.region none [oM 28 6,
oP 29 (.indexAddr (some 16) 1 (.t 2) (.t 28)),
oP 30 (.load none (.t 29)),
oP 31 (.conv .i64 (.t 30)),
oM 32 1,
oP 33 (.bin .geq (.t 31) (.t 32)),
oM 34 33,
⟨some 35, .move (.t 6),some (34,false)⟩,
⟨some 36, .indexAddr (some 16) 1 (.t 2) (.t 35),some (34,false)⟩,
⟨some 37, .load none (.t 36),some (34,false)⟩,
⟨some 38, .indexAddr (some 16) 1 (.t 5) (.t 37),some (34,false)⟩,
⟨some 39, .load none (.t 38),some (34,false)⟩,
oP 40 (.pick (.t 34) (.c (.bool true)) (.t 39)),
oM 27 40])
def fZ.r12:aj:=(.region none [oP 4 (.move (.c (.bool false)))])
def fZ.r7:aj:=(.region none [oM 15 6,
oP 16 (.indexAddr (some 16) 1 (.t 2) (.t 15)),
oP 17 (.load none (.t 16)),
oP 18 (.indexAddr (some 16) 1 (.t 5) (.t 17)),
⟨none, .store 1 (.t 18) (.c (.bool true)),none⟩])
def fZ.r6:aj:=(.region none [oM 13 6,
oP 14 (.bin .add (.t 13) (.c (.int .i64 1))),
oM 6 14])
def fZ.l0:aj:=(.seq (.seq fZ.r5 (.cond (.t 12) .skip (.exit 0))) (.seq (.block 1 (.block 2 (.seq fZ.r8 (.cond (.t 19) (.seq fZ.r9 (.cond (.t 26) (.seq fZ.r10 .ret) .skip)) (.seq fZ.r11 (.cond (.t 27) (.seq fZ.r12 .ret) fZ.r7)))))) fZ.r6))
def fZ.r13:aj:=(.region none [oP 4 (.move (.c (.bool true)))])
def fZ:bg:=⟨[.tmp 4],(.seq fZ.r0 (.seq (.seq fZ.r1 (.cond (.t 9) (.seq fZ.r2 .ret) .skip)) (.seq fZ.r3 (.seq (.seq fZ.r4 (.block 0 (.loop fZ.l0))) (.seq fZ.r13 .ret)))))⟩
def fG.r0:aj:=(.region none [oP 4 (.box (.t 1)),
oP 5 (.box (.t 2)),
oP 6 (.move (.c (.bool false)))])
def fG.r1:aj:=(.region none [oP 12 (.build (List.replicate 16 (.bool false)) []),
oP 13 (.buildSlice 1 1 [.int .u8 0] [(0,1,(.c (.int .u8 0)))]),
oP 7 (.alloc (List.replicate 16 (.bool false))),
⟨none, .store 16 (.t 7) (.t 12),none⟩,
oM 8 13])
def fG.r2:aj:=(.region none [oP 14 (.indexAddr (some 16) 1 (.t 7) (.c (.int .i64 0))),
⟨none, .store 1 (.t 14) (.c (.bool true)),none⟩])
def fG.r3:aj:=(.region none [oP 9 (.move (.c (.int .i64 0)))])
def fG.r4:aj:=(.region none [oM 15 9,
oM 16 8,
oP 17 (.len (.t 16)),
oP 18 (.bin .lss (.t 15) (.t 17))])
def fG.r6:aj:=(.region (some 14) [oM 21 8,
oM 22 9,
oP 23 (.indexAddr none 1 (.t 21) (.t 22)),
oP 24 (.load none (.t 23)),
oP 25 (.indexAddr (some 16) 1 (.t 4) (.t 24)),
oP 26 (.load none (.t 25)),
oM 27 8,
oM 28 9,
oP 29 (.indexAddr none 1 (.t 27) (.t 28)),
oP 30 (.load none (.t 29)),
oP 31 (.indexAddr (some 16) 1 (.t 5) (.t 30)),
oP 32 (.load none (.t 31)),
oP 33 (.buildSlice 1 2 [.int .u8 0] [(0,1, .t 26),(1,1, .t 32)]),
oM 10 33])
def fG.r7:aj:=(.region none [oP 11 (.move (.c (.int .i64 0)))])
def fG.r8:aj:=(.region none [oM 34 11,
oP 35 (.bin .lss (.t 34) (.c (.int .i64 2)))])
def fG.r10:aj:=(.region none [oM 38 10,
oM 39 11,
oP 40 (.indexAddr none 1 (.t 38) (.t 39)),
oP 41 (.load none (.t 40)),
oP 42 (.indexAddr (some 16) 1 (.t 7) (.t 41)),
oP 43 (.load none (.t 42)),
oP 44 (.not (.t 43))])
def fG.r11:aj:=(.region none [oM 45 10,
oM 46 11,
oP 47 (.indexAddr none 1 (.t 45) (.t 46)),
oP 48 (.load none (.t 47)),
oP 49 (.indexAddr (some 16) 1 (.t 7) (.t 48)),
⟨none, .store 1 (.t 49) (.c (.bool true)),none⟩])
def fG.r12:aj:=(.region none [oM 50 8,
oM 51 10,
oM 52 11,
oP 53 (.indexAddr none 1 (.t 51) (.t 52)),
oP 54 (.load none (.t 53)),
oP 55 (.buildSlice 1 1 [.int .u8 0] [(0,1, .t 54)]),
oP 56 (.append 1 1 (.t 50) (.t 55)),
oM 8 56])
def fG.r9:aj:=(.region none [oM 36 11,
oP 37 (.bin .add (.t 36) (.c (.int .i64 1))),
oM 11 37])
def fG.l0:aj:=(.seq (.seq fG.r8 (.cond (.t 35) .skip (.exit 2))) (.seq (.block 3 (.seq fG.r10 (.cond (.t 44) (.seq fG.r11 fG.r12) .skip))) fG.r9))
def fG.r5:aj:=(.region none [oM 19 9,
oP 20 (.bin .add (.t 19) (.c (.int .i64 1))),
oM 9 20])
def fG.l1:aj:=(.seq (.seq fG.r4 (.cond (.t 18) .skip (.exit 0))) (.seq (.block 1 (.seq fG.r6 (.seq fG.r7 (.block 2 (.loop fG.l0))))) fG.r5))
def fG.r13:aj:=(.region none [oM 57 8,
oP 58 (.len (.t 57)),
oM 59 0,
oP 60 (.bin .eql (.t 58) (.t 59)),
oM 6 60])
def fG:bg:=⟨[.tmp 6],(.seq fG.r0 (.seq fG.r1 (.seq fG.r2 (.seq (.seq fG.r3 (.block 0 (.loop fG.l1))) (.seq fG.r13 .ret)))))⟩
def eX.r0:aj:=(.region none [oP 2 (.box (.t 0)),
oP 4 (.move (.c (.slice none 0 0)))])
def eX.r1:aj:=(.region none [oP 11 (.build (List.replicate 17 (.int .i64 0)) []),
oP 12 (.load (some 16) (.t 2)),
oM 13 1,
oP 14 (.call 285 [.t 12, .t 13]),
oP 15 (.buildSlice 1 0 [.int .i64 0] []),
oP 5 (.alloc (List.replicate 17 (.int .i64 0))),
⟨none, .store 17 (.t 5) (.t 11),none⟩,
oM 6 14,
oM 7 15])
def eX.r2:aj:=(.region none [oP 8 (.move (.c (.int .i64 0)))])
def eX.r3:aj:=(.region none [oM 16 8,
oM 17 6,
oP 18 (.len (.t 17)),
oP 19 (.bin .lss (.t 16) (.t 18))])
def eX.r5:aj:=(.region none [oM 22 6,
oM 23 8,
oP 24 (.indexAddr none 1 (.t 22) (.t 23)),
oP 25 (.load none (.t 24)),
oP 26 (.len (.t 25)),
oP 27 (.indexAddr (some 17) 1 (.t 5) (.t 26)),
oP 28 (.load none (.t 27)),
oP 29 (.bin .add (.t 28) (.c (.int .i64 1))),
oP 30 (.indexAddr (some 17) 1 (.t 5) (.t 26)),
⟨none, .store 1 (.t 30) (.t 29),none⟩])
def eX.r4:aj:=(.region none [oM 20 8,
oP 21 (.bin .add (.t 20) (.c (.int .i64 1))),
oM 8 21])
def eX.l0:aj:=(.seq (.seq eX.r3 (.cond (.t 19) .skip (.exit 0))) (.seq (.block 1 eX.r5) eX.r4))
def eX.r6:aj:=(.region none [oM 31 1,
oM 9 31])
def eX.r7:aj:=(.region none [oM 32 9,
oP 33 (.bin .gtr (.t 32) (.c (.int .i64 0)))])
def eX.r9:aj:=(.region none [oM 36 9,
oP 37 (.indexAddr (some 17) 1 (.t 5) (.t 36)),
oP 38 (.load none (.t 37)),
oM 10 38])
def eX.r10:aj:=(.region none [oM 39 10,
oP 40 (.bin .gtr (.t 39) (.c (.int .i64 0)))])
def eX.r12:aj:=(.region none [oM 43 7,
oM 44 9,
oP 45 (.buildSlice 1 1 [.int .i64 0] [(0,1, .t 44)]),
oP 46 (.append 1 8 (.t 43) (.t 45)),
oM 7 46])
def eX.r11:aj:=(.region none [oM 41 10,
oP 42 (.bin .sub (.t 41) (.c (.int .i64 1))),
oM 10 42])
def eX.l1:aj:=(.seq (.seq eX.r10 (.cond (.t 40) .skip (.exit 4))) (.seq (.block 5 eX.r12) eX.r11))
def eX.r8:aj:=(.region none [oM 34 9,
oP 35 (.bin .sub (.t 34) (.c (.int .i64 1))),
oM 9 35])
def eX.l2:aj:=(.seq (.seq eX.r7 (.cond (.t 33) .skip (.exit 2))) (.seq (.block 3 (.seq eX.r9 (.block 4 (.loop eX.l1)))) eX.r8))
def eX.r13:aj:=(.region none [oM 47 7,
oM 4 47])
def eX:bg:=⟨[.tmp 4],(.seq eX.r0 (.seq eX.r1 (.seq (.seq eX.r2 (.block 0 (.loop eX.l0))) (.seq (.seq eX.r6 (.block 2 (.loop eX.l2))) (.seq eX.r13 .ret)))))⟩
def ug.r0:aj:=(.region none [oP 1 (.box (.t 0)),
oP 2 (.alloc (List.replicate 16 (.int .u8 0)))])
def ug.r1:aj:=(.region (some 10) [oP 3 (.fieldAddr 1 (.t 1)),
oP 4 (.load (some 16) (.t 3)),
oP 5 (.fieldAddr 17 (.t 1)),
oP 6 (.load (some 16) (.t 5)),
oP 7 (.fieldAddr 0 (.t 1)),
oP 8 (.load none (.t 7)),
oP 9 (.call 212 [.t 4, .t 6, .t 8]),
oP 10 (.fieldAddr 0 (.t 1)),
oP 11 (.load none (.t 10)),
oP 12 (.call 208 [.t 9, .t 11]),
⟨none, .store 16 (.t 2) (.t 12),none⟩])
def ug:bg:=⟨[.cell 2 (some 16)],(.seq ug.r0 (.seq ug.r1 .ret))⟩
def jd.r0:aj:=(.region none [oP 2 (.box (.t 0)),
oP 3 (.box (.t 1)),
oP 4 (.alloc ([.int .i64 0]++List.replicate 32 (.int .u8 0)))])
def jd.r1:aj:=(.region none [oP 7 (.fieldAddr 0 (.t 2)),
oP 8 (.load none (.t 7)),
oP 9 (.build ([.int .i64 0]++List.replicate 32 (.int .u8 0)) [(0,1, .t 8)]),
oP 5 (.alloc ([.int .i64 0]++List.replicate 32 (.int .u8 0))),
⟨none, .store 33 (.t 5) (.t 9),none⟩])
def jd.r2:aj:=(.region none [oP 10 (.fieldAddr 0 (.t 2)),
oP 11 (.load none (.t 10)),
oP 12 (.move (.c (.int .i64 0)))])
def jd.r3:aj:=(.region none [oP 13 (.bin .lss (.t 12) (.t 11))])
def jd.r4:aj:=(.region none [oM 14 12,
oM 6 14])
def jd.r5:aj:=(.region (some 11) [oM 15 6,
oP 16 (.indexAddr (some 16) 1 (.t 3) (.t 15)),
oP 17 (.load none (.t 16)),
oM 18 6,
oP 19 (.fieldAddr 1 (.t 2)),
oP 20 (.indexAddr (some 16) 1 (.t 19) (.t 18)),
oP 21 (.load none (.t 20)),
oP 22 (.indexAddr (some 16) 1 (.t 3) (.t 21)),
oP 23 (.load none (.t 22)),
oP 24 (.fieldAddr 1 (.t 5)),
oP 25 (.indexAddr (some 16) 1 (.t 24) (.t 17)),
⟨none, .store 1 (.t 25) (.t 23),none⟩])
def jd.r6:aj:=(.region (some 11) [oM 26 6,
oP 27 (.indexAddr (some 16) 1 (.t 3) (.t 26)),
oP 28 (.load none (.t 27)),
oM 29 6,
oP 30 (.fieldAddr 17 (.t 2)),
oP 31 (.indexAddr (some 16) 1 (.t 30) (.t 29)),
oP 32 (.load none (.t 31)),
oP 33 (.indexAddr (some 16) 1 (.t 3) (.t 32)),
oP 34 (.load none (.t 33)),
oP 35 (.fieldAddr 17 (.t 5)),
oP 36 (.indexAddr (some 16) 1 (.t 35) (.t 28)),
⟨none, .store 1 (.t 36) (.t 34),none⟩])
def jd.r7:aj:=(.region none [oP 37 (.bin .add (.t 12) (.c (.int .i64 1))),
oM 12 37])
def jd.l0:aj:=(.seq jd.r3 (.seq (.cond (.t 13) .skip (.exit 0)) (.seq (.block 1 (.seq jd.r4 (.seq jd.r5 jd.r6))) jd.r7)))
def jd.r8:aj:=(.region none [oP 38 (.load (some 33) (.t 5)),
⟨none, .store 33 (.t 4) (.t 38),none⟩])
def jd:bg:=⟨[.cell 4 (some 33)],(.seq jd.r0 (.seq jd.r1 (.seq (.seq jd.r2 (.block 0 (.loop jd.l0))) (.seq jd.r8 .ret))))⟩
def jv.r0:aj:=(.region none [oP 2 (.box (.t 0)),
oP 4 (.alloc (List.replicate 16 (.int .u8 0)))])
def jv.r1:aj:=(.region none [oP 8 (.build (List.replicate 16 (.int .u8 0)) []),
oP 5 (.alloc (List.replicate 16 (.int .u8 0))),
⟨none, .store 16 (.t 5) (.t 8),none⟩])
def jv.r2:aj:=(.region none [oP 9 (.load (some 33) (.t 2)),
oM 10 1,
oP 11 (.call 221 [.t 9, .t 10]),
oP 12 (.len (.t 11)),
oP 13 (.move (.c (.int .i64 0)))])
def jv.r3:aj:=(.region none [oP 14 (.bin .lss (.t 13) (.t 12))])
def jv.r4:aj:=(.region none [oM 15 13,
oP 16 (.indexAddr none 1 (.t 11) (.t 13)),
oP 17 (.load none (.t 16)),
oM 6 15,
oM 7 17])
def jv.r5:aj:=(.region none [oM 18 7,
oM 19 6,
oP 20 (.conv .u8 (.t 19)),
oP 21 (.indexAddr (some 16) 1 (.t 5) (.t 18)),
⟨none, .store 1 (.t 21) (.t 20),none⟩])
def jv.r6:aj:=(.region none [oP 22 (.bin .add (.t 13) (.c (.int .i64 1))),
oM 13 22])
def jv.l0:aj:=(.seq jv.r3 (.seq (.cond (.t 14) .skip (.exit 0)) (.seq (.block 1 (.seq jv.r4 jv.r5)) jv.r6)))
def jv.r7:aj:=(.region none [oP 23 (.load (some 16) (.t 5)),
⟨none, .store 16 (.t 4) (.t 23),none⟩])
def jv:bg:=⟨[.cell 4 (some 16)],(.seq jv.r0 (.seq jv.r1 (.seq (.seq jv.r2 (.block 0 (.loop jv.l0))) (.seq jv.r7 .ret))))⟩
def mW.r0:aj:=(.region none [oP 2 (.box (.t 0)),
oP 3 (.box (.t 1)),
oP 4 (.move (.c (.int .i64 0)))])
def mW.r1:aj:=(.region none [oP 6 (.fieldAddr 1 (.t 2)),
oP 7 (.load (some 16) (.t 6)),
oP 8 (.fieldAddr 1 (.t 3)),
oP 9 (.load (some 16) (.t 8)),
oP 10 (.call 222 [.t 7, .t 9]),
oM 5 10])
def mW.r2:aj:=(.region none [oM 11 5,
oP 12 (.bin .neq (.t 11) (.c (.int .i64 0)))])
def mW.r3:aj:=(.region none [oM 13 5,
oM 4 13])
def mW.r4:aj:=(.region none [oP 14 (.fieldAddr 17 (.t 2)),
oP 15 (.load (some 16) (.t 14)),
oP 16 (.fieldAddr 17 (.t 3)),
oP 17 (.load (some 16) (.t 16)),
oP 18 (.call 222 [.t 15, .t 17]),
oM 4 18])
def mW:bg:=⟨[.tmp 4],(.seq mW.r0 (.seq (.seq mW.r1 (.seq mW.r2 (.cond (.t 12) (.seq mW.r3 .ret) .skip))) (.seq mW.r4 .ret)))⟩
def dB.r0:aj:=(.region none [oP 4 (.move (.c (.pointer none)))])
def dB.r1:aj:=(.region none [oM 13 0,
oP 14 (.build ([.int .i64 0]++List.replicate 4096 (.int .u8 0)++List.replicate 256 (.bool false)) [(0,1, .t 13)]),
oP 15 (.box (.t 14)),
oM 5 15])
def dB.r2:aj:=(.region none [oM 16 0,
oP 17 (.move (.c (.int .i64 0)))])
def dB.r3:aj:=(.region none [oP 18 (.bin .lss (.t 17) (.t 16))])
def dB.r4:aj:=(.region none [oM 19 17,
oM 6 19])
def dB.r5:aj:=(.region (some 9) [oM 20 5,
oM 21 6,
oM 22 6,
oM 23 0,
oP 24 (.call 417 [.t 23]),
oP 25 (.nilCheck (.t 20)),
oP 26 (.fieldAddr 1 (.t 25)),
oP 27 (.indexAddr (some 16) 256 (.t 26) (.t 21)),
oP 28 (.indexAddr (some 16) 16 (.t 27) (.t 22)),
⟨none, .store 16 (.t 28) (.t 24),none⟩])
def dB.r6:aj:=(.region none [oM 29 5,
oM 30 6,
oM 31 6,
oP 32 (.nilCheck (.t 29)),
oP 33 (.fieldAddr 4097 (.t 32)),
oP 34 (.indexAddr (some 16) 16 (.t 33) (.t 30)),
oP 35 (.indexAddr (some 16) 1 (.t 34) (.t 31)),
⟨none, .store 1 (.t 35) (.c (.bool true)),none⟩])
def dB.r7:aj:=(.region none [oP 36 (.bin .add (.t 17) (.c (.int .i64 1))),
oM 17 36])
def dB.l0:aj:=(.seq dB.r3 (.seq (.cond (.t 18) .skip (.exit 0)) (.seq (.block 1 (.seq dB.r4 (.seq dB.r5 dB.r6))) dB.r7)))
def dB.r8:aj:=(.region none [oP 37 (.buildSlice 16 0 (List.replicate 16 (.int .u8 0)) []),
oM 7 37])
def dB.r9:aj:=(.region none [oM 38 1,
oP 39 (.call 418 [.t 38]),
oM 8 39])
def dB.r10:aj:=(.region none [oM 40 8,
oP 41 (.len (.t 40)),
oP 42 (.bin .gtr (.t 41) (.c (.int .i64 0)))])
def dB.r11:aj:=(.region none [oM 44 5,
oM 45 8,
oM 46 8,
oP 47 (.len (.t 46)),
oP 48 (.bin .sub (.t 47) (.c (.int .i64 1))),
oP 49 (.indexAddr none 16 (.t 45) (.t 48)),
oP 50 (.load (some 16) (.t 49)),
oP 51 (.call 419 [.t 44, .t 50]),
oM 43 51,
oP 52 (.extract (.t 43) 0),
oP 53 (.extract (.t 43) 1),
oP 9 (.alloc (List.replicate 16 (.int .u8 0))),
⟨none, .store 16 (.t 9) (.t 52),none⟩,
oM 10 53])
def dB.r12:aj:=(.region none [oM 54 8,
oM 55 8,
oP 56 (.len (.t 55)),
oP 57 (.bin .sub (.t 56) (.c (.int .i64 1))),
oP 58 (.slice 16 (.t 54) none (some (.t 57))),
oM 8 58])
def dB.r13:aj:=(.region none [oM 59 10,
oM 60 0,
oP 61 (.bin .eql (.t 59) (.t 60))])
def dB.gQ:aj:=(.region (some 10) [oM 62 5,
oM 63 10,
oM 64 10,
oP 65 (.indexAddr (some 16) 1 (.t 9) (.t 64)),
oP 66 (.load none (.t 65)),
oP 67 (.load (some 16) (.t 9)),
oP 68 (.nilCheck (.t 62)),
oP 69 (.fieldAddr 1 (.t 68)),
oP 70 (.indexAddr (some 16) 256 (.t 69) (.t 63)),
oP 71 (.indexAddr (some 16) 16 (.t 70) (.t 66)),
⟨none, .store 16 (.t 71) (.t 67),none⟩])
def dB.jR:aj:=(.region (some 9) [oM 72 5,
oM 73 10,
oM 74 10,
oP 75 (.indexAddr (some 16) 1 (.t 9) (.t 74)),
oP 76 (.load none (.t 75)),
oP 77 (.nilCheck (.t 72)),
oP 78 (.fieldAddr 4097 (.t 77)),
oP 79 (.indexAddr (some 16) 16 (.t 78) (.t 73)),
oP 80 (.indexAddr (some 16) 1 (.t 79) (.t 76)),
⟨none, .store 1 (.t 80) (.c (.bool true)),none⟩])
def dB.r16:aj:=(.region none [oM 81 7,
oP 82 (.load (some 16) (.t 9)),
oP 83 (.buildSlice 16 1 (List.replicate 16 (.int .u8 0)) [(0,16, .t 82)]),
oP 84 (.append 16 16 (.t 81) (.t 83)),
oM 7 84])
def dB.kT:aj:=(.region none [oM 85 7,
oP 86 (.len (.t 85)),
oP 87 (.move (.c (.int .i64 0)))])
def dB.lY:aj:=(.region none [oP 88 (.bin .lss (.t 87) (.t 86))])
def dB.lF:aj:=(.region none [oP 89 (.indexAddr none 16 (.t 85) (.t 87)),
oP 90 (.load (some 16) (.t 89)),
oP 12 (.alloc (List.replicate 16 (.int .u8 0))),
⟨none, .store 16 (.t 12) (.t 90),none⟩])
def dB.nS:aj:=(.region (some 10) [oM 91 8,
oP 92 (.load (some 16) (.t 9)),
oP 93 (.load (some 16) (.t 12)),
oM 94 0,
oP 95 (.call 213 [.t 92, .t 93, .t 94]),
oP 96 (.load (some 16) (.t 12)),
oP 97 (.load (some 16) (.t 9)),
oM 98 0,
oP 99 (.call 213 [.t 96, .t 97, .t 98]),
oP 100 (.buildSlice 16 2 (List.replicate 16 (.int .u8 0)) [(0,16, .t 95),(16,16, .t 99)]),
oP 101 (.append 16 16 (.t 91) (.t 100)),
oM 8 101])
def dB.ng:aj:=(.region none [oP 102 (.bin .add (.t 87) (.c (.int .i64 1))),
oM 87 102])
def dB.l1:aj:=(.seq dB.lY (.seq (.cond (.t 88) .skip (.exit 4)) (.seq (.block 5 (.seq dB.lF dB.nS)) dB.ng)))
def dB.l2:aj:=(.seq (.seq dB.r10 (.cond (.t 42) .skip (.exit 2))) (.block 3 (.seq dB.r11 (.seq dB.r12 (.seq (.seq dB.r13 (.cond (.t 61) (.exit 3) .skip)) (.seq dB.gQ (.seq dB.jR (.seq dB.r16 (.seq dB.kT (.block 4 (.loop dB.l1)))))))))))
def dB.r22:aj:=(.region none [oM 103 5,
oM 4 103])
def dB:bg:=⟨[.tmp 4],(.seq dB.r0 (.seq dB.r1 (.seq (.seq dB.r2 (.block 0 (.loop dB.l0))) (.seq dB.r8 (.seq dB.r9 (.seq (.block 2 (.loop dB.l2)) (.seq dB.r22 .ret)))))))⟩
def jw.r0:aj:=(.region none [oP 2 (.box (.t 0)),
oP 4 (.alloc (List.replicate 16 (.int .u8 0)))])
def jw.r1:aj:=(.region none [oP 7 (.build (List.replicate 16 (.int .u8 0)) []),
oP 5 (.alloc (List.replicate 16 (.int .u8 0))),
⟨none, .store 16 (.t 5) (.t 7),none⟩])
def jw.r2:aj:=(.region none [oM 8 1,
oP 9 (.move (.c (.int .i64 0)))])
def jw.r3:aj:=(.region none [oP 10 (.bin .lss (.t 9) (.t 8))])
def jw.r4:aj:=(.region none [oM 11 9,
oM 6 11])
def jw.r5:aj:=(.region none [oM 12 6,
oP 13 (.indexAddr (some 16) 1 (.t 2) (.t 12)),
oP 14 (.load none (.t 13)),
oM 15 6,
oP 16 (.conv .u8 (.t 15)),
oP 17 (.indexAddr (some 16) 1 (.t 5) (.t 14)),
⟨none, .store 1 (.t 17) (.t 16),none⟩])
def jw.r6:aj:=(.region none [oP 18 (.bin .add (.t 9) (.c (.int .i64 1))),
oM 9 18])
def jw.l0:aj:=(.seq jw.r3 (.seq (.cond (.t 10) .skip (.exit 0)) (.seq (.block 1 (.seq jw.r4 jw.r5)) jw.r6)))
def jw.r7:aj:=(.region none [oP 19 (.load (some 16) (.t 5)),
⟨none, .store 16 (.t 4) (.t 19),none⟩])
def jw:bg:=⟨[.cell 4 (some 16)],(.seq jw.r0 (.seq jw.r1 (.seq (.seq jw.r2 (.block 0 (.loop jw.l0))) (.seq jw.r7 .ret))))⟩
def jy.r0:aj:=(.region none [oP 3 (.box (.t 0)),
oP 4 (.box (.t 1)),
oP 6 (.alloc (List.replicate 16 (.int .u8 0)))])
def jy.r1:aj:=(.region none [oP 9 (.build (List.replicate 16 (.int .u8 0)) []),
oP 7 (.alloc (List.replicate 16 (.int .u8 0))),
⟨none, .store 16 (.t 7) (.t 9),none⟩])
def jy.r2:aj:=(.region none [oM 10 2,
oP 11 (.move (.c (.int .i64 0)))])
def jy.r3:aj:=(.region none [oP 12 (.bin .lss (.t 11) (.t 10))])
def jy.r4:aj:=(.region none [oM 13 11,
oM 8 13])
def jy.r5:aj:=(.region none [oM 14 8,
oM 15 8,
oP 16 (.indexAddr (some 16) 1 (.t 3) (.t 15)),
oP 17 (.load none (.t 16)),
oP 18 (.indexAddr (some 16) 1 (.t 4) (.t 17)),
oP 19 (.load none (.t 18)),
oP 20 (.indexAddr (some 16) 1 (.t 7) (.t 14)),
⟨none, .store 1 (.t 20) (.t 19),none⟩])
def jy.r6:aj:=(.region none [oP 21 (.bin .add (.t 11) (.c (.int .i64 1))),
oM 11 21])
def jy.l0:aj:=(.seq jy.r3 (.seq (.cond (.t 12) .skip (.exit 0)) (.seq (.block 1 (.seq jy.r4 jy.r5)) jy.r6)))
def jy.r7:aj:=(.region none [oP 22 (.load (some 16) (.t 7)),
⟨none, .store 16 (.t 6) (.t 22),none⟩])
def jy:bg:=⟨[.cell 6 (some 16)],(.seq jy.r0 (.seq jy.r1 (.seq (.seq jy.r2 (.block 0 (.loop jy.l0))) (.seq jy.r7 .ret))))⟩
def uh.r0:aj:=(.region none [oP 4 (.move (.c (.int .i64 0)))])
def uh.r1:aj:=(.region (some 17) [oM 5 0,
oP 6 (.indexAddr none 1 (.t 5) (.c (.int .i64 0))),
oP 7 (.load none (.t 6)),
oP 8 (.len (.t 7)),
oM 9 0,
oP 10 (.indexAddr none 1 (.t 9) (.c (.int .i64 1))),
oP 11 (.load none (.t 10)),
oP 12 (.len (.t 11)),
oP 13 (.bin .add (.t 8) (.t 12)),
oM 14 0,
oP 15 (.indexAddr none 1 (.t 14) (.c (.int .i64 2))),
oP 16 (.load none (.t 15)),
oP 17 (.len (.t 16)),
oP 18 (.bin .add (.t 13) (.t 17)),
oM 19 1,
oP 20 (.bin .sub (.t 18) (.t 19)),
oM 4 20])
def uh:bg:=⟨[.tmp 4],(.seq uh.r0 (.seq uh.r1 .ret))⟩
def gK.r0:aj:=(.region none [oP 6 (.alloc (List.replicate 16 (.int .u8 0)))])
def gK.r1:aj:=(.region none [oM 12 0,
oM 13 1,
oP 14 (.call 356 [.t 12, .t 13]),
oM 15 1,
oP 16 (.call 364 [.t 15]),
oP 7 (.alloc (List.replicate 16 (.int .u8 0))),
oP 8 (.alloc (List.replicate 16 (.int .u8 0))),
⟨none, .store 16 (.t 7) (.t 14),none⟩,
⟨none, .store 16 (.t 8) (.t 16),none⟩])
def gK.r2:aj:=(.region none [oP 9 (.move (.c (.int .i64 0)))])
def gK.r3:aj:=(.region none [oM 17 9,
oM 18 1,
oP 19 (.bin .lss (.t 17) (.t 18))])
def gK.r4:aj:=(.region none [oM 20 0,
oM 21 2,
oP 22 (.call 102 [.t 20, .t 21]),
oP 23 (.bin .add (.c (.int .i64 1)) (.t 22)),
oM 24 1,
oM 25 9,
oP 26 (.bin .sub (.t 24) (.t 25)),
oP 27 (.min [.t 23, .t 26]),
oM 10 27])
def gK.r5:aj:=(.region none [oP 11 (.move (.c (.int .i64 0)))])
def gK.r6:aj:=(.region none [oM 28 11,
oM 29 10,
oP 30 (.bin .lss (.t 28) (.t 29))])
def gK.r8:aj:=(.region (some 14) [oM 33 9,
oM 34 11,
oP 35 (.bin .add (.t 33) (.t 34)),
oP 36 (.indexAddr (some 16) 1 (.t 7) (.t 35)),
oP 37 (.load none (.t 36)),
oM 38 9,
oM 39 11,
oP 40 (.bin .add (.t 39) (.c (.int .i64 1))),
oM 41 10,
oP 42 (.bin .rem (.t 40) (.t 41)),
oP 43 (.bin .add (.t 38) (.t 42)),
oP 44 (.indexAddr (some 16) 1 (.t 7) (.t 43)),
oP 45 (.load none (.t 44)),
oP 46 (.indexAddr (some 16) 1 (.t 8) (.t 37)),
⟨none, .store 1 (.t 46) (.t 45),none⟩])
def gK.r7:aj:=(.region none [oM 31 11,
oP 32 (.bin .add (.t 31) (.c (.int .i64 1))),
oM 11 32])
def gK.l0:aj:=(.seq (.seq gK.r6 (.cond (.t 30) .skip (.exit 2))) (.seq (.block 3 gK.r8) gK.r7))
def gK.r9:aj:=(.region none [oM 47 9,
oM 48 10,
oP 49 (.bin .add (.t 47) (.t 48)),
oM 9 49])
def gK.l1:aj:=(.seq (.seq gK.r3 (.cond (.t 19) .skip (.exit 0))) (.block 1 (.seq gK.r4 (.seq (.seq gK.r5 (.block 2 (.loop gK.l0))) gK.r9))))
def gK.r10:aj:=(.region none [oP 50 (.load (some 16) (.t 8)),
⟨none, .store 16 (.t 6) (.t 50),none⟩])
def gK:bg:=⟨[.cell 6 (some 16)],(.seq gK.r0 (.seq gK.r1 (.seq (.seq gK.r2 (.block 0 (.loop gK.l1))) (.seq gK.r10 .ret))))⟩
def uj.r0:aj:=(.region none [oP 2 (.alloc ([.int .i64 0]++List.replicate 32 (.int .u8 0)))])
def uj.r1:aj:=(.region none [oM 3 0,
oM 4 0,
oP 5 (.call 396 [.t 4]),
oM 6 0,
oP 7 (.call 364 [.t 6]),
oP 8 (.build ([.int .i64 0]++List.replicate 32 (.int .u8 0)) [(0,1, .t 3),(1,16, .t 5),(17,16, .t 7)]),
⟨none, .store 33 (.t 2) (.t 8),none⟩])
def uj:bg:=⟨[.cell 2 (some 33)],(.seq uj.r0 (.seq uj.r1 .ret))⟩
def gY.r0:aj:=(.region none [oP 4 (.alloc (List.replicate 16 (.int .u8 0)))])
def gY.r1:aj:=(.region none [oM 9 1,
oP 10 (.call 364 [.t 9]),
oP 5 (.alloc (List.replicate 16 (.int .u8 0))),
⟨none, .store 16 (.t 5) (.t 10),none⟩])
def gY.r2:aj:=(.region none [oM 11 0,
oP 12 (.call 102 [.t 11,(.c (.int .i64 8))]),
oP 13 (.bin .eql (.t 12) (.c (.int .i64 0)))])
def gY.r3:aj:=(.region none [oP 14 (.load (some 16) (.t 5)),
⟨none, .store 16 (.t 4) (.t 14),none⟩])
def gY.r4:aj:=(.region none [oM 15 1,
oP 16 (.bin .sub (.t 15) (.c (.int .i64 1))),
oM 6 16])
def gY.r5:aj:=(.region none [oM 17 6,
oP 18 (.bin .gtr (.t 17) (.c (.int .i64 0)))])
def gY.r7:aj:=(.region none [oM 21 0,
oM 22 6,
oP 23 (.bin .add (.t 22) (.c (.int .i64 1))),
oP 24 (.call 102 [.t 21, .t 23]),
oM 7 24])
def gY.r8:aj:=(.region none [oM 25 6,
oP 26 (.indexAddr (some 16) 1 (.t 5) (.t 25)),
oP 27 (.load none (.t 26)),
oM 8 27])
def gY.r9:aj:=(.region none [oM 28 6,
oM 29 7,
oP 30 (.indexAddr (some 16) 1 (.t 5) (.t 29)),
oP 31 (.load none (.t 30)),
oP 32 (.indexAddr (some 16) 1 (.t 5) (.t 28)),
⟨none, .store 1 (.t 32) (.t 31),none⟩])
def gY.r10:aj:=(.region none [oM 33 7,
oM 34 8,
oP 35 (.indexAddr (some 16) 1 (.t 5) (.t 33)),
⟨none, .store 1 (.t 35) (.t 34),none⟩])
def gY.r6:aj:=(.region none [oM 19 6,
oP 20 (.bin .sub (.t 19) (.c (.int .i64 1))),
oM 6 20])
def gY.l0:aj:=(.seq (.seq gY.r5 (.cond (.t 18) .skip (.exit 0))) (.seq (.block 1 (.seq gY.r7 (.seq gY.r8 (.seq gY.r9 gY.r10)))) gY.r6))
def gY.r11:aj:=(.region none [oP 36 (.load (some 16) (.t 5)),
⟨none, .store 16 (.t 4) (.t 36),none⟩])
def gY:bg:=⟨[.cell 4 (some 16)],(.seq gY.r0 (.seq gY.r1 (.seq (.seq gY.r2 (.cond (.t 13) (.seq gY.r3 .ret) .skip)) (.seq (.seq gY.r4 (.block 0 (.loop gY.l0))) (.seq gY.r11 .ret)))))⟩
def um.r0:aj:=(.region none [oP 2 (.move (.c (.bool false)))])
def um.r1:aj:=(.region none [oM 3 0,
oP 4 (.bin .geq (.t 3) (.c (.int .i64 1))),
oM 5 4,
⟨some 6, .move (.t 0),some (5,true)⟩,
⟨some 7, .bin .leq (.t 6) (.c (.int .i64 16)),some (5,true)⟩,
oP 8 (.pick (.t 5) (.t 7) (.c (.bool false))),
oM 2 8])
def um:bg:=⟨[.tmp 2],(.seq um.r0 (.seq um.r1 .ret))⟩
def dX.r0:aj:=(.region none [oP 2 (.box (.t 0)),
oP 4 (.move (.c (.slice none 0 0)))])
def dX.r1:aj:=(.region none [oP 10 (.buildSlice 1 0 [.slice none 0 0] []),
oM 5 10])
def dX.r2:aj:=(.region none [oP 11 (.build (List.replicate 16 (.bool false)) []),
oP 6 (.alloc (List.replicate 16 (.bool false))),
⟨none, .store 16 (.t 6) (.t 11),none⟩])
def dX.r3:aj:=(.region none [oM 12 1,
oP 13 (.move (.c (.int .i64 0)))])
def dX.r4:aj:=(.region none [oP 14 (.bin .lss (.t 13) (.t 12))])
def dX.r5:aj:=(.region none [oM 15 13,
oM 7 15])
def dX.r6:aj:=(.region none [oM 16 7,
oP 17 (.indexAddr (some 16) 1 (.t 6) (.t 16)),
oP 18 (.load none (.t 17))])
def dX.r7:aj:=(.region none [oP 19 (.buildSlice 1 0 [.int .i64 0] []),
oM 8 19])
def dX.r8:aj:=(.region none [oM 20 7,
oM 9 20])
def dX.r9:aj:=(.region none [oM 21 9,
oP 22 (.indexAddr (some 16) 1 (.t 6) (.t 21)),
oP 23 (.load none (.t 22)),
oP 24 (.not (.t 23))])
def dX.r11:aj:=(.region none [oM 29 9,
oP 30 (.indexAddr (some 16) 1 (.t 6) (.t 29)),
⟨none, .store 1 (.t 30) (.c (.bool true)),none⟩])
def dX.r12:aj:=(.region none [oM 31 8,
oM 32 9,
oP 33 (.buildSlice 1 1 [.int .i64 0] [(0,1, .t 32)]),
oP 34 (.append 1 8 (.t 31) (.t 33)),
oM 8 34])
def dX.r10:aj:=(.region none [oM 25 9,
oP 26 (.indexAddr (some 16) 1 (.t 2) (.t 25)),
oP 27 (.load none (.t 26)),
oP 28 (.conv .i64 (.t 27)),
oM 9 28])
def dX.l0:aj:=(.seq (.seq dX.r9 (.cond (.t 24) .skip (.exit 2))) (.seq (.block 3 (.seq dX.r11 dX.r12)) dX.r10))
def dX.r13:aj:=(.region none [oM 35 5,
oM 36 8,
oP 37 (.buildSlice 1 1 [.slice none 0 0] [(0,1, .t 36)]),
oP 38 (.append 1 24 (.t 35) (.t 37)),
oM 5 38])
def dX.gQ:aj:=(.region none [oP 39 (.bin .add (.t 13) (.c (.int .i64 1))),
oM 13 39])
def dX.l1:aj:=(.seq dX.r4 (.seq (.cond (.t 14) .skip (.exit 0)) (.seq (.block 1 (.seq dX.r5 (.seq (.seq dX.r6 (.cond (.t 18) (.exit 1) .skip)) (.seq dX.r7 (.seq (.seq dX.r8 (.block 2 (.loop dX.l0))) dX.r13))))) dX.gQ)))
def dX.jR:aj:=(.region none [oM 40 5,
oM 4 40])
def dX:bg:=⟨[.tmp 4],(.seq dX.r0 (.seq dX.r1 (.seq dX.r2 (.seq (.seq dX.r3 (.block 0 (.loop dX.l1))) (.seq dX.jR .ret)))))⟩
def oJ.r0:aj:=(.region none [oP 2 (.move (.c (.slice none 0 0)))])
def oJ.r1:aj:=(.region none [oM 3 0,
oP 4 (.call 224 [.t 3])])
def oJ.r2:aj:=(.region none [oM 5 0,
oP 6 (.call 225 [.t 5])])
def oJ.r3:aj:=(.region none [oM 7 0,
oM 2 7])
def oJ:bg:=⟨[.tmp 2],(.seq oJ.r0 (.seq oJ.r1 (.seq oJ.r2 (.seq oJ.r3 .ret))))⟩
def eG.r0:aj:=(.region none [oP 2 (.box (.t 0)),
oP 4 (.move (.c (.slice none 0 0)))])
def eG.r1:aj:=(.region none [oP 10 (.buildSlice 1 0 [.slice none 0 0] []),
oP 11 (.build (List.replicate 16 (.bool false)) []),
oP 6 (.alloc (List.replicate 16 (.bool false))),
oM 5 10,
⟨none, .store 16 (.t 6) (.t 11),none⟩])
def eG.r2:aj:=(.region none [oP 7 (.move (.c (.int .i64 0)))])
def eG.r3:aj:=(.region none [oM 12 7,
oM 13 1,
oP 14 (.bin .lss (.t 12) (.t 13))])
def eG.r5:aj:=(.region none [oP 17 (.buildSlice 1 0 [.int .i64 0] []),
oM 8 17])
def eG.r6:aj:=(.region none [oM 18 7,
oM 9 18])
def eG.r7:aj:=(.region none [oM 19 9,
oP 20 (.indexAddr (some 16) 1 (.t 6) (.t 19)),
oP 21 (.load none (.t 20)),
oP 22 (.not (.t 21))])
def eG.r9:aj:=(.region none [oM 27 9,
oP 28 (.indexAddr (some 16) 1 (.t 6) (.t 27)),
⟨none, .store 1 (.t 28) (.c (.bool true)),none⟩])
def eG.r10:aj:=(.region none [oM 29 8,
oM 30 9,
oP 31 (.buildSlice 1 1 [.int .i64 0] [(0,1, .t 30)]),
oP 32 (.append 1 8 (.t 29) (.t 31)),
oM 8 32])
def eG.r8:aj:=(.region none [oM 23 9,
oP 24 (.indexAddr (some 16) 1 (.t 2) (.t 23)),
oP 25 (.load none (.t 24)),
oP 26 (.conv .i64 (.t 25)),
oM 9 26])
def eG.l0:aj:=(.seq (.seq eG.r7 (.cond (.t 22) .skip (.exit 2))) (.seq (.block 3 (.seq eG.r9 eG.r10)) eG.r8))
def eG.r11:aj:=(.region none [oM 33 8,
oP 34 (.len (.t 33)),
oP 35 (.bin .gtr (.t 34) (.c (.int .i64 0)))])
def eG.r12:aj:=(.region none [oM 36 5,
oM 37 8,
oP 38 (.buildSlice 1 1 [.slice none 0 0] [(0,1, .t 37)]),
oP 39 (.append 1 24 (.t 36) (.t 38)),
oM 5 39])
def eG.r4:aj:=(.region none [oM 15 7,
oP 16 (.bin .add (.t 15) (.c (.int .i64 1))),
oM 7 16])
def eG.l1:aj:=(.seq (.seq eG.r3 (.cond (.t 14) .skip (.exit 0))) (.seq (.block 1 (.seq eG.r5 (.seq (.seq eG.r6 (.block 2 (.loop eG.l0))) (.seq eG.r11 (.cond (.t 35) eG.r12 .skip))))) eG.r4))
def eG.r13:aj:=(.region none [oM 40 5,
oM 4 40])
def eG:bg:=⟨[.tmp 4],(.seq eG.r0 (.seq eG.r1 (.seq (.seq eG.r2 (.block 0 (.loop eG.l1))) (.seq eG.r13 .ret))))⟩
def jO.r0:aj:=(.region none [oP 2 (.box (.t 0)),
oP 4 (.alloc (List.replicate 16 (.int .u8 0)))])
def jO.r1:aj:=(.region none [oP 7 (.build (List.replicate 16 (.int .u8 0)) []),
oP 5 (.alloc (List.replicate 16 (.int .u8 0))),
⟨none, .store 16 (.t 5) (.t 7),none⟩])
def jO.r2:aj:=(.region none [oP 6 (.move (.c (.int .i64 0)))])
def jO.r3:aj:=(.region none [oM 8 6,
oM 9 1,
oP 10 (.bin .lss (.t 8) (.t 9))])
def jO.r5:aj:=(.region none [oM 13 6,
oP 14 (.indexAddr (some 16) 1 (.t 2) (.t 13)),
oP 15 (.load none (.t 14)),
oM 16 6,
oP 17 (.conv .u8 (.t 16)),
oP 18 (.indexAddr (some 16) 1 (.t 5) (.t 15)),
⟨none, .store 1 (.t 18) (.t 17),none⟩])
def jO.r4:aj:=(.region none [oM 11 6,
oP 12 (.bin .add (.t 11) (.c (.int .i64 1))),
oM 6 12])
def jO.l0:aj:=(.seq (.seq jO.r3 (.cond (.t 10) .skip (.exit 0))) (.seq (.block 1 jO.r5) jO.r4))
def jO.r6:aj:=(.region none [oP 19 (.load (some 16) (.t 5)),
⟨none, .store 16 (.t 4) (.t 19),none⟩])
def jO:bg:=⟨[.cell 4 (some 16)],(.seq jO.r0 (.seq jO.r1 (.seq (.seq jO.r2 (.block 0 (.loop jO.l0))) (.seq jO.r6 .ret))))⟩
def jP.r0:aj:=(.region none [oP 3 (.box (.t 0)),
oP 4 (.box (.t 1)),
oP 6 (.alloc (List.replicate 16 (.int .u8 0)))])
def jP.r1:aj:=(.region none [oP 9 (.build (List.replicate 16 (.int .u8 0)) []),
oP 7 (.alloc (List.replicate 16 (.int .u8 0))),
⟨none, .store 16 (.t 7) (.t 9),none⟩])
def jP.r2:aj:=(.region none [oP 8 (.move (.c (.int .i64 0)))])
def jP.r3:aj:=(.region none [oM 10 8,
oM 11 2,
oP 12 (.bin .lss (.t 10) (.t 11))])
def jP.r5:aj:=(.region none [oM 15 8,
oM 16 8,
oP 17 (.indexAddr (some 16) 1 (.t 3) (.t 16)),
oP 18 (.load none (.t 17)),
oP 19 (.indexAddr (some 16) 1 (.t 4) (.t 18)),
oP 20 (.load none (.t 19)),
oP 21 (.indexAddr (some 16) 1 (.t 7) (.t 15)),
⟨none, .store 1 (.t 21) (.t 20),none⟩])
def jP.r4:aj:=(.region none [oM 13 8,
oP 14 (.bin .add (.t 13) (.c (.int .i64 1))),
oM 8 14])
def jP.l0:aj:=(.seq (.seq jP.r3 (.cond (.t 12) .skip (.exit 0))) (.seq (.block 1 jP.r5) jP.r4))
def jP.r6:aj:=(.region none [oP 22 (.load (some 16) (.t 7)),
⟨none, .store 16 (.t 6) (.t 22),none⟩])
def jP:bg:=⟨[.cell 6 (some 16)],(.seq jP.r0 (.seq jP.r1 (.seq (.seq jP.r2 (.block 0 (.loop jP.l0))) (.seq jP.r6 .ret))))⟩
def eY.r0:aj:=(.region none [oP 2 (.box (.t 0)),
oP 4 (.move (.c (.slice none 0 0)))])
def eY.r1:aj:=(.region none [oP 10 (.build (List.replicate 16 (.bool false)) []),
oP 5 (.alloc (List.replicate 16 (.bool false))),
⟨none, .store 16 (.t 5) (.t 10),none⟩])
def eY.r2:aj:=(.region none [oM 11 1,
oP 12 (.indexAddr (some 16) 1 (.t 5) (.t 11)),
⟨none, .store 1 (.t 12) (.c (.bool true)),none⟩])
def eY.r3:aj:=(.region none [oM 13 1,
oP 14 (.conv .u8 (.t 13)),
oP 15 (.buildSlice 1 1 [.int .u8 0] [(0,1, .t 14)]),
oM 6 15])
def eY.r4:aj:=(.region none [oP 7 (.move (.c (.int .i64 0)))])
def eY.r5:aj:=(.region none [oM 16 7,
oM 17 6,
oP 18 (.len (.t 17)),
oP 19 (.bin .lss (.t 16) (.t 18))])
def eY.r7:aj:=(.region (some 17) [oM 22 6,
oM 23 7,
oP 24 (.indexAddr none 1 (.t 22) (.t 23)),
oP 25 (.load none (.t 24)),
oP 26 (.fieldAddr 1 (.t 2)),
oP 27 (.indexAddr (some 16) 1 (.t 26) (.t 25)),
oP 28 (.load none (.t 27)),
oM 29 6,
oM 30 7,
oP 31 (.indexAddr none 1 (.t 29) (.t 30)),
oP 32 (.load none (.t 31)),
oP 33 (.fieldAddr 17 (.t 2)),
oP 34 (.indexAddr (some 16) 1 (.t 33) (.t 32)),
oP 35 (.load none (.t 34)),
oP 36 (.buildSlice 1 2 [.int .u8 0] [(0,1, .t 28),(1,1, .t 35)]),
oP 37 (.len (.t 36)),
oP 38 (.move (.c (.int .i64 0)))])
def eY.r8:aj:=(.region none [oP 39 (.bin .lss (.t 38) (.t 37))])
def eY.r9:aj:=(.region none [oP 40 (.indexAddr none 1 (.t 36) (.t 38)),
oP 41 (.load none (.t 40)),
oM 9 41])
def eY.r10:aj:=(.region none [oM 42 9,
oP 43 (.indexAddr (some 16) 1 (.t 5) (.t 42)),
oP 44 (.load none (.t 43)),
oP 45 (.not (.t 44))])
def eY.r11:aj:=(.region none [oM 46 9,
oP 47 (.indexAddr (some 16) 1 (.t 5) (.t 46)),
⟨none, .store 1 (.t 47) (.c (.bool true)),none⟩])
def eY.r12:aj:=(.region none [oM 48 6,
oM 49 9,
oP 50 (.buildSlice 1 1 [.int .u8 0] [(0,1, .t 49)]),
oP 51 (.append 1 1 (.t 48) (.t 50)),
oM 6 51])
def eY.r13:aj:=(.region none [oP 52 (.bin .add (.t 38) (.c (.int .i64 1))),
oM 38 52])
def eY.l0:aj:=(.seq eY.r8 (.seq (.cond (.t 39) .skip (.exit 2)) (.seq (.block 3 (.seq eY.r9 (.seq eY.r10 (.cond (.t 45) (.seq eY.r11 eY.r12) .skip)))) eY.r13)))
def eY.r6:aj:=(.region none [oM 20 7,
oP 21 (.bin .add (.t 20) (.c (.int .i64 1))),
oM 7 21])
def eY.l1:aj:=(.seq (.seq eY.r5 (.cond (.t 19) .skip (.exit 0))) (.seq (.block 1 (.seq eY.r7 (.block 2 (.loop eY.l0)))) eY.r6))
def eY.gQ:aj:=(.region none [oM 53 6,
oM 4 53])
def eY:bg:=⟨[.tmp 4],(.seq eY.r0 (.seq eY.r1 (.seq eY.r2 (.seq eY.r3 (.seq (.seq eY.r4 (.block 0 (.loop eY.l1))) (.seq eY.gQ .ret))))))⟩
def uo.r0:aj:=(.region none [oP 2 (.box (.t 0)),
oP 3 (.box (.t 1)),
oP 4 (.move (.c (.int .i64 0)))])
def uo.r1:aj:=(.region (some 4) [oP 5 (.rQ 16 1 (.t 2) none none),
oP 6 (.rQ 16 1 (.t 3) none none),
oP 7 (.call 226 [.t 5, .t 6]),
oM 4 7])
def uo:bg:=⟨[.tmp 4],(.seq uo.r0 (.seq uo.r1 .ret))⟩
def jA.r0:aj:=(.region none [oP 2 (.alloc (List.replicate 16 (.int .u8 0)))])
def jA.r1:aj:=(.region none [oP 5 (.build (List.replicate 16 (.int .u8 0)) []),
oP 3 (.alloc (List.replicate 16 (.int .u8 0))),
⟨none, .store 16 (.t 3) (.t 5),none⟩])
def jA.r2:aj:=(.region none [oM 6 0,
oP 7 (.move (.c (.int .i64 0)))])
def jA.r3:aj:=(.region none [oP 8 (.bin .lss (.t 7) (.t 6))])
def jA.r4:aj:=(.region none [oM 9 7,
oM 4 9])
def jA.r5:aj:=(.region none [oM 10 4,
oM 11 4,
oP 12 (.conv .u8 (.t 11)),
oP 13 (.indexAddr (some 16) 1 (.t 3) (.t 10)),
⟨none, .store 1 (.t 13) (.t 12),none⟩])
def jA.r6:aj:=(.region none [oP 14 (.bin .add (.t 7) (.c (.int .i64 1))),
oM 7 14])
def jA.l0:aj:=(.seq jA.r3 (.seq (.cond (.t 8) .skip (.exit 0)) (.seq (.block 1 (.seq jA.r4 jA.r5)) jA.r6)))
def jA.r7:aj:=(.region none [oP 15 (.load (some 16) (.t 3)),
⟨none, .store 16 (.t 2) (.t 15),none⟩])
def jA:bg:=⟨[.cell 2 (some 16)],(.seq jA.r0 (.seq jA.r1 (.seq (.seq jA.r2 (.block 0 (.loop jA.l0))) (.seq jA.r7 .ret))))⟩
def oK.r0:aj:=(.region none [oP 2 (.move (.c (.slice none 0 0)))])
def oK.r1:aj:=(.region none [oM 3 0,
oP 4 (.eqn false (.t 3))])
def oK.r2:aj:=(.region none [oP 2 (.move (.c (.slice none 0 0)))])
def oK.r3:aj:=(.region none [oP 5 (.buildSlice 16 0 (List.replicate 16 (.int .u8 0)) []),
oM 6 0,
oP 7 (.append 16 16 (.t 5) (.t 6)),
oM 2 7])
def oK:bg:=⟨[.tmp 2],(.seq oK.r0 (.seq (.seq oK.r1 (.cond (.t 4) (.seq oK.r2 .ret) .skip)) (.seq oK.r3 .ret)))⟩
def iy.r0:aj:=(.region none [oP 3 (.box (.t 1)),
oP 4 (.alloc (List.replicate 16 (.int .u8 0))),
oP 5 (.move (.c (.int .i64 0)))])
def iy.r1:aj:=(.region none [oM 8 0,
oP 9 (.nilCheck (.t 8)),
oP 10 (.fieldAddr 0 (.t 9)),
oP 11 (.load none (.t 10)),
oP 12 (.move (.c (.int .i64 0)))])
def iy.r2:aj:=(.region none [oP 13 (.bin .lss (.t 12) (.t 11))])
def iy.r3:aj:=(.region none [oM 14 12,
oM 6 14])
def iy.r4:aj:=(.region none [oM 15 6,
oP 16 (.indexAddr (some 16) 1 (.t 3) (.t 15)),
oP 17 (.load none (.t 16)),
oM 7 17])
def iy.r5:aj:=(.region none [oM 18 0,
oM 19 6,
oM 20 7,
oP 21 (.nilCheck (.t 18)),
oP 22 (.fieldAddr 4097 (.t 21)),
oP 23 (.indexAddr (some 16) 16 (.t 22) (.t 19)),
oP 24 (.indexAddr (some 16) 1 (.t 23) (.t 20)),
oP 25 (.load none (.t 24)),
oP 26 (.not (.t 25))])
def iy.r6:aj:=(.region none [oP 27 (.load (some 16) (.t 3)),
oM 28 6,
⟨none, .store 16 (.t 4) (.t 27),none⟩,
oM 5 28])
def iy.r7:aj:=(.region none [oM 29 7,
oP 30 (.conv .i64 (.t 29)),
oM 31 6,
oP 32 (.bin .neq (.t 30) (.t 31))])
def iy.r8:aj:=(.region (some 19) [oP 33 (.load (some 16) (.t 3)),
oM 34 0,
oM 35 6,
oM 36 7,
oP 37 (.nilCheck (.t 34)),
oP 38 (.fieldAddr 1 (.t 37)),
oP 39 (.indexAddr (some 16) 256 (.t 38) (.t 35)),
oP 40 (.indexAddr (some 16) 16 (.t 39) (.t 36)),
oP 41 (.load (some 16) (.t 40)),
oM 42 0,
oP 43 (.nilCheck (.t 42)),
oP 44 (.fieldAddr 0 (.t 43)),
oP 45 (.load none (.t 44)),
oP 46 (.call 211 [.t 41, .t 45]),
oM 47 0,
oP 48 (.nilCheck (.t 47)),
oP 49 (.fieldAddr 0 (.t 48)),
oP 50 (.load none (.t 49)),
oP 51 (.call 213 [.t 33, .t 46, .t 50]),
⟨none, .store 16 (.t 3) (.t 51),none⟩])
def iy.r9:aj:=(.region none [oP 52 (.bin .add (.t 12) (.c (.int .i64 1))),
oM 12 52])
def iy.l0:aj:=(.seq iy.r2 (.seq (.cond (.t 13) .skip (.exit 0)) (.seq (.block 1 (.seq iy.r3 (.seq iy.r4 (.seq (.seq iy.r5 (.cond (.t 26) (.seq iy.r6 .ret) .skip)) (.seq iy.r7 (.cond (.t 32) iy.r8 .skip)))))) iy.r9)))
def iy.r10:aj:=(.region (some 5) [oP 53 (.load (some 16) (.t 3)),
oM 54 0,
oP 55 (.nilCheck (.t 54)),
oP 56 (.fieldAddr 0 (.t 55)),
oP 57 (.load none (.t 56)),
⟨none, .fE 16 (.t 4) (.t 53) [.t 56],none⟩,
oM 5 57])
def iy:bg:=⟨[.cell 4 (some 16), .tmp 5],(.seq iy.r0 (.seq (.seq iy.r1 (.block 0 (.loop iy.l0))) (.seq iy.r10 .ret)))⟩
def jQ.r0:aj:=(.region none [oP 2 (.alloc (List.replicate 16 (.int .u8 0)))])
def jQ.r1:aj:=(.region none [oP 5 (.build (List.replicate 16 (.int .u8 0)) []),
oP 3 (.alloc (List.replicate 16 (.int .u8 0))),
⟨none, .store 16 (.t 3) (.t 5),none⟩])
def jQ.r2:aj:=(.region none [oP 4 (.move (.c (.int .i64 0)))])
def jQ.r3:aj:=(.region none [oM 6 4,
oM 7 0,
oP 8 (.bin .lss (.t 6) (.t 7))])
def jQ.r5:aj:=(.region none [oM 11 4,
oM 12 4,
oP 13 (.bin .add (.t 12) (.c (.int .i64 1))),
oM 14 0,
oP 15 (.bin .rem (.t 13) (.t 14)),
oP 16 (.conv .u8 (.t 15)),
oP 17 (.indexAddr (some 16) 1 (.t 3) (.t 11)),
⟨none, .store 1 (.t 17) (.t 16),none⟩])
def jQ.r4:aj:=(.region none [oM 9 4,
oP 10 (.bin .add (.t 9) (.c (.int .i64 1))),
oM 4 10])
def jQ.l0:aj:=(.seq (.seq jQ.r3 (.cond (.t 8) .skip (.exit 0))) (.seq (.block 1 jQ.r5) jQ.r4))
def jQ.r6:aj:=(.region none [oP 18 (.load (some 16) (.t 3)),
⟨none, .store 16 (.t 2) (.t 18),none⟩])
def jQ:bg:=⟨[.cell 2 (some 16)],(.seq jQ.r0 (.seq jQ.r1 (.seq (.seq jQ.r2 (.block 0 (.loop jQ.l0))) (.seq jQ.r6 .ret))))⟩
def uq.r0:aj:=(.region none [oM 3 0,
oP 4 (.len (.t 3)),
oM 2 4])
def uq.r1:aj:=(.region none [oM 5 0,
oM 6 2,
oM 7 2,
oP 8 (.conv .u64 (.t 7)),
oP 9 (.call 227 [.t 8]),
oP 10 (.call 228 [.t 5,(.c (.int .i64 0)), .t 6, .t 9])])
def uq:bg:=⟨[],(.seq uq.r0 uq.r1)⟩
def lX.r0:aj:=(.region none [oM 4 0,
oP 5 (.len (.t 4)),
oP 6 (.bin .sub (.t 5) (.c (.int .i64 1))),
oP 2 (.move (.c (.int .i64 0))),
oM 3 6])
def lX.r1:aj:=(.region none [oM 7 2,
oM 8 3,
oP 9 (.bin .lss (.t 7) (.t 8))])
def lX.r3:aj:=(.region (some 13) [oM 14 0,
oM 15 2,
oM 16 0,
oM 17 3,
oM 18 0,
oM 19 3,
oP 20 (.indexAddr none 1 (.t 18) (.t 19)),
oP 21 (.load none (.t 20)),
oM 22 0,
oM 23 2,
oP 24 (.indexAddr none 1 (.t 22) (.t 23)),
oP 25 (.load none (.t 24)),
oP 26 (.indexAddr none 1 (.t 14) (.t 15)),
⟨none, .fE 1 (.t 26) (.t 21) [],none⟩,
oP 27 (.indexAddr none 1 (.t 16) (.t 17)),
⟨none, .store 1 (.t 27) (.t 25),none⟩])
def lX.r2:aj:=(.region none [oM 10 2,
oP 11 (.bin .add (.t 10) (.c (.int .i64 1))),
oM 12 3,
oP 13 (.bin .sub (.t 12) (.c (.int .i64 1))),
oM 2 11,
oM 3 13])
def lX.l0:aj:=(.seq (.seq lX.r1 (.cond (.t 9) .skip (.exit 0))) (.seq (.block 1 lX.r3) lX.r2))
def lX:bg:=⟨[],(.seq lX.r0 (.block 0 (.loop lX.l0)))⟩
def qG.r0:aj:=(.region none [oP 2 (.move (.c (.int .i64 0)))])
def qG.r1:aj:=(.region none [oM 3 0,
oP 4 (.conv .u32 (.t 3)),
oP 5 (.call 244 [.t 4]),
oM 2 5])
def qG.r2:aj:=(.region none [oM 6 0,
oP 7 (.call 245 [.t 6]),
oM 2 7])
def qG:bg:=⟨[.tmp 2],(.seq qG.r0 (.seq (.cond (.c (.bool false)) (.seq qG.r1 .ret) .skip) (.seq qG.r2 .ret)))⟩
def bM.r0:aj:=(.region none [oP 8 (.move (.c (.bool true)))])
def bM.r1:aj:=(.region none [oP 9 (.move (.c (.bool true)))])
def bM.r2:aj:=(.region none [oM 19 2,
oM 20 1,
oP 21 (.bin .sub (.t 19) (.t 20)),
oM 10 21])
def bM.r3:aj:=(.region none [oM 22 10,
oP 23 (.bin .leq (.t 22) (.c (.int .i64 12)))])
def bM.r4:aj:=(.region none [oM 24 0,
oM 25 1,
oM 26 2,
oP 27 (.call 229 [.t 24, .t 25, .t 26])])
def bM.r5:aj:=(.region none [oM 28 3,
oP 29 (.bin .eql (.t 28) (.c (.int .i64 0)))])
def bM.r6:aj:=(.region none [oM 30 0,
oM 31 1,
oM 32 2,
oP 33 (.call 230 [.t 30, .t 31, .t 32])])
def bM.r7:aj:=(.region none [oM 34 8,
oP 35 (.not (.t 34))])
def bM.r8:aj:=(.region none [oM 36 0,
oM 37 1,
oM 38 2,
oP 39 (.call 231 [.t 36, .t 37, .t 38])])
def bM.r9:aj:=(.region none [oM 40 3,
oP 41 (.bin .sub (.t 40) (.c (.int .i64 1))),
oM 3 41])
def bM.r10:aj:=(.region none [oM 43 0,
oM 44 1,
oM 45 2,
oP 46 (.call 232 [.t 43, .t 44, .t 45]),
oM 42 46,
oP 47 (.extract (.t 42) 0),
oP 48 (.extract (.t 42) 1),
oM 11 47,
oM 12 48])
def bM.r11:aj:=(.region none [oM 49 12,
oP 50 (.bin .eql (.t 49) (.c (.int .i64 2)))])
def bM.r12:aj:=(.region none [oM 51 0,
oM 52 1,
oM 53 2,
oP 54 (.call 233 [.t 51, .t 52, .t 53])])
def bM.r13:aj:=(.region none [oM 55 2,
oP 56 (.bin .sub (.t 55) (.c (.int .i64 1))),
oM 57 11,
oM 58 1,
oP 59 (.bin .sub (.t 57) (.t 58)),
oP 60 (.bin .sub (.t 56) (.t 59)),
oM 11 60])
def bM.gQ:aj:=(.region none [oP 12 (.move (.c (.int .i64 1)))])
def bM.jR:aj:=(.region none [oM 61 8,
oM 62 61,
⟨some 63, .move (.t 9),some (62,true)⟩,
oP 64 (.pick (.t 62) (.t 63) (.c (.bool false))),
oM 65 64,
⟨some 66, .move (.t 12),some (65,true)⟩,
⟨some 67, .bin .eql (.t 66) (.c (.int .i64 1)),some (65,true)⟩,
oP 68 (.pick (.t 65) (.t 67) (.c (.bool false)))])
def bM.r16:aj:=(.region none [oM 69 0,
oM 70 1,
oM 71 2,
oP 72 (.call 234 [.t 69, .t 70, .t 71])])
def bM.kT:aj:=(.region (some 15) [oM 73 1,
oP 74 (.bin .gtr (.t 73) (.c (.int .i64 0))),
oM 75 74,
⟨some 76, .move (.t 0),some (75,true)⟩,
⟨some 77, .move (.t 1),some (75,true)⟩,
⟨some 78, .bin .sub (.t 77) (.c (.int .i64 1)),some (75,true)⟩,
⟨some 79, .indexAddr none 1 (.t 76) (.t 78),some (75,true)⟩,
⟨some 80, .load none (.t 79),some (75,true)⟩,
⟨some 81, .move (.t 0),some (75,true)⟩,
⟨some 82, .move (.t 11),some (75,true)⟩,
⟨some 83, .indexAddr none 1 (.t 81) (.t 82),some (75,true)⟩,
⟨some 84, .load none (.t 83),some (75,true)⟩,
⟨some 85, .call 235 [.t 80, .t 84],some (75,true)⟩,
⟨some 86, .not (.t 85),some (75,true)⟩,
oP 87 (.pick (.t 75) (.t 86) (.c (.bool false)))])
def bM.lY:aj:=(.region none [oM 88 0,
oM 89 1,
oM 90 2,
oM 91 11,
oP 92 (.call 236 [.t 88, .t 89, .t 90, .t 91]),
oM 13 92])
def bM.lF:aj:=(.region none [oM 93 13,
oM 1 93])
def bM.nS:aj:=(.region none [oM 95 0,
oM 96 1,
oM 97 2,
oM 98 11,
oP 99 (.call 237 [.t 95, .t 96, .t 97, .t 98]),
oM 94 99,
oP 100 (.extract (.t 94) 0),
oP 101 (.extract (.t 94) 1),
oM 14 100,
oM 15 101])
def bM.ng:aj:=(.region none [oM 102 15,
oM 9 102])
def bM.r22:aj:=(.region none [oM 103 14,
oM 104 1,
oP 105 (.bin .sub (.t 103) (.t 104)),
oM 106 2,
oM 107 14,
oP 108 (.bin .sub (.t 106) (.t 107)),
oM 16 105,
oM 17 108])
def bM.vN:aj:=(.region none [oM 109 10,
oP 110 (.bin .quo (.t 109) (.c (.int .i64 8))),
oM 18 110])
def bM.zQ:aj:=(.region none [oM 111 16,
oM 112 17,
oP 113 (.bin .lss (.t 111) (.t 112))])
def bM.r25:aj:=(.region none [oM 114 16,
oM 115 18,
oP 116 (.bin .geq (.t 114) (.t 115)),
oM 8 116])
def bM.Gz:aj:=(.region none [oM 117 0,
oM 118 1,
oM 119 14,
oM 120 3,
oP 121 (.call 228 [.t 117, .t 118, .t 119, .t 120])])
def bM.r27:aj:=(.region none [oM 122 14,
oP 123 (.bin .add (.t 122) (.c (.int .i64 1))),
oM 1 123])
def bM.r28:aj:=(.region none [oM 124 17,
oM 125 18,
oP 126 (.bin .geq (.t 124) (.t 125)),
oM 8 126])
def bM.DW:aj:=(.region none [oM 127 0,
oM 128 14,
oP 129 (.bin .add (.t 128) (.c (.int .i64 1))),
oM 130 2,
oM 131 3,
oP 132 (.call 228 [.t 127, .t 129, .t 130, .t 131])])
def bM.DX:aj:=(.region none [oM 133 14,
oM 2 133])
def bM.l0:aj:=(.block 1 (.seq bM.r2 (.seq (.seq bM.r3 (.cond (.t 23) (.seq bM.r4 .ret) .skip)) (.seq (.seq bM.r5 (.cond (.t 29) (.seq bM.r6 .ret) .skip)) (.seq (.seq bM.r7 (.cond (.t 35) (.seq bM.r8 bM.r9) .skip)) (.seq bM.r10 (.seq (.seq bM.r11 (.cond (.t 50) (.seq bM.r12 (.seq bM.r13 bM.gQ)) .skip)) (.seq (.seq bM.jR (.cond (.t 68) (.seq bM.r16 (.cond (.t 72) .ret .skip)) .skip)) (.seq (.seq bM.kT (.cond (.t 87) (.seq bM.lY (.seq bM.lF (.exit 1))) .skip)) (.seq bM.nS (.seq bM.ng (.seq bM.r22 (.seq bM.vN (.seq bM.zQ (.cond (.t 113) (.seq bM.r25 (.seq bM.Gz bM.r27)) (.seq bM.r28 (.seq bM.DW bM.DX)))))))))))))))))
def bM:bg:=⟨[],(.seq bM.r0 (.seq bM.r1 (.block 0 (.loop bM.l0))))⟩
def iV.r0:aj:=(.region none [oP 2 (.move (.c (.int .i64 0)))])
def iV.r1:aj:=(.region none [oM 3 0,
oP 4 (.bin .geq (.t 3) (.c (.int .u64 4294967296)))])
def iV.r2:aj:=(.region none [oM 5 0,
oP 6 (.bin .shr (.t 5) (.c (.int .u64 32))),
oM 0 6])
def iV.r3:aj:=(.region none [oP 2 (.move (.c (.int .i64 32)))])
def iV.r4:aj:=(.region none [oM 7 0,
oP 8 (.bin .geq (.t 7) (.c (.int .u64 65536)))])
def iV.r5:aj:=(.region none [oM 9 0,
oP 10 (.bin .shr (.t 9) (.c (.int .u64 16))),
oM 0 10])
def iV.r6:aj:=(.region none [oM 11 2,
oP 12 (.bin .add (.t 11) (.c (.int .i64 16))),
oM 2 12])
def iV.r7:aj:=(.region none [oM 13 0,
oP 14 (.bin .geq (.t 13) (.c (.int .u64 256)))])
def iV.r8:aj:=(.region none [oM 15 0,
oP 16 (.bin .shr (.t 15) (.c (.int .u64 8))),
oM 0 16])
def iV.r9:aj:=(.region none [oM 17 2,
oP 18 (.bin .add (.t 17) (.c (.int .i64 8))),
oM 2 18])
def iV.r10:aj:=(.region none [oM 19 2,
oM 20 0,
oP 21 (.conv .u8 (.t 20)),
oP 22 (.indexStr (.c (.string ⟨#[0,1,2,2,3,3,3,3,4,4,4,4,4,4,4,4,5,5,5,5,5,5,5,5,5,5,5,5,5,5,5,5,6,6,6,6,6,6,6,6,6,6,6,6,6,6,6,6,6,6,6,6,6,6,6,6,6,6,6,6,6,6,6,6,7,7,7,7,7,7,7,7,7,7,7,7,7,7,7,7,7,7,7,7,7,7,7,7,7,7,7,7,7,7,7,7,7,7,7,7,7,7,7,7,7,7,7,7,7,7,7,7,7,7,7,7,7,7,7,7,7,7,7,7,7,7,7,7,8,8,8,8,8,8,8,8,8,8,8,8,8,8,8,8,8,8,8,8,8,8,8,8,8,8,8,8,8,8,8,8,8,8,8,8,8,8,8,8,8,8,8,8,8,8,8,8,8,8,8,8,8,8,8,8,8,8,8,8,8,8,8,8,8,8,8,8,8,8,8,8,8,8,8,8,8,8,8,8,8,8,8,8,8,8,8,8,8,8,8,8,8,8,8,8,8,8,8,8,8,8,8,8,8,8,8,8,8,8,8,8,8,8,8,8,8,8,8,8,8,8,8,8,8,8,8,8]⟩)) (.t 21)),
oP 23 (.conv .i64 (.t 22)),
oP 24 (.bin .add (.t 19) (.t 23)),
oM 2 24])
def iV:bg:=⟨[.tmp 2],(.seq iV.r0 (.seq (.seq iV.r1 (.cond (.t 4) (.seq iV.r2 iV.r3) .skip)) (.seq (.seq iV.r4 (.cond (.t 8) (.seq iV.r5 iV.r6) .skip)) (.seq (.seq iV.r7 (.cond (.t 14) (.seq iV.r8 iV.r9) .skip)) (.seq iV.r10 .ret)))))⟩
def je.r0:aj:=(.region none [oM 8 1,
oP 9 (.bin .add (.t 8) (.c (.int .i64 1))),
oM 6 9])
def je.r1:aj:=(.region none [oM 10 6,
oM 11 2,
oP 12 (.bin .lss (.t 10) (.t 11))])
def je.r3:aj:=(.region none [oM 15 6,
oM 7 15])
def je.r4:aj:=(.region (some 15) [oM 16 7,
oM 17 1,
oP 18 (.bin .gtr (.t 16) (.t 17)),
oM 19 18,
⟨some 20, .move (.t 0),some (19,true)⟩,
⟨some 21, .move (.t 7),some (19,true)⟩,
⟨some 22, .indexAddr none 1 (.t 20) (.t 21),some (19,true)⟩,
⟨some 23, .load none (.t 22),some (19,true)⟩,
⟨some 24, .move (.t 0),some (19,true)⟩,
⟨some 25, .move (.t 7),some (19,true)⟩,
⟨some 26, .bin .sub (.t 25) (.c (.int .i64 1)),some (19,true)⟩,
⟨some 27, .indexAddr none 1 (.t 24) (.t 26),some (19,true)⟩,
⟨some 28, .load none (.t 27),some (19,true)⟩,
⟨some 29, .call 235 [.t 23, .t 28],some (19,true)⟩,
oP 30 (.pick (.t 19) (.t 29) (.c (.bool false)))])
def je.r6:aj:=(.region (some 15) [oM 33 0,
oM 34 7,
oM 35 0,
oM 36 7,
oP 37 (.bin .sub (.t 36) (.c (.int .i64 1))),
oM 38 0,
oM 39 7,
oP 40 (.bin .sub (.t 39) (.c (.int .i64 1))),
oP 41 (.indexAddr none 1 (.t 38) (.t 40)),
oP 42 (.load none (.t 41)),
oM 43 0,
oM 44 7,
oP 45 (.indexAddr none 1 (.t 43) (.t 44)),
oP 46 (.load none (.t 45)),
oP 47 (.indexAddr none 1 (.t 33) (.t 34)),
⟨none, .fE 1 (.t 47) (.t 42) [],none⟩,
oP 48 (.indexAddr none 1 (.t 35) (.t 37)),
⟨none, .store 1 (.t 48) (.t 46),none⟩])
def je.r5:aj:=(.region none [oM 31 7,
oP 32 (.bin .sub (.t 31) (.c (.int .i64 1))),
oM 7 32])
def je.l0:aj:=(.seq (.seq je.r4 (.cond (.t 30) .skip (.exit 2))) (.seq (.block 3 je.r6) je.r5))
def je.r2:aj:=(.region none [oM 13 6,
oP 14 (.bin .add (.t 13) (.c (.int .i64 1))),
oM 6 14])
def je.l1:aj:=(.seq (.seq je.r1 (.cond (.t 12) .skip (.exit 0))) (.seq (.block 1 (.seq je.r3 (.block 2 (.loop je.l0)))) je.r2))
def je:bg:=⟨[],(.seq je.r0 (.block 0 (.loop je.l1)))⟩
def gZ.r0:aj:=(.region none [oM 11 2,
oM 12 1,
oP 13 (.bin .sub (.t 11) (.t 12)),
oM 6 13])
def gZ.r1:aj:=(.region none [oM 14 6,
oP 15 (.bin .geq (.t 14) (.c (.int .i64 8)))])
def gZ.r2:aj:=(.region none [oM 16 6,
oP 17 (.conv .u64 (.t 16)),
oP 7 (.alloc [.int .u64 0]),
⟨none, .store 1 (.t 7) (.t 17),none⟩])
def gZ.r3:aj:=(.region none [oM 18 6,
oP 19 (.call 240 [.t 18]),
oM 8 19])
def gZ.r4:aj:=(.region none [oM 20 1,
oM 21 6,
oP 22 (.bin .quo (.t 21) (.c (.int .i64 4))),
oP 23 (.bin .mul (.t 22) (.c (.int .i64 2))),
oP 24 (.bin .add (.t 20) (.t 23)),
oP 25 (.bin .sub (.t 24) (.c (.int .i64 1))),
oM 9 25])
def gZ.r5:aj:=(.region none [oM 26 9,
oM 27 1,
oM 28 6,
oP 29 (.bin .quo (.t 28) (.c (.int .i64 4))),
oP 30 (.bin .mul (.t 29) (.c (.int .i64 2))),
oP 31 (.bin .add (.t 27) (.t 30)),
oP 32 (.bin .add (.t 31) (.c (.int .i64 1))),
oP 33 (.bin .leq (.t 26) (.t 32))])
def gZ.r7:aj:=(.region none [oP 36 (.call 241 [.t 7]),
oM 37 8,
oP 38 (.bin .sub (.t 37) (.c (.int .u64 1))),
oP 39 (.bin .and (.t 36) (.t 38)),
oP 40 (.conv .i64 (.t 39)),
oM 10 40])
def gZ.r8:aj:=(.region none [oM 41 10,
oM 42 6,
oP 43 (.bin .geq (.t 41) (.t 42))])
def gZ.r9:aj:=(.region none [oM 44 10,
oM 45 6,
oP 46 (.bin .sub (.t 44) (.t 45)),
oM 10 46])
def gZ.r10:aj:=(.region (some 17) [oM 47 0,
oM 48 9,
oM 49 0,
oM 50 1,
oM 51 10,
oP 52 (.bin .add (.t 50) (.t 51)),
oM 53 0,
oM 54 1,
oM 55 10,
oP 56 (.bin .add (.t 54) (.t 55)),
oP 57 (.indexAddr none 1 (.t 53) (.t 56)),
oP 58 (.load none (.t 57)),
oM 59 0,
oM 60 9,
oP 61 (.indexAddr none 1 (.t 59) (.t 60)),
oP 62 (.load none (.t 61)),
oP 63 (.indexAddr none 1 (.t 47) (.t 48)),
⟨none, .fE 1 (.t 63) (.t 58) [],none⟩,
oP 64 (.indexAddr none 1 (.t 49) (.t 52)),
⟨none, .store 1 (.t 64) (.t 62),none⟩])
def gZ.r6:aj:=(.region none [oM 34 9,
oP 35 (.bin .add (.t 34) (.c (.int .i64 1))),
oM 9 35])
def gZ.l0:aj:=(.seq (.seq gZ.r5 (.cond (.t 33) .skip (.exit 0))) (.seq (.block 1 (.seq gZ.r7 (.seq (.seq gZ.r8 (.cond (.t 43) gZ.r9 .skip)) gZ.r10))) gZ.r6))
def gZ:bg:=⟨[],(.seq gZ.r0 (.seq gZ.r1 (.cond (.t 15) (.seq gZ.r2 (.seq gZ.r3 (.seq gZ.r4 (.block 0 (.loop gZ.l0))))) .skip)))⟩
def fB.r0:aj:=(.region none [oP 6 (.move (.c (.int .i64 0))),
oP 7 (.move (.c (.int .i64 0)))])
def fB.r1:aj:=(.region none [oM 13 2,
oM 14 1,
oP 15 (.bin .sub (.t 13) (.t 14)),
oM 8 15])
def fB.r2:aj:=(.region none [oP 9 (.alloc [.int .i64 0])])
def fB.r3:aj:=(.region none [oM 16 1,
oM 17 8,
oP 18 (.bin .quo (.t 17) (.c (.int .i64 4))),
oP 19 (.bin .mul (.t 18) (.c (.int .i64 1))),
oP 20 (.bin .add (.t 16) (.t 19)),
oM 10 20])
def fB.r4:aj:=(.region none [oM 21 1,
oM 22 8,
oP 23 (.bin .quo (.t 22) (.c (.int .i64 4))),
oP 24 (.bin .mul (.t 23) (.c (.int .i64 2))),
oP 25 (.bin .add (.t 21) (.t 24)),
oM 11 25])
def fB.r5:aj:=(.region none [oM 26 1,
oM 27 8,
oP 28 (.bin .quo (.t 27) (.c (.int .i64 4))),
oP 29 (.bin .mul (.t 28) (.c (.int .i64 3))),
oP 30 (.bin .add (.t 26) (.t 29)),
oM 12 30])
def fB.r6:aj:=(.region none [oM 31 8,
oP 32 (.bin .geq (.t 31) (.c (.int .i64 8)))])
def fB.r7:aj:=(.region none [oM 33 8,
oP 34 (.bin .geq (.t 33) (.c (.int .i64 50)))])
def fB.r8:aj:=(.region none [oM 35 0,
oM 36 10,
oP 37 (.call 242 [.t 35, .t 36, .t 9]),
oM 10 37])
def fB.r9:aj:=(.region none [oM 38 0,
oM 39 11,
oP 40 (.call 242 [.t 38, .t 39, .t 9]),
oM 11 40])
def fB.r10:aj:=(.region none [oM 41 0,
oM 42 12,
oP 43 (.call 242 [.t 41, .t 42, .t 9]),
oM 12 43])
def fB.r11:aj:=(.region none [oM 44 0,
oM 45 10,
oM 46 11,
oM 47 12,
oP 48 (.call 243 [.t 44, .t 45, .t 46, .t 47, .t 9]),
oM 11 48])
def fB.r12:aj:=(.region none [oP 49 (.load none (.t 9))])
def fB.gQ:aj:=(.region none [oP 52 (.bin .eql (.t 49) (.c (.int .i64 0))),
oM 51 52])
def fB.jR:aj:=(.region none [oM 53 11,
oM 6 53,
oP 7 (.move (.c (.int .i64 1)))])
def fB.r16:aj:=(.region none [oP 55 (.bin .eql (.t 49) (.c (.int .i64 12))),
oM 54 55])
def fB.kT:aj:=(.region none [oM 56 11,
oM 6 56,
oP 7 (.move (.c (.int .i64 2)))])
def fB.r13:aj:=(.region none [oM 50 11,
oM 6 50,
oP 7 (.move (.c (.int .i64 0)))])
def fB:bg:=⟨[.tmp 6, .tmp 7],(.seq fB.r0 (.seq fB.r1 (.seq fB.r2 (.seq fB.r3 (.seq fB.r4 (.seq fB.r5 (.seq (.seq fB.r6 (.cond (.t 32) (.seq (.seq fB.r7 (.cond (.t 34) (.seq fB.r8 (.seq fB.r9 fB.r10)) .skip)) fB.r11) .skip)) (.seq fB.r12 (.block 0 (.seq fB.gQ (.cond (.t 51) (.seq fB.jR .ret) (.seq fB.r16 (.cond (.t 54) (.seq fB.kT .ret) (.seq fB.r13 .ret))))))))))))))⟩
def kF.r0:aj:=(.region none [oM 8 1,
oM 6 8])
def kF.r1:aj:=(.region none [oM 9 2,
oP 10 (.bin .sub (.t 9) (.c (.int .i64 1))),
oM 7 10])
def kF.r2:aj:=(.region none [oM 11 6,
oM 12 7,
oP 13 (.bin .lss (.t 11) (.t 12))])
def kF.r3:aj:=(.region (some 13) [oM 14 0,
oM 15 6,
oM 16 0,
oM 17 7,
oM 18 0,
oM 19 7,
oP 20 (.indexAddr none 1 (.t 18) (.t 19)),
oP 21 (.load none (.t 20)),
oM 22 0,
oM 23 6,
oP 24 (.indexAddr none 1 (.t 22) (.t 23)),
oP 25 (.load none (.t 24)),
oP 26 (.indexAddr none 1 (.t 14) (.t 15)),
⟨none, .fE 1 (.t 26) (.t 21) [],none⟩,
oP 27 (.indexAddr none 1 (.t 16) (.t 17)),
⟨none, .store 1 (.t 27) (.t 25),none⟩])
def kF.r4:aj:=(.region none [oM 28 6,
oP 29 (.bin .add (.t 28) (.c (.int .i64 1))),
oM 6 29])
def kF.r5:aj:=(.region none [oM 30 7,
oP 31 (.bin .sub (.t 30) (.c (.int .i64 1))),
oM 7 31])
def kF.l0:aj:=(.seq (.seq kF.r2 (.cond (.t 13) .skip (.exit 0))) (.block 1 (.seq kF.r3 (.seq kF.r4 kF.r5))))
def kF:bg:=⟨[],(.seq kF.r0 (.seq kF.r1 (.block 0 (.loop kF.l0))))⟩
def bZ.r0:aj:=(.region none [oP 6 (.move (.c (.bool false)))])
def bZ.r1:aj:=(.region none [oM 11 1,
oP 12 (.bin .add (.t 11) (.c (.int .i64 1))),
oM 7 12])
def bZ.r2:aj:=(.region none [oP 8 (.move (.c (.int .i64 0)))])
def bZ.r3:aj:=(.region none [oM 13 8,
oP 14 (.bin .lss (.t 13) (.c (.int .i64 5)))])
def bZ.r5:aj:=(.region (some 16) [oM 17 7,
oM 18 2,
oP 19 (.bin .lss (.t 17) (.t 18)),
oM 20 19,
⟨some 21, .move (.t 0),some (20,true)⟩,
⟨some 22, .move (.t 7),some (20,true)⟩,
⟨some 23, .indexAddr none 1 (.t 21) (.t 22),some (20,true)⟩,
⟨some 24, .load none (.t 23),some (20,true)⟩,
⟨some 25, .move (.t 0),some (20,true)⟩,
⟨some 26, .move (.t 7),some (20,true)⟩,
⟨some 27, .bin .sub (.t 26) (.c (.int .i64 1)),some (20,true)⟩,
⟨some 28, .indexAddr none 1 (.t 25) (.t 27),some (20,true)⟩,
⟨some 29, .load none (.t 28),some (20,true)⟩,
⟨some 30, .call 235 [.t 24, .t 29],some (20,true)⟩,
⟨some 31, .not (.t 30),some (20,true)⟩,
oP 32 (.pick (.t 20) (.t 31) (.c (.bool false)))])
def bZ.r6:aj:=(.region none [oM 33 7,
oP 34 (.bin .add (.t 33) (.c (.int .i64 1))),
oM 7 34])
def bZ.l0:aj:=(.seq (.seq bZ.r5 (.cond (.t 32) .skip (.exit 2))) (.block 3 bZ.r6))
def bZ.r7:aj:=(.region none [oM 35 7,
oM 36 2,
oP 37 (.bin .eql (.t 35) (.t 36))])
def bZ.r8:aj:=(.region none [oP 6 (.move (.c (.bool true)))])
def bZ.r9:aj:=(.region none [oM 38 2,
oM 39 1,
oP 40 (.bin .sub (.t 38) (.t 39)),
oP 41 (.bin .lss (.t 40) (.c (.int .i64 50)))])
def bZ.r10:aj:=(.region none [oP 6 (.move (.c (.bool false)))])
def bZ.r11:aj:=(.region (some 15) [oM 42 0,
oM 43 7,
oM 44 0,
oM 45 7,
oP 46 (.bin .sub (.t 45) (.c (.int .i64 1))),
oM 47 0,
oM 48 7,
oP 49 (.bin .sub (.t 48) (.c (.int .i64 1))),
oP 50 (.indexAddr none 1 (.t 47) (.t 49)),
oP 51 (.load none (.t 50)),
oM 52 0,
oM 53 7,
oP 54 (.indexAddr none 1 (.t 52) (.t 53)),
oP 55 (.load none (.t 54)),
oP 56 (.indexAddr none 1 (.t 42) (.t 43)),
⟨none, .fE 1 (.t 56) (.t 51) [],none⟩,
oP 57 (.indexAddr none 1 (.t 44) (.t 46)),
⟨none, .store 1 (.t 57) (.t 55),none⟩])
def bZ.r12:aj:=(.region none [oM 58 7,
oM 59 1,
oP 60 (.bin .sub (.t 58) (.t 59)),
oP 61 (.bin .geq (.t 60) (.c (.int .i64 2)))])
def bZ.r13:aj:=(.region none [oM 62 7,
oP 63 (.bin .sub (.t 62) (.c (.int .i64 1))),
oM 9 63])
def bZ.gQ:aj:=(.region none [oM 64 9,
oP 65 (.bin .geq (.t 64) (.c (.int .i64 1)))])
def bZ.r16:aj:=(.region (some 11) [oM 68 0,
oM 69 9,
oP 70 (.indexAddr none 1 (.t 68) (.t 69)),
oP 71 (.load none (.t 70)),
oM 72 0,
oM 73 9,
oP 74 (.bin .sub (.t 73) (.c (.int .i64 1))),
oP 75 (.indexAddr none 1 (.t 72) (.t 74)),
oP 76 (.load none (.t 75)),
oP 77 (.call 235 [.t 71, .t 76]),
oP 78 (.not (.t 77))])
def bZ.kT:aj:=(.region (some 15) [oM 79 0,
oM 80 9,
oM 81 0,
oM 82 9,
oP 83 (.bin .sub (.t 82) (.c (.int .i64 1))),
oM 84 0,
oM 85 9,
oP 86 (.bin .sub (.t 85) (.c (.int .i64 1))),
oP 87 (.indexAddr none 1 (.t 84) (.t 86)),
oP 88 (.load none (.t 87)),
oM 89 0,
oM 90 9,
oP 91 (.indexAddr none 1 (.t 89) (.t 90)),
oP 92 (.load none (.t 91)),
oP 93 (.indexAddr none 1 (.t 79) (.t 80)),
⟨none, .fE 1 (.t 93) (.t 88) [],none⟩,
oP 94 (.indexAddr none 1 (.t 81) (.t 83)),
⟨none, .store 1 (.t 94) (.t 92),none⟩])
def bZ.jR:aj:=(.region none [oM 66 9,
oP 67 (.bin .sub (.t 66) (.c (.int .i64 1))),
oM 9 67])
def bZ.l1:aj:=(.seq (.seq bZ.gQ (.cond (.t 65) .skip (.exit 4))) (.seq (.block 5 (.seq (.seq bZ.r16 (.cond (.t 78) (.exit 4) .skip)) bZ.kT)) bZ.jR))
def bZ.lY:aj:=(.region none [oM 95 2,
oM 96 7,
oP 97 (.bin .sub (.t 95) (.t 96)),
oP 98 (.bin .geq (.t 97) (.c (.int .i64 2)))])
def bZ.lF:aj:=(.region none [oM 99 7,
oP 100 (.bin .add (.t 99) (.c (.int .i64 1))),
oM 10 100])
def bZ.nS:aj:=(.region none [oM 101 10,
oM 102 2,
oP 103 (.bin .lss (.t 101) (.t 102))])
def bZ.r22:aj:=(.region (some 11) [oM 106 0,
oM 107 10,
oP 108 (.indexAddr none 1 (.t 106) (.t 107)),
oP 109 (.load none (.t 108)),
oM 110 0,
oM 111 10,
oP 112 (.bin .sub (.t 111) (.c (.int .i64 1))),
oP 113 (.indexAddr none 1 (.t 110) (.t 112)),
oP 114 (.load none (.t 113)),
oP 115 (.call 235 [.t 109, .t 114]),
oP 116 (.not (.t 115))])
def bZ.vN:aj:=(.region (some 15) [oM 117 0,
oM 118 10,
oM 119 0,
oM 120 10,
oP 121 (.bin .sub (.t 120) (.c (.int .i64 1))),
oM 122 0,
oM 123 10,
oP 124 (.bin .sub (.t 123) (.c (.int .i64 1))),
oP 125 (.indexAddr none 1 (.t 122) (.t 124)),
oP 126 (.load none (.t 125)),
oM 127 0,
oM 128 10,
oP 129 (.indexAddr none 1 (.t 127) (.t 128)),
oP 130 (.load none (.t 129)),
oP 131 (.indexAddr none 1 (.t 117) (.t 118)),
⟨none, .fE 1 (.t 131) (.t 126) [],none⟩,
oP 132 (.indexAddr none 1 (.t 119) (.t 121)),
⟨none, .store 1 (.t 132) (.t 130),none⟩])
def bZ.ng:aj:=(.region none [oM 104 10,
oP 105 (.bin .add (.t 104) (.c (.int .i64 1))),
oM 10 105])
def bZ.l2:aj:=(.seq (.seq bZ.nS (.cond (.t 103) .skip (.exit 6))) (.seq (.block 7 (.seq (.seq bZ.r22 (.cond (.t 116) (.exit 6) .skip)) bZ.vN)) bZ.ng))
def bZ.r4:aj:=(.region none [oM 15 8,
oP 16 (.bin .add (.t 15) (.c (.int .i64 1))),
oM 8 16])
def bZ.l3:aj:=(.seq (.seq bZ.r3 (.cond (.t 14) .skip (.exit 0))) (.seq (.block 1 (.seq (.block 2 (.loop bZ.l0)) (.seq (.seq bZ.r7 (.cond (.t 37) (.seq bZ.r8 .ret) .skip)) (.seq (.seq bZ.r9 (.cond (.t 41) (.seq bZ.r10 .ret) .skip)) (.seq bZ.r11 (.seq (.seq bZ.r12 (.cond (.t 61) (.seq bZ.r13 (.block 4 (.loop bZ.l1))) .skip)) (.seq bZ.lY (.cond (.t 98) (.seq bZ.lF (.block 6 (.loop bZ.l2))) .skip)))))))) bZ.r4))
def bZ.zQ:aj:=(.region none [oP 6 (.move (.c (.bool false)))])
def bZ:bg:=⟨[.tmp 6],(.seq bZ.r0 (.seq bZ.r1 (.seq (.seq bZ.r2 (.block 0 (.loop bZ.l3))) (.seq bZ.zQ .ret))))⟩
def uw.r0:aj:=(.region none [oP 4 (.move (.c (.bool false)))])
def uw.r1:aj:=(.region none [oM 5 0,
oP 6 (.call 247 [.t 5]),
oM 7 6,
⟨some 8, .move (.t 1),some (7,true)⟩,
⟨some 9, .call 247 [.t 8],some (7,true)⟩,
⟨some 10, .not (.t 9),some (7,true)⟩,
oP 11 (.pick (.t 7) (.t 10) (.c (.bool false))),
oM 12 11,
⟨some 13, .move (.t 0),some (12,false)⟩,
⟨some 14, .move (.t 1),some (12,false)⟩,
⟨some 15, .bin .lss (.t 13) (.t 14),some (12,false)⟩,
oP 16 (.pick (.t 12) (.c (.bool true)) (.t 15)),
oM 4 16])
def uw:bg:=⟨[.tmp 4],(.seq uw.r0 (.seq uw.r1 .ret))⟩
def fP.r0:aj:=(.region none [oP 8 (.move (.c (.int .i64 0)))])
def fP.r1:aj:=(.region (some 13) [oM 11 0,
oM 12 1,
oM 13 0,
oM 14 3,
oM 15 0,
oM 16 3,
oP 17 (.indexAddr none 1 (.t 15) (.t 16)),
oP 18 (.load none (.t 17)),
oM 19 0,
oM 20 1,
oP 21 (.indexAddr none 1 (.t 19) (.t 20)),
oP 22 (.load none (.t 21)),
oP 23 (.indexAddr none 1 (.t 11) (.t 12)),
⟨none, .fE 1 (.t 23) (.t 18) [],none⟩,
oP 24 (.indexAddr none 1 (.t 13) (.t 14)),
⟨none, .store 1 (.t 24) (.t 22),none⟩])
def fP.r2:aj:=(.region none [oM 25 1,
oP 26 (.bin .add (.t 25) (.c (.int .i64 1))),
oM 27 2,
oP 28 (.bin .sub (.t 27) (.c (.int .i64 1))),
oM 9 26,
oM 10 28])
def fP.r3:aj:=(.region (some 15) [oM 29 9,
oM 30 10,
oP 31 (.bin .leq (.t 29) (.t 30)),
oM 32 31,
⟨some 33, .move (.t 0),some (32,true)⟩,
⟨some 34, .move (.t 1),some (32,true)⟩,
⟨some 35, .indexAddr none 1 (.t 33) (.t 34),some (32,true)⟩,
⟨some 36, .load none (.t 35),some (32,true)⟩,
⟨some 37, .move (.t 0),some (32,true)⟩,
⟨some 38, .move (.t 9),some (32,true)⟩,
⟨some 39, .indexAddr none 1 (.t 37) (.t 38),some (32,true)⟩,
⟨some 40, .load none (.t 39),some (32,true)⟩,
⟨some 41, .call 235 [.t 36, .t 40],some (32,true)⟩,
⟨some 42, .not (.t 41),some (32,true)⟩,
oP 43 (.pick (.t 32) (.t 42) (.c (.bool false)))])
def fP.r4:aj:=(.region none [oM 44 9,
oP 45 (.bin .add (.t 44) (.c (.int .i64 1))),
oM 9 45])
def fP.l0:aj:=(.seq (.seq fP.r3 (.cond (.t 43) .skip (.exit 2))) (.block 3 fP.r4))
def fP.r5:aj:=(.region (some 14) [oM 46 9,
oM 47 10,
oP 48 (.bin .leq (.t 46) (.t 47)),
oM 49 48,
⟨some 50, .move (.t 0),some (49,true)⟩,
⟨some 51, .move (.t 1),some (49,true)⟩,
⟨some 52, .indexAddr none 1 (.t 50) (.t 51),some (49,true)⟩,
⟨some 53, .load none (.t 52),some (49,true)⟩,
⟨some 54, .move (.t 0),some (49,true)⟩,
⟨some 55, .move (.t 10),some (49,true)⟩,
⟨some 56, .indexAddr none 1 (.t 54) (.t 55),some (49,true)⟩,
⟨some 57, .load none (.t 56),some (49,true)⟩,
⟨some 58, .call 235 [.t 53, .t 57],some (49,true)⟩,
oP 59 (.pick (.t 49) (.t 58) (.c (.bool false)))])
def fP.r6:aj:=(.region none [oM 60 10,
oP 61 (.bin .sub (.t 60) (.c (.int .i64 1))),
oM 10 61])
def fP.l1:aj:=(.seq (.seq fP.r5 (.cond (.t 59) .skip (.exit 4))) (.block 5 fP.r6))
def fP.r7:aj:=(.region none [oM 62 9,
oM 63 10,
oP 64 (.bin .gtr (.t 62) (.t 63))])
def fP.r8:aj:=(.region (some 13) [oM 65 0,
oM 66 9,
oM 67 0,
oM 68 10,
oM 69 0,
oM 70 10,
oP 71 (.indexAddr none 1 (.t 69) (.t 70)),
oP 72 (.load none (.t 71)),
oM 73 0,
oM 74 9,
oP 75 (.indexAddr none 1 (.t 73) (.t 74)),
oP 76 (.load none (.t 75)),
oP 77 (.indexAddr none 1 (.t 65) (.t 66)),
⟨none, .fE 1 (.t 77) (.t 72) [],none⟩,
oP 78 (.indexAddr none 1 (.t 67) (.t 68)),
⟨none, .store 1 (.t 78) (.t 76),none⟩])
def fP.r9:aj:=(.region none [oM 79 9,
oP 80 (.bin .add (.t 79) (.c (.int .i64 1))),
oM 9 80])
def fP.r10:aj:=(.region none [oM 81 10,
oP 82 (.bin .sub (.t 81) (.c (.int .i64 1))),
oM 10 82])
def fP.l2:aj:=(.block 1 (.seq (.block 2 (.loop fP.l0)) (.seq (.block 4 (.loop fP.l1)) (.seq (.seq fP.r7 (.cond (.t 64) (.exit 0) .skip)) (.seq fP.r8 (.seq fP.r9 fP.r10))))))
def fP.r11:aj:=(.region none [oM 83 9,
oM 8 83])
def fP:bg:=⟨[.tmp 8],(.seq fP.r0 (.seq fP.r1 (.seq fP.r2 (.seq (.block 0 (.loop fP.l2)) (.seq fP.r11 .ret)))))⟩
def bV.r0:aj:=(.region none [oP 8 (.move (.c (.int .i64 0))),
oP 9 (.move (.c (.bool false)))])
def bV.r1:aj:=(.region (some 13) [oM 12 0,
oM 13 1,
oM 14 0,
oM 15 3,
oM 16 0,
oM 17 3,
oP 18 (.indexAddr none 1 (.t 16) (.t 17)),
oP 19 (.load none (.t 18)),
oM 20 0,
oM 21 1,
oP 22 (.indexAddr none 1 (.t 20) (.t 21)),
oP 23 (.load none (.t 22)),
oP 24 (.indexAddr none 1 (.t 12) (.t 13)),
⟨none, .fE 1 (.t 24) (.t 19) [],none⟩,
oP 25 (.indexAddr none 1 (.t 14) (.t 15)),
⟨none, .store 1 (.t 25) (.t 23),none⟩])
def bV.r2:aj:=(.region none [oM 26 1,
oP 27 (.bin .add (.t 26) (.c (.int .i64 1))),
oM 28 2,
oP 29 (.bin .sub (.t 28) (.c (.int .i64 1))),
oM 10 27,
oM 11 29])
def bV.r3:aj:=(.region (some 14) [oM 30 10,
oM 31 11,
oP 32 (.bin .leq (.t 30) (.t 31)),
oM 33 32,
⟨some 34, .move (.t 0),some (33,true)⟩,
⟨some 35, .move (.t 10),some (33,true)⟩,
⟨some 36, .indexAddr none 1 (.t 34) (.t 35),some (33,true)⟩,
⟨some 37, .load none (.t 36),some (33,true)⟩,
⟨some 38, .move (.t 0),some (33,true)⟩,
⟨some 39, .move (.t 1),some (33,true)⟩,
⟨some 40, .indexAddr none 1 (.t 38) (.t 39),some (33,true)⟩,
⟨some 41, .load none (.t 40),some (33,true)⟩,
⟨some 42, .call 235 [.t 37, .t 41],some (33,true)⟩,
oP 43 (.pick (.t 33) (.t 42) (.c (.bool false)))])
def bV.r4:aj:=(.region none [oM 44 10,
oP 45 (.bin .add (.t 44) (.c (.int .i64 1))),
oM 10 45])
def bV.l0:aj:=(.seq (.seq bV.r3 (.cond (.t 43) .skip (.exit 0))) (.block 1 bV.r4))
def bV.r5:aj:=(.region (some 15) [oM 46 10,
oM 47 11,
oP 48 (.bin .leq (.t 46) (.t 47)),
oM 49 48,
⟨some 50, .move (.t 0),some (49,true)⟩,
⟨some 51, .move (.t 11),some (49,true)⟩,
⟨some 52, .indexAddr none 1 (.t 50) (.t 51),some (49,true)⟩,
⟨some 53, .load none (.t 52),some (49,true)⟩,
⟨some 54, .move (.t 0),some (49,true)⟩,
⟨some 55, .move (.t 1),some (49,true)⟩,
⟨some 56, .indexAddr none 1 (.t 54) (.t 55),some (49,true)⟩,
⟨some 57, .load none (.t 56),some (49,true)⟩,
⟨some 58, .call 235 [.t 53, .t 57],some (49,true)⟩,
⟨some 59, .not (.t 58),some (49,true)⟩,
oP 60 (.pick (.t 49) (.t 59) (.c (.bool false)))])
def bV.r6:aj:=(.region none [oM 61 11,
oP 62 (.bin .sub (.t 61) (.c (.int .i64 1))),
oM 11 62])
def bV.l1:aj:=(.seq (.seq bV.r5 (.cond (.t 60) .skip (.exit 2))) (.block 3 bV.r6))
def bV.r7:aj:=(.region none [oM 63 10,
oM 64 11,
oP 65 (.bin .gtr (.t 63) (.t 64))])
def bV.r8:aj:=(.region (some 13) [oM 66 0,
oM 67 11,
oM 68 0,
oM 69 1,
oM 70 0,
oM 71 1,
oP 72 (.indexAddr none 1 (.t 70) (.t 71)),
oP 73 (.load none (.t 72)),
oM 74 0,
oM 75 11,
oP 76 (.indexAddr none 1 (.t 74) (.t 75)),
oP 77 (.load none (.t 76)),
oP 78 (.indexAddr none 1 (.t 66) (.t 67)),
⟨none, .fE 1 (.t 78) (.t 73) [],none⟩,
oP 79 (.indexAddr none 1 (.t 68) (.t 69)),
⟨none, .store 1 (.t 79) (.t 77),none⟩])
def bV.r9:aj:=(.region none [oM 80 11,
oM 8 80,
oP 9 (.move (.c (.bool true)))])
def bV.r10:aj:=(.region (some 13) [oM 81 0,
oM 82 10,
oM 83 0,
oM 84 11,
oM 85 0,
oM 86 11,
oP 87 (.indexAddr none 1 (.t 85) (.t 86)),
oP 88 (.load none (.t 87)),
oM 89 0,
oM 90 10,
oP 91 (.indexAddr none 1 (.t 89) (.t 90)),
oP 92 (.load none (.t 91)),
oP 93 (.indexAddr none 1 (.t 81) (.t 82)),
⟨none, .fE 1 (.t 93) (.t 88) [],none⟩,
oP 94 (.indexAddr none 1 (.t 83) (.t 84)),
⟨none, .store 1 (.t 94) (.t 92),none⟩])
def bV.r11:aj:=(.region none [oM 95 10,
oP 96 (.bin .add (.t 95) (.c (.int .i64 1))),
oM 10 96])
def bV.r12:aj:=(.region none [oM 97 11,
oP 98 (.bin .sub (.t 97) (.c (.int .i64 1))),
oM 11 98])
def bV.r13:aj:=(.region (some 14) [oM 99 10,
oM 100 11,
oP 101 (.bin .leq (.t 99) (.t 100)),
oM 102 101,
⟨some 103, .move (.t 0),some (102,true)⟩,
⟨some 104, .move (.t 10),some (102,true)⟩,
⟨some 105, .indexAddr none 1 (.t 103) (.t 104),some (102,true)⟩,
⟨some 106, .load none (.t 105),some (102,true)⟩,
⟨some 107, .move (.t 0),some (102,true)⟩,
⟨some 108, .move (.t 1),some (102,true)⟩,
⟨some 109, .indexAddr none 1 (.t 107) (.t 108),some (102,true)⟩,
⟨some 110, .load none (.t 109),some (102,true)⟩,
⟨some 111, .call 235 [.t 106, .t 110],some (102,true)⟩,
oP 112 (.pick (.t 102) (.t 111) (.c (.bool false)))])
def bV.gQ:aj:=(.region none [oM 113 10,
oP 114 (.bin .add (.t 113) (.c (.int .i64 1))),
oM 10 114])
def bV.l2:aj:=(.seq (.seq bV.r13 (.cond (.t 112) .skip (.exit 6))) (.block 7 bV.gQ))
def bV.jR:aj:=(.region (some 15) [oM 115 10,
oM 116 11,
oP 117 (.bin .leq (.t 115) (.t 116)),
oM 118 117,
⟨some 119, .move (.t 0),some (118,true)⟩,
⟨some 120, .move (.t 11),some (118,true)⟩,
⟨some 121, .indexAddr none 1 (.t 119) (.t 120),some (118,true)⟩,
⟨some 122, .load none (.t 121),some (118,true)⟩,
⟨some 123, .move (.t 0),some (118,true)⟩,
⟨some 124, .move (.t 1),some (118,true)⟩,
⟨some 125, .indexAddr none 1 (.t 123) (.t 124),some (118,true)⟩,
⟨some 126, .load none (.t 125),some (118,true)⟩,
⟨some 127, .call 235 [.t 122, .t 126],some (118,true)⟩,
⟨some 128, .not (.t 127),some (118,true)⟩,
oP 129 (.pick (.t 118) (.t 128) (.c (.bool false)))])
def bV.r16:aj:=(.region none [oM 130 11,
oP 131 (.bin .sub (.t 130) (.c (.int .i64 1))),
oM 11 131])
def bV.l3:aj:=(.seq (.seq bV.jR (.cond (.t 129) .skip (.exit 8))) (.block 9 bV.r16))
def bV.kT:aj:=(.region none [oM 132 10,
oM 133 11,
oP 134 (.bin .gtr (.t 132) (.t 133))])
def bV.lY:aj:=(.region (some 13) [oM 135 0,
oM 136 10,
oM 137 0,
oM 138 11,
oM 139 0,
oM 140 11,
oP 141 (.indexAddr none 1 (.t 139) (.t 140)),
oP 142 (.load none (.t 141)),
oM 143 0,
oM 144 10,
oP 145 (.indexAddr none 1 (.t 143) (.t 144)),
oP 146 (.load none (.t 145)),
oP 147 (.indexAddr none 1 (.t 135) (.t 136)),
⟨none, .fE 1 (.t 147) (.t 142) [],none⟩,
oP 148 (.indexAddr none 1 (.t 137) (.t 138)),
⟨none, .store 1 (.t 148) (.t 146),none⟩])
def bV.lF:aj:=(.region none [oM 149 10,
oP 150 (.bin .add (.t 149) (.c (.int .i64 1))),
oM 10 150])
def bV.nS:aj:=(.region none [oM 151 11,
oP 152 (.bin .sub (.t 151) (.c (.int .i64 1))),
oM 11 152])
def bV.l4:aj:=(.block 5 (.seq (.block 6 (.loop bV.l2)) (.seq (.block 8 (.loop bV.l3)) (.seq (.seq bV.kT (.cond (.t 134) (.exit 4) .skip)) (.seq bV.lY (.seq bV.lF bV.nS))))))
def bV.ng:aj:=(.region (some 13) [oM 153 0,
oM 154 11,
oM 155 0,
oM 156 1,
oM 157 0,
oM 158 1,
oP 159 (.indexAddr none 1 (.t 157) (.t 158)),
oP 160 (.load none (.t 159)),
oM 161 0,
oM 162 11,
oP 163 (.indexAddr none 1 (.t 161) (.t 162)),
oP 164 (.load none (.t 163)),
oP 165 (.indexAddr none 1 (.t 153) (.t 154)),
⟨none, .fE 1 (.t 165) (.t 160) [],none⟩,
oP 166 (.indexAddr none 1 (.t 155) (.t 156)),
⟨none, .store 1 (.t 166) (.t 164),none⟩])
def bV.r22:aj:=(.region none [oM 167 11,
oM 8 167,
oP 9 (.move (.c (.bool false)))])
def bV:bg:=⟨[.tmp 8, .tmp 9],(.seq bV.r0 (.seq bV.r1 (.seq bV.r2 (.seq (.block 0 (.loop bV.l0)) (.seq (.block 2 (.loop bV.l1)) (.seq (.seq bV.r7 (.cond (.t 65) (.seq bV.r8 (.seq bV.r9 .ret)) .skip)) (.seq bV.r10 (.seq bV.r11 (.seq bV.r12 (.seq (.block 4 (.loop bV.l4)) (.seq bV.ng (.seq bV.r22 .ret))))))))))))⟩
def uy.r0:aj:=(.region none [oP 2 (.move (.c (.int .u64 0)))])
def uy.r1:aj:=(.region none [oM 3 0,
oP 4 (.conv .u64 (.t 3)),
oP 5 (.call 227 [.t 4]),
oP 6 (.bin .shl (.c (.int .u64 1)) (.t 5)),
oM 2 6])
def uy:bg:=⟨[.tmp 2],(.seq uy.r0 (.seq uy.r1 .ret))⟩
def mX.r0:aj:=(.region none [oP 2 (.move (.c (.int .u64 0)))])
def mX.r1:aj:=(.region (some 9) [oM 3 0,
oP 4 (.nilCheck (.t 3)),
oP 5 (.load none (.t 4)),
oM 6 0,
oP 7 (.nilCheck (.t 6)),
oP 8 (.load none (.t 7)),
oP 9 (.bin .shl (.t 8) (.c (.int .u64 13))),
oP 10 (.bin .xor (.t 5) (.t 9)),
oP 11 (.nilCheck (.t 3)),
⟨none, .store 1 (.t 11) (.t 10),none⟩])
def mX.r2:aj:=(.region (some 9) [oM 12 0,
oP 13 (.nilCheck (.t 12)),
oP 14 (.load none (.t 13)),
oM 15 0,
oP 16 (.nilCheck (.t 15)),
oP 17 (.load none (.t 16)),
oP 18 (.bin .shr (.t 17) (.c (.int .u64 7))),
oP 19 (.bin .xor (.t 14) (.t 18)),
oP 20 (.nilCheck (.t 12)),
⟨none, .store 1 (.t 20) (.t 19),none⟩])
def mX.r3:aj:=(.region (some 9) [oM 21 0,
oP 22 (.nilCheck (.t 21)),
oP 23 (.load none (.t 22)),
oM 24 0,
oP 25 (.nilCheck (.t 24)),
oP 26 (.load none (.t 25)),
oP 27 (.bin .shl (.t 26) (.c (.int .u64 17))),
oP 28 (.bin .xor (.t 23) (.t 27)),
oP 29 (.nilCheck (.t 21)),
⟨none, .store 1 (.t 29) (.t 28),none⟩])
def mX.r4:aj:=(.region none [oM 30 0,
oP 31 (.nilCheck (.t 30)),
oP 32 (.load none (.t 31)),
oM 2 32])
def mX:bg:=⟨[.tmp 2],(.seq mX.r0 (.seq mX.r1 (.seq mX.r2 (.seq mX.r3 (.seq mX.r4 .ret)))))⟩
def mY.r0:aj:=(.region none [oP 10 (.move (.c (.int .i64 0)))])
def mY.r1:aj:=(.region none [oM 12 0,
oM 13 1,
oM 14 2,
oM 15 4,
oP 16 (.call 246 [.t 12, .t 13, .t 14, .t 15]),
oM 11 16,
oP 17 (.extract (.t 11) 0),
oP 18 (.extract (.t 11) 1),
oM 1 17,
oM 2 18])
def mY.r2:aj:=(.region none [oM 20 0,
oM 21 2,
oM 22 3,
oM 23 4,
oP 24 (.call 246 [.t 20, .t 21, .t 22, .t 23]),
oM 19 24,
oP 25 (.extract (.t 19) 0),
oP 26 (.extract (.t 19) 1),
oM 2 25,
oM 3 26])
def mY.r3:aj:=(.region none [oM 28 0,
oM 29 1,
oM 30 2,
oM 31 4,
oP 32 (.call 246 [.t 28, .t 29, .t 30, .t 31]),
oM 27 32,
oP 33 (.extract (.t 27) 0),
oP 34 (.extract (.t 27) 1),
oM 1 33,
oM 2 34])
def mY.r4:aj:=(.region none [oM 35 2,
oM 10 35])
def mY:bg:=⟨[.tmp 10],(.seq mY.r0 (.seq mY.r1 (.seq mY.r2 (.seq mY.r3 (.seq mY.r4 .ret)))))⟩
def uz.r0:aj:=(.region none [oP 2 (.move (.c (.bool false)))])
def uz.r1:aj:=(.region none [oM 3 0,
oM 4 0,
oP 5 (.bin .neq (.t 3) (.t 4)),
oM 2 5])
def uz:bg:=⟨[.tmp 2],(.seq uz.r0 (.seq uz.r1 .ret))⟩
def mZ.r0:aj:=(.region none [oP 8 (.move (.c (.int .i64 0))),
oP 9 (.move (.c (.int .i64 0)))])
def mZ.r1:aj:=(.region (some 9) [oM 10 0,
oM 11 2,
oP 12 (.indexAddr none 1 (.t 10) (.t 11)),
oP 13 (.load none (.t 12)),
oM 14 0,
oM 15 1,
oP 16 (.indexAddr none 1 (.t 14) (.t 15)),
oP 17 (.load none (.t 16)),
oP 18 (.call 235 [.t 13, .t 17])])
def mZ.r2:aj:=(.region none [oM 19 3,
oP 20 (.nilCheck (.t 19)),
oP 21 (.load none (.t 20)),
oP 22 (.bin .add (.t 21) (.c (.int .i64 1))),
oP 23 (.nilCheck (.t 19)),
⟨none, .store 1 (.t 23) (.t 22),none⟩])
def mZ.r3:aj:=(.region none [oM 24 2,
oM 25 1,
oM 8 24,
oM 9 25])
def mZ.r4:aj:=(.region none [oM 26 1,
oM 27 2,
oM 8 26,
oM 9 27])
def mZ:bg:=⟨[.tmp 8, .tmp 9],(.seq mZ.r0 (.seq (.seq mZ.r1 (.cond (.t 18) (.seq mZ.r2 (.seq mZ.r3 .ret)) .skip)) (.seq mZ.r4 .ret)))⟩
end Go.Am
