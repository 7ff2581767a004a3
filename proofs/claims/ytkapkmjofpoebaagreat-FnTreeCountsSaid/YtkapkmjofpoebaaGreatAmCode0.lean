/- The code of the functions that the claim reaches, in the small machine's form: written by a program of mine, off the loaded program; the checks compare the two. -/
import Derived.Test.YtkapkmjofpoebaaGreatAmCore
set_option linter.unusedVariables false
set_option maxRecDepth 100000
namespace Go.Am
open Go
def aQ.r0:aj:=(.region none [oP 2 (.move (.c (.bool false)))])
def aQ.r1:aj:=(.region none [oM 51 0,
oP 52 (.call 41 [.t 51])])
def aQ.r2:aj:=(.region none [oP 2 (.move (.c (.bool true)))])
def aQ.r3:aj:=(.region none [oM 54 0,
oP 55 (.call 437 [.t 54]),
oM 53 55,
oP 56 (.extract (.t 53) 0),
oP 57 (.extract (.t 53) 1),
oM 3 56,
oM 4 57])
def aQ.r4:aj:=(.region none [oM 59 3,
oM 60 4,
oP 61 (.call 303 [.t 59, .t 60]),
oM 58 61,
oP 62 (.extract (.t 58) 0),
oP 63 (.extract (.t 58) 1),
oM 5 62,
oM 6 63])
def aQ.r5:aj:=(.region none [oM 65 3,
oM 66 4,
oP 67 (.call 302 [.t 65, .t 66]),
oM 64 67,
oP 68 (.extract (.t 64) 0),
oP 69 (.extract (.t 64) 1),
oM 7 68,
oM 8 69])
def aQ.r6:aj:=(.region none [oM 70 6,
oM 71 8,
oP 72 (.bin .neq (.t 70) (.t 71)),
oM 73 72,
⟨some 74, .move (.t 5),some (73,false)⟩,
⟨some 75, .move (.t 7),some (73,false)⟩,
⟨some 76, .call 438 [.t 74, .t 75],some (73,false)⟩,
⟨some 77, .not (.t 76),some (73,false)⟩,
oP 78 (.pick (.t 73) (.c (.bool true)) (.t 77))])
def aQ.r7:aj:=(.region none [oP 2 (.move (.c (.bool false)))])
def aQ.r8:aj:=(.region none [oM 79 6,
oP 80 (.bin .eql (.t 79) (.c (.int .i64 0)))])
def aQ.r9:aj:=(.region none [oM 82 3,
oM 83 4,
oP 84 (.call 13 [.t 82, .t 83]),
oM 81 84,
oP 85 (.extract (.t 81) 0),
oP 86 (.extract (.t 81) 1),
oM 9 85,
oM 10 86])
def aQ.r10:aj:=(.region none [oP 11 (.move (.c (.int .i64 0)))])
def aQ.r11:aj:=(.region none [oP 12 (.move (.c (.int .i64 0)))])
def aQ.r12:aj:=(.region none [oM 87 12,
oM 88 5,
oP 89 (.len (.t 88)),
oP 90 (.bin .lss (.t 87) (.t 89))])
def aQ.eP:aj:=(.region none [oM 94 5,
oM 95 12,
oP 96 (.indexAddr none 1 (.t 94) (.t 95)),
oP 97 (.load none (.t 96)),
oP 98 (.call 250 [.t 97]),
oM 93 98,
oP 99 (.extract (.t 93) 0),
oP 100 (.extract (.t 93) 1),
oP 13 (.alloc ([.int .i64 0]++List.replicate 32 (.int .u8 0))),
⟨none, .store 33 (.t 13) (.t 99),none⟩,
oM 14 100])
def aQ.gG:aj:=(.region none [oP 102 (.load (some 33) (.t 13)),
oP 103 (.call 265 [.t 102]),
oM 101 103,
oP 104 (.extract (.t 101) 0),
oP 105 (.extract (.t 101) 1),
oM 15 104,
oM 16 105])
def aQ.r16:aj:=(.region none [oM 106 14,
oP 107 (.bin .neq (.t 106) (.c (.int .i64 0))),
oM 108 107,
⟨some 109, .move (.t 16),some (108,false)⟩,
⟨some 110, .bin .neq (.t 109) (.c (.int .i64 0)),some (108,false)⟩,
oP 111 (.pick (.t 108) (.c (.bool true)) (.t 110)),
oM 112 111,
⟨some 113, .move (.t 15),some (112,false)⟩,
⟨some 114, .bin .lss (.t 113) (.c (.int .i64 1)),some (112,false)⟩,
oP 115 (.pick (.t 112) (.c (.bool true)) (.t 114))])
def aQ.lC:aj:=(.region none [oP 2 (.move (.c (.bool false)))])
def aQ.nN:aj:=(.region none [oM 116 11,
oP 117 (.fieldAddr 0 (.t 13)),
oP 118 (.load none (.t 117)),
oM 119 15,
oP 120 (.bin .quo (.t 118) (.t 119)),
oP 121 (.bin .add (.t 116) (.t 120)),
oM 11 121])
def aQ.r13:aj:=(.region none [oM 91 12,
oP 92 (.bin .add (.t 91) (.c (.int .i64 1))),
oM 12 92])
def aQ.l0:aj:=(.seq (.seq aQ.r12 (.cond (.t 90) .skip (.exit 0))) (.seq (.block 1 (.seq aQ.eP (.seq aQ.gG (.seq (.seq aQ.r16 (.cond (.t 115) (.seq aQ.lC .ret) .skip)) aQ.nN)))) aQ.r13))
def aQ.nO:aj:=(.region none [oM 122 10,
oP 123 (.bin .neq (.t 122) (.c (.int .i64 0))),
oM 124 123,
⟨some 125, .move (.t 11),some (124,false)⟩,
⟨some 126, .move (.t 9),some (124,false)⟩,
⟨some 127, .bin .neq (.t 125) (.t 126),some (124,false)⟩,
oP 128 (.pick (.t 124) (.c (.bool true)) (.t 127))])
def aQ.nP:aj:=(.region none [oP 2 (.move (.c (.bool false)))])
def aQ.nD:aj:=(.region none [oM 130 0,
oP 131 (.call 439 [.t 130]),
oM 129 131,
oP 132 (.extract (.t 129) 0),
oP 133 (.extract (.t 129) 1),
oM 17 132,
oM 18 133])
def aQ.r22:aj:=(.region none [oM 135 17,
oM 136 18,
oP 137 (.call 13 [.t 135, .t 136]),
oM 134 137,
oP 138 (.extract (.t 134) 0),
oP 139 (.extract (.t 134) 1),
oM 19 138,
oM 20 139])
def aQ.pV:aj:=(.region none [oM 141 17,
oM 142 18,
oP 143 (.call 12 [.t 141, .t 142]),
oM 140 143,
oP 144 (.extract (.t 140) 0),
oP 145 (.extract (.t 140) 1),
oM 21 144,
oM 22 145])
def aQ.pW:aj:=(.region none [oM 146 20,
oM 147 22,
oP 148 (.bin .neq (.t 146) (.t 147)),
oM 149 148,
⟨some 150, .move (.t 19),some (149,false)⟩,
⟨some 151, .move (.t 21),some (149,false)⟩,
⟨some 152, .bin .neq (.t 150) (.t 151),some (149,false)⟩,
oP 153 (.pick (.t 149) (.c (.bool true)) (.t 152))])
def aQ.r25:aj:=(.region none [oP 2 (.move (.c (.bool false)))])
def aQ.qG:aj:=(.region none [oM 155 0,
oP 156 (.call 440 [.t 155]),
oM 154 156,
oP 157 (.extract (.t 154) 0),
oP 158 (.extract (.t 154) 1),
oP 159 (.extract (.t 154) 2),
oP 23 (.alloc ([.int .i64 0]++List.replicate 32 (.int .u8 0))),
⟨none, .store 33 (.t 23) (.t 157),none⟩,
oM 24 158,
oM 25 159])
def aQ.r27:aj:=(.region none [oP 161 (.load (some 33) (.t 23)),
oM 162 24,
oM 163 25,
oP 164 (.call 294 [.t 161, .t 162, .t 163]),
oM 160 164,
oP 165 (.extract (.t 160) 0),
oP 166 (.extract (.t 160) 1),
oM 26 165,
oM 27 166])
def aQ.r28:aj:=(.region none [oP 168 (.load (some 33) (.t 23)),
oM 169 24,
oM 170 25,
oP 171 (.call 293 [.t 168, .t 169, .t 170]),
oM 167 171,
oP 172 (.extract (.t 167) 0),
oP 173 (.extract (.t 167) 1),
oM 28 172,
oM 29 173])
def aQ.oV:aj:=(.region none [oM 174 27,
oM 175 29,
oP 176 (.bin .neq (.t 174) (.t 175)),
oM 177 176,
⟨some 178, .move (.t 26),some (177,false)⟩,
⟨some 179, .move (.t 28),some (177,false)⟩,
⟨some 180, .call 43 [.t 178, .t 179],some (177,false)⟩,
⟨some 181, .not (.t 180),some (177,false)⟩,
oP 182 (.pick (.t 177) (.c (.bool true)) (.t 181))])
def aQ.pX:aj:=(.region none [oP 2 (.move (.c (.bool false)))])
def aQ.tu:aj:=(.region none [oM 183 27,
oP 184 (.bin .eql (.t 183) (.c (.int .i64 0)))])
def aQ.r32:aj:=(.region none [oP 186 (.fieldAddr 1 (.t 23)),
oP 187 (.load (some 16) (.t 186)),
oP 188 (.fieldAddr 0 (.t 23)),
oP 189 (.load none (.t 188)),
oP 190 (.call 441 [.t 187, .t 189]),
oM 185 190,
oP 191 (.extract (.t 185) 0),
oP 192 (.extract (.t 185) 1),
oM 30 191,
oM 31 192])
def aQ.vJ:aj:=(.region none [oP 194 (.fieldAddr 17 (.t 23)),
oP 195 (.load (some 16) (.t 194)),
oP 196 (.fieldAddr 0 (.t 23)),
oP 197 (.load none (.t 196)),
oP 198 (.call 441 [.t 195, .t 197]),
oM 193 198,
oP 199 (.extract (.t 193) 0),
oP 200 (.extract (.t 193) 1),
oM 32 199,
oM 33 200])
def aQ.vK:aj:=(.region none [oM 201 31,
oP 202 (.bin .neq (.t 201) (.c (.int .i64 0))),
oM 203 202,
⟨some 204, .move (.t 33),some (203,false)⟩,
⟨some 205, .bin .neq (.t 204) (.c (.int .i64 0)),some (203,false)⟩,
oP 206 (.pick (.t 203) (.c (.bool true)) (.t 205)),
oM 207 206,
⟨some 208, .move (.t 26),some (207,false)⟩,
⟨some 209, .call 55 [.t 208],some (207,false)⟩,
⟨some 210, .move (.t 24),some (207,false)⟩,
⟨some 211, .call 55 [.t 210],some (207,false)⟩,
⟨some 212, .bin .neq (.t 209) (.t 211),some (207,false)⟩,
oP 213 (.pick (.t 207) (.c (.bool true)) (.t 212)),
oM 214 213,
⟨some 215, .move (.t 26),some (214,false)⟩,
⟨some 216, .call 55 [.t 215],some (214,false)⟩,
⟨some 217, .move (.t 25),some (214,false)⟩,
⟨some 218, .call 55 [.t 217],some (214,false)⟩,
⟨some 219, .bin .neq (.t 216) (.t 218),some (214,false)⟩,
oP 220 (.pick (.t 214) (.c (.bool true)) (.t 219))])
def aQ.vM:aj:=(.region none [oP 2 (.move (.c (.bool false)))])
def aQ.uG:aj:=(.region none [oP 34 (.move (.c (.int .i64 0)))])
def aQ.BI:aj:=(.region none [oM 221 34,
oM 222 30,
oP 223 (.len (.t 222)),
oP 224 (.bin .lss (.t 221) (.t 223))])
def aQ.ET:aj:=(.region none [oP 35 (.move (.c (.int .i64 0)))])
def aQ.Ny:aj:=(.region none [oP 36 (.move (.c (.int .i64 0)))])
def aQ.Nz:aj:=(.region none [oM 227 36,
oM 228 30,
oM 229 34,
oP 230 (.indexAddr none 1 (.t 228) (.t 229)),
oP 231 (.load none (.t 230)),
oP 232 (.len (.t 231)),
oP 233 (.bin .lss (.t 227) (.t 232))])
def aQ.NC:aj:=(.region none [oM 236 35,
oM 237 26,
oM 238 30,
oM 239 34,
oP 240 (.indexAddr none 1 (.t 238) (.t 239)),
oP 241 (.load none (.t 240)),
oM 242 36,
oP 243 (.indexAddr none 1 (.t 241) (.t 242)),
oP 244 (.load none (.t 243)),
oP 245 (.indexAddr none 1 (.t 237) (.t 244)),
oP 246 (.load none (.t 245)),
oP 247 (.bin .add (.t 236) (.t 246)),
oM 35 247])
def aQ.ND:aj:=(.region none [oM 234 36,
oP 235 (.bin .add (.t 234) (.c (.int .i64 1))),
oM 36 235])
def aQ.l1:aj:=(.seq (.seq aQ.Nz (.cond (.t 233) .skip (.exit 4))) (.seq (.block 5 aQ.NC) aQ.ND))
def aQ.NG:aj:=(.region none [oM 248 35,
oM 249 24,
oM 250 34,
oP 251 (.indexAddr none 1 (.t 249) (.t 250)),
oP 252 (.load none (.t 251)),
oP 253 (.bin .neq (.t 248) (.t 252))])
def aQ.r45:aj:=(.region none [oP 2 (.move (.c (.bool false)))])
def aQ.EU:aj:=(.region none [oM 225 34,
oP 226 (.bin .add (.t 225) (.c (.int .i64 1))),
oM 34 226])
def aQ.l2:aj:=(.seq (.seq aQ.BI (.cond (.t 224) .skip (.exit 2))) (.seq (.block 3 (.seq aQ.ET (.seq (.seq aQ.Ny (.block 4 (.loop aQ.l1))) (.seq aQ.NG (.cond (.t 253) (.seq aQ.r45 .ret) .skip))))) aQ.EU))
def aQ.UE:aj:=(.region none [oM 254 32,
oP 255 (.len (.t 254)),
oM 256 25,
oP 257 (.len (.t 256)),
oP 258 (.bin .neq (.t 255) (.t 257))])
def aQ.UF:aj:=(.region none [oP 2 (.move (.c (.bool false)))])
def aQ.UG:aj:=(.region none [oM 259 0,
oP 260 (.call 442 [.t 259]),
oP 37 (.alloc ([.int .i64 0]++List.replicate 32 (.int .u8 0))),
⟨none, .store 33 (.t 37) (.t 260),none⟩])
def aQ.UH:aj:=(.region none [oP 262 (.load (some 33) (.t 37)),
oP 263 (.call 291 [.t 262]),
oM 261 263,
oP 264 (.extract (.t 261) 0),
oP 265 (.extract (.t 261) 1),
oM 38 264,
oM 39 265])
def aQ.UJ:aj:=(.region none [oP 267 (.load (some 33) (.t 37)),
oP 268 (.call 290 [.t 267]),
oM 266 268,
oP 269 (.extract (.t 266) 0),
oP 270 (.extract (.t 266) 1),
oM 40 269,
oM 41 270])
def aQ.UK:aj:=(.region none [oP 272 (.load (some 33) (.t 37)),
oP 273 (.call 288 [.t 272]),
oM 271 273,
oP 274 (.extract (.t 271) 0),
oP 275 (.extract (.t 271) 1),
oM 42 274,
oM 43 275])
def aQ.UL:aj:=(.region none [oP 277 (.load (some 33) (.t 37)),
oP 278 (.call 287 [.t 277]),
oM 276 278,
oP 279 (.extract (.t 276) 0),
oP 280 (.extract (.t 276) 1),
oM 44 279,
oM 45 280])
def aQ.UM:aj:=(.region none [oM 281 39,
oM 282 41,
oP 283 (.bin .neq (.t 281) (.t 282)),
oM 284 283,
⟨some 285, .move (.t 38),some (284,false)⟩,
⟨some 286, .move (.t 40),some (284,false)⟩,
⟨some 287, .call 43 [.t 285, .t 286],some (284,false)⟩,
⟨some 288, .not (.t 287),some (284,false)⟩,
oP 289 (.pick (.t 284) (.c (.bool true)) (.t 288)),
oM 290 289,
⟨some 291, .move (.t 43),some (290,false)⟩,
⟨some 292, .move (.t 45),some (290,false)⟩,
⟨some 293, .bin .neq (.t 291) (.t 292),some (290,false)⟩,
oP 294 (.pick (.t 290) (.c (.bool true)) (.t 293)),
oM 295 294,
⟨some 296, .move (.t 42),some (295,false)⟩,
⟨some 297, .move (.t 44),some (295,false)⟩,
⟨some 298, .bin .neq (.t 296) (.t 297),some (295,false)⟩,
oP 299 (.pick (.t 295) (.c (.bool true)) (.t 298))])
def aQ.UN:aj:=(.region none [oP 2 (.move (.c (.bool false)))])
def aQ.UO:aj:=(.region none [oM 300 39,
oP 301 (.bin .eql (.t 300) (.c (.int .i64 0))),
oM 302 301,
⟨some 303, .move (.t 38),some (302,true)⟩,
⟨some 304, .len (.t 303),some (302,true)⟩,
⟨some 305, .bin .neq (.t 304) (.c (.int .i64 2)),some (302,true)⟩,
⟨some 306, .move (.t 305),some (302,true)⟩,
⟨some 307, .move (.t 38),some (306,false)⟩,
⟨some 308, .indexAddr none 1 (.t 307) (.c (.int .i64 0)),some (306,false)⟩,
⟨some 309, .load none (.t 308),some (306,false)⟩,
⟨some 310, .bin .eql (.t 309) (.c (.int .i64 2)),some (306,false)⟩,
⟨some 311, .move (.t 42),some (306,false)⟩,
⟨some 312, .bin .rem (.t 311) (.c (.int .i64 2)),some (306,false)⟩,
⟨some 313, .bin .eql (.t 312) (.c (.int .i64 1)),some (306,false)⟩,
⟨some 314, .uz true (.t 310) (.t 313),some (306,false)⟩,
⟨some 315, .pick (.t 306) (.c (.bool true)) (.t 314),some (302,true)⟩,
oP 316 (.pick (.t 302) (.t 315) (.c (.bool false)))])
def aQ.UQ:aj:=(.region none [oP 2 (.move (.c (.bool false)))])
def aQ.UR:aj:=(.region none [oM 317 0,
oP 318 (.call 443 [.t 317]),
oP 46 (.alloc ([.int .i64 0]++List.replicate 32 (.int .u8 0))),
⟨none, .store 33 (.t 46) (.t 318),none⟩])
def aQ.UU:aj:=(.region none [oP 320 (.load (some 33) (.t 46)),
oP 321 (.call 259 [.t 320]),
oM 319 321,
oP 322 (.extract (.t 319) 0),
oP 323 (.extract (.t 319) 1),
oM 47 322,
oM 48 323])
def aQ.UW:aj:=(.region none [oP 325 (.load (some 33) (.t 46)),
oP 326 (.call 258 [.t 325]),
oM 324 326,
oP 327 (.extract (.t 324) 0),
oP 328 (.extract (.t 324) 1),
oM 49 327,
oM 50 328])
def aQ.UY:aj:=(.region none [oM 329 48,
oM 330 50,
oP 331 (.bin .eql (.t 329) (.t 330)),
oM 332 331,
⟨some 333, .move (.t 47),some (332,true)⟩,
⟨some 334, .move (.t 49),some (332,true)⟩,
⟨some 335, .call 43 [.t 333, .t 334],some (332,true)⟩,
oP 336 (.pick (.t 332) (.t 335) (.c (.bool false))),
oM 2 336])
def aQ:aZ:=⟨[.tmp 2],(.seq aQ.r0 (.seq (.seq aQ.r1 (.cond (.t 52) (.seq aQ.r2 .ret) .skip)) (.seq aQ.r3 (.seq aQ.r4 (.seq aQ.r5 (.seq (.seq aQ.r6 (.cond (.t 78) (.seq aQ.r7 .ret) .skip)) (.seq (.seq aQ.r8 (.cond (.t 80) (.seq aQ.r9 (.seq aQ.r10 (.seq (.seq aQ.r11 (.block 0 (.loop aQ.l0))) (.seq aQ.nO (.cond (.t 128) (.seq aQ.nP .ret) .skip))))) .skip)) (.seq aQ.nD (.seq aQ.r22 (.seq aQ.pV (.seq (.seq aQ.pW (.cond (.t 153) (.seq aQ.r25 .ret) .skip)) (.seq aQ.qG (.seq aQ.r27 (.seq aQ.r28 (.seq (.seq aQ.oV (.cond (.t 182) (.seq aQ.pX .ret) .skip)) (.seq (.seq aQ.tu (.cond (.t 184) (.seq aQ.r32 (.seq aQ.vJ (.seq (.seq aQ.vK (.cond (.t 220) (.seq aQ.vM .ret) .skip)) (.seq (.seq aQ.uG (.block 2 (.loop aQ.l2))) (.seq aQ.UE (.cond (.t 258) (.seq aQ.UF .ret) .skip)))))) .skip)) (.seq aQ.UG (.seq aQ.UH (.seq aQ.UJ (.seq aQ.UK (.seq aQ.UL (.seq (.seq aQ.UM (.cond (.t 299) (.seq aQ.UN .ret) .skip)) (.seq (.seq aQ.UO (.cond (.t 316) (.seq aQ.UQ .ret) .skip)) (.seq aQ.UR (.seq aQ.UU (.seq aQ.UW (.seq aQ.UY .ret)))))))))))))))))))))))))))⟩
def xZ.r0:aj:=(.region none [oP 2 (.move (.c (.bool false)))])
def xZ.r1:aj:=(.region none [oM 3 0,
oP 4 (.len (.t 3)),
oP 5 (.bin .gtr (.t 4) (.c (.int .i64 4096))),
oM 2 5])
def xZ:aZ:=⟨[.tmp 2],(.seq xZ.r0 (.seq xZ.r1 .ret))⟩
def sQ.r0:aj:=(.region none [oP 2 (.move (.c (.slice none 0 0))),
oP 3 (.move (.c (.slice none 0 0)))])
def sQ.r1:aj:=(.region none [oM 7 0,
oP 8 (.call 97 [.t 7]),
oM 4 8])
def sQ.r2:aj:=(.region none [oM 10 4,
oM 11 4,
oP 12 (.buildSlice 1 4 [.int .i64 0] [(0,1,(.c (.int .i64 5))),(1,1,(.c (.int .i64 7))),(2,1,(.c (.int .i64 8))),(3,1,(.c (.int .i64 9)))]),
oP 13 (.call 98 [.t 11, .t 12]),
oP 14 (.call 444 [.t 10, .t 13]),
oM 9 14,
oP 15 (.extract (.t 9) 0),
oP 16 (.extract (.t 9) 1),
oM 5 15,
oM 6 16])
def sQ.r3:aj:=(.region none [oM 17 5,
oM 18 6,
oM 2 17,
oM 3 18])
def sQ:aZ:=⟨[.tmp 2, .tmp 3],(.seq sQ.r0 (.seq sQ.r1 (.seq sQ.r2 (.seq sQ.r3 .ret))))⟩
def gZ.r0:aj:=(.region none [oP 4 (.move (.c (.slice none 0 0))),
oP 5 (.move (.c (.int .i64 0)))])
def gZ.r1:aj:=(.region none [oM 13 0,
oM 14 1,
oP 15 (.call 67 [.t 13, .t 14,(.c (.int .i64 8))]),
oP 16 (.not (.t 15))])
def gZ.r2:aj:=(.region none [oP 4 (.move (.c (.slice none 0 0))),
oP 5 (.move (.c (.int .i64 2)))])
def gZ.r3:aj:=(.region none [oP 17 (.buildSlice 1 0 [.string ⟨#[]⟩] []),
oM 6 17])
def gZ.r4:aj:=(.region none [oM 18 0,
oP 19 (.call 68 [.t 18]),
oP 20 (.call 345 [(.c (.int .i64 0)), .t 19]),
oP 21 (.len (.t 20)),
oP 22 (.move (.c (.int .i64 0)))])
def gZ.r5:aj:=(.region none [oP 23 (.bin .lss (.t 22) (.t 21))])
def gZ.r6:aj:=(.region none [oP 24 (.indexAddr none 1 (.t 20) (.t 22)),
oP 25 (.load none (.t 24)),
oM 8 25])
def gZ.r7:aj:=(.region none [oM 26 8,
oP 27 (.call 269 [.t 26]),
oP 9 (.alloc ([.int .i64 0]++List.replicate 32 (.int .u8 0))),
⟨none, .store 33 (.t 9) (.t 27),none⟩])
def gZ.r8:aj:=(.region none [oP 28 (.load (some 33) (.t 9)),
oP 29 (.call 280 [.t 28]),
oM 10 29])
def gZ.r9:aj:=(.region none [oP 31 (.load (some 33) (.t 9)),
oP 32 (.call 277 [.t 31]),
oM 30 32,
oP 33 (.extract (.t 30) 0),
oP 34 (.extract (.t 30) 1),
oM 11 33,
oM 12 34])
def gZ.r10:aj:=(.region none [oM 35 11,
oM 36 8,
oP 37 (.iL .eql (.t 35) (.t 36)),
oM 38 37,
⟨some 39, .move (.t 10),some (38,true)⟩,
⟨some 40, .indexAddr none 1 (.t 39) (.c (.int .i64 0)),some (38,true)⟩,
⟨some 41, .load none (.t 40),some (38,true)⟩,
⟨some 42, .move (.t 0),some (38,true)⟩,
⟨some 43, .call 346 [.t 41, .t 42],some (38,true)⟩,
oP 44 (.pick (.t 38) (.t 43) (.c (.bool false))),
oM 45 44,
⟨some 46, .move (.t 10),some (45,true)⟩,
⟨some 47, .indexAddr none 1 (.t 46) (.c (.int .i64 1)),some (45,true)⟩,
⟨some 48, .load none (.t 47),some (45,true)⟩,
⟨some 49, .move (.t 1),some (45,true)⟩,
⟨some 50, .call 346 [.t 48, .t 49],some (45,true)⟩,
oP 51 (.pick (.t 45) (.t 50) (.c (.bool false)))])
def gZ.r11:aj:=(.region none [oM 52 6,
oM 53 8,
oP 54 (.buildSlice 1 1 [.string ⟨#[]⟩] [(0,1, .t 53)]),
oP 55 (.append 1 16 (.t 52) (.t 54)),
oM 6 55])
def gZ.r12:aj:=(.region none [oP 56 (.bin .add (.t 22) (.c (.int .i64 1))),
oM 22 56])
def gZ.l0:aj:=(.seq gZ.r5 (.seq (.cond (.t 23) .skip (.exit 0)) (.seq (.block 1 (.seq gZ.r6 (.seq gZ.r7 (.seq gZ.r8 (.seq gZ.r9 (.seq gZ.r10 (.cond (.t 51) gZ.r11 .skip))))))) gZ.r12)))
def gZ.r13:aj:=(.region none [oM 57 6,
oP 58 (.call 347 [.t 57])])
def gZ.eP:aj:=(.region none [oM 59 6,
oP 60 (.call 348 [.t 59]),
oM 4 60,
oP 5 (.move (.c (.int .i64 0)))])
def gZ:aZ:=⟨[.tmp 4, .tmp 5],(.seq gZ.r0 (.seq (.seq gZ.r1 (.cond (.t 16) (.seq gZ.r2 .ret) .skip)) (.seq gZ.r3 (.seq (.seq gZ.r4 (.block 0 (.loop gZ.l0))) (.seq gZ.r13 (.seq gZ.eP .ret))))))⟩
def iC.r0:aj:=(.region none [oP 4 (.move (.c (.slice none 0 0))),
oP 5 (.move (.c (.int .i64 0)))])
def iC.r1:aj:=(.region none [oM 15 0,
oM 16 1,
oP 17 (.call 64 [.t 15, .t 16]),
oM 14 17,
oP 18 (.extract (.t 14) 0),
oP 19 (.extract (.t 14) 1),
oM 6 18,
oM 7 19])
def iC.r2:aj:=(.region none [oM 20 7,
oP 21 (.not (.t 20)),
oM 22 21,
⟨some 23, .move (.t 6),some (22,false)⟩,
⟨some 24, .bin .gtr (.t 23) (.c (.int .i64 8)),some (22,false)⟩,
oP 25 (.pick (.t 22) (.c (.bool true)) (.t 24))])
def iC.r3:aj:=(.region none [oP 4 (.move (.c (.slice none 0 0))),
oP 5 (.move (.c (.int .i64 2)))])
def iC.r4:aj:=(.region none [oM 26 6,
oP 27 (.call 343 [(.c (.string ⟨#[]⟩)), .t 26,(.c (.int .i64 0)),(.c (.slice none 0 0))]),
oP 28 (.buildSlice 1 0 [.string ⟨#[]⟩] []),
oM 8 27,
oM 9 28])
def iC.r5:aj:=(.region none [oP 10 (.move (.c (.int .i64 0)))])
def iC.r6:aj:=(.region none [oM 29 10,
oM 30 8,
oP 31 (.len (.t 30)),
oP 32 (.bin .lss (.t 29) (.t 31))])
def iC.r8:aj:=(.region none [oM 35 8,
oM 36 10,
oP 37 (.indexAddr none 1 (.t 35) (.t 36)),
oP 38 (.load none (.t 37)),
oP 39 (.call 267 [.t 38]),
oP 11 (.alloc ([.int .i64 0]++List.replicate 32 (.int .u8 0))),
⟨none, .store 33 (.t 11) (.t 39),none⟩])
def iC.r9:aj:=(.region none [oP 40 (.fieldAddr 1 (.t 11)),
oP 41 (.load (some 16) (.t 40)),
oM 42 6,
oP 43 (.call 284 [.t 41, .t 42]),
oM 44 0,
oP 45 (.call 344 [.t 43, .t 44]),
oP 46 (.not (.t 45)),
oM 47 46,
⟨some 48, .fieldAddr 17 (.t 11),some (47,false)⟩,
⟨some 49, .load (some 16) (.t 48),some (47,false)⟩,
⟨some 50, .move (.t 6),some (47,false)⟩,
⟨some 51, .call 284 [.t 49, .t 50],some (47,false)⟩,
⟨some 52, .move (.t 1),some (47,false)⟩,
⟨some 53, .call 344 [.t 51, .t 52],some (47,false)⟩,
⟨some 54, .not (.t 53),some (47,false)⟩,
oP 55 (.pick (.t 47) (.c (.bool true)) (.t 54))])
def iC.r10:aj:=(.region none [oP 57 (.load (some 33) (.t 11)),
oP 58 (.call 276 [.t 57]),
oM 56 58,
oP 59 (.extract (.t 56) 0),
oP 60 (.extract (.t 56) 1),
oM 12 59,
oM 13 60])
def iC.r11:aj:=(.region none [oM 61 12,
oM 62 8,
oM 63 10,
oP 64 (.indexAddr none 1 (.t 62) (.t 63)),
oP 65 (.load none (.t 64)),
oP 66 (.iL .eql (.t 61) (.t 65))])
def iC.r12:aj:=(.region none [oM 67 9,
oM 68 12,
oP 69 (.buildSlice 1 1 [.string ⟨#[]⟩] [(0,1, .t 68)]),
oP 70 (.append 1 16 (.t 67) (.t 69)),
oM 9 70])
def iC.r7:aj:=(.region none [oM 33 10,
oP 34 (.bin .add (.t 33) (.c (.int .i64 1))),
oM 10 34])
def iC.l0:aj:=(.seq (.seq iC.r6 (.cond (.t 32) .skip (.exit 0))) (.seq (.block 1 (.seq iC.r8 (.seq (.seq iC.r9 (.cond (.t 55) (.exit 1) .skip)) (.seq iC.r10 (.seq iC.r11 (.cond (.t 66) iC.r12 .skip)))))) iC.r7))
def iC.r13:aj:=(.region none [oM 71 9,
oM 4 71,
oP 5 (.move (.c (.int .i64 0)))])
def iC:aZ:=⟨[.tmp 4, .tmp 5],(.seq iC.r0 (.seq iC.r1 (.seq (.seq iC.r2 (.cond (.t 25) (.seq iC.r3 .ret) .skip)) (.seq iC.r4 (.seq (.seq iC.r5 (.block 0 (.loop iC.l0))) (.seq iC.r13 .ret))))))⟩
def kW.r0:aj:=(.region none [oP 4 (.move (.c (.bool false)))])
def kW.r1:aj:=(.region none [oM 6 0,
oP 7 (.len (.t 6)),
oM 8 1,
oP 9 (.len (.t 8)),
oP 10 (.bin .neq (.t 7) (.t 9))])
def kW.r2:aj:=(.region none [oP 4 (.move (.c (.bool false)))])
def kW.r3:aj:=(.region none [oP 5 (.move (.c (.int .i64 0)))])
def kW.r4:aj:=(.region none [oM 11 5,
oM 12 0,
oP 13 (.len (.t 12)),
oP 14 (.bin .lss (.t 11) (.t 13))])
def kW.r6:aj:=(.region (some 9) [oM 17 0,
oM 18 5,
oP 19 (.indexAddr none 1 (.t 17) (.t 18)),
oP 20 (.load none (.t 19)),
oM 21 1,
oM 22 5,
oP 23 (.indexAddr none 1 (.t 21) (.t 22)),
oP 24 (.load none (.t 23)),
oP 25 (.iL .neq (.t 20) (.t 24))])
def kW.r7:aj:=(.region none [oP 4 (.move (.c (.bool false)))])
def kW.r5:aj:=(.region none [oM 15 5,
oP 16 (.bin .add (.t 15) (.c (.int .i64 1))),
oM 5 16])
def kW.l0:aj:=(.seq (.seq kW.r4 (.cond (.t 14) .skip (.exit 0))) (.seq (.block 1 (.seq kW.r6 (.cond (.t 25) (.seq kW.r7 .ret) .skip))) kW.r5))
def kW.r8:aj:=(.region none [oP 4 (.move (.c (.bool true)))])
def kW:aZ:=⟨[.tmp 4],(.seq kW.r0 (.seq (.seq kW.r1 (.cond (.t 10) (.seq kW.r2 .ret) .skip)) (.seq (.seq kW.r3 (.block 0 (.loop kW.l0))) (.seq kW.r8 .ret))))⟩
def oz.r0:aj:=(.region none [oP 4 (.move (.c (.int .i64 0))),
oP 5 (.move (.c (.int .i64 0)))])
def oz.r1:aj:=(.region none [oM 9 0,
oM 10 1,
oP 11 (.call 67 [.t 9, .t 10,(.c (.int .i64 16))]),
oP 12 (.not (.t 11))])
def oz.r2:aj:=(.region none [oP 4 (.move (.c (.int .i64 0))),
oP 5 (.move (.c (.int .i64 2)))])
def oz.r3:aj:=(.region none [oM 13 0,
oP 14 (.call 68 [.t 13]),
oM 15 0,
oP 16 (.len (.t 15)),
oM 17 1,
oP 18 (.len (.t 17)),
oM 6 14,
oM 7 16,
oM 8 18])
def oz.r4:aj:=(.region none [oM 19 7,
oM 20 8,
oP 21 (.bin .add (.t 19) (.t 20)),
oM 22 6,
oP 23 (.bin .add (.t 22) (.c (.int .i64 1))),
oP 24 (.bin .neq (.t 21) (.t 23))])
def oz.r5:aj:=(.region none [oP 4 (.move (.c (.int .i64 0))),
oP 5 (.move (.c (.int .i64 0)))])
def oz.r6:aj:=(.region none [oM 25 6,
oM 26 7,
oP 27 (.bin .sub (.t 26) (.c (.int .i64 1))),
oP 28 (.call 69 [.t 27]),
oP 29 (.bin .mul (.t 25) (.t 28)),
oM 30 8,
oP 31 (.bin .sub (.t 30) (.c (.int .i64 1))),
oP 32 (.call 69 [.t 31]),
oP 33 (.bin .mul (.t 29) (.t 32)),
oM 34 0,
oP 35 (.call 70 [.t 34]),
oM 36 1,
oP 37 (.call 70 [.t 36]),
oP 38 (.bin .mul (.t 35) (.t 37)),
oP 39 (.bin .quo (.t 33) (.t 38)),
oM 4 39,
oP 5 (.move (.c (.int .i64 0)))])
def oz:aZ:=⟨[.tmp 4, .tmp 5],(.seq oz.r0 (.seq (.seq oz.r1 (.cond (.t 12) (.seq oz.r2 .ret) .skip)) (.seq oz.r3 (.seq (.seq oz.r4 (.cond (.t 24) (.seq oz.r5 .ret) .skip)) (.seq oz.r6 .ret)))))⟩
def sS.r0:aj:=(.region none [oP 2 (.alloc ([.int .i64 0]++List.replicate 32 (.int .u8 0))),
oP 3 (.move (.c (.int .i64 0)))])
def sS.r1:aj:=(.region none [oM 4 0,
oP 5 (.call 268 [.t 4]),
oP 6 (.not (.t 5))])
def sS.r2:aj:=(.region none [oP 7 (.build ([.int .i64 0]++List.replicate 32 (.int .u8 0)) []),
⟨none, .store 33 (.t 2) (.t 7),none⟩,
oP 3 (.move (.c (.int .i64 1)))])
def sS.r3:aj:=(.region none [oM 8 0,
oP 9 (.call 269 [.t 8]),
⟨none, .store 33 (.t 2) (.t 9),none⟩,
oP 3 (.move (.c (.int .i64 0)))])
def sS:aZ:=⟨[.cell 2 (some 33), .tmp 3],(.seq sS.r0 (.seq (.seq sS.r1 (.cond (.t 6) (.seq sS.r2 .ret) .skip)) (.seq sS.r3 .ret)))⟩
def pK.r0:aj:=(.region none [oP 1 (.box (.t 0)),
oP 2 (.move (.c (.int .i64 0))),
oP 3 (.move (.c (.int .i64 0)))])
def pK.r1:aj:=(.region none [oP 7 (.load (some 33) (.t 1)),
oP 8 (.call 273 [.t 7,(.c (.slice none 0 0))]),
oM 4 8])
def pK.r2:aj:=(.region none [oM 9 4,
oP 10 (.bin .neq (.t 9) (.c (.int .i64 0)))])
def pK.r3:aj:=(.region none [oM 11 4,
oP 2 (.move (.c (.int .i64 0))),
oM 3 11])
def pK.r4:aj:=(.region none [oP 13 (.load (some 33) (.t 1)),
oP 14 (.call 277 [.t 13]),
oM 12 14,
oP 15 (.extract (.t 12) 0),
oP 16 (.extract (.t 12) 1),
oM 5 15,
oM 6 16])
def pK.r5:aj:=(.region none [oM 17 6,
oM 2 17,
oP 3 (.move (.c (.int .i64 0)))])
def pK:aZ:=⟨[.tmp 2, .tmp 3],(.seq pK.r0 (.seq (.seq pK.r1 (.seq pK.r2 (.cond (.t 10) (.seq pK.r3 .ret) .skip))) (.seq pK.r4 (.seq pK.r5 .ret))))⟩
def vC.r0:aj:=(.region none [oP 2 (.move (.c (.slice none 0 0))),
oP 3 (.move (.c (.slice none 0 0)))])
def vC.r1:aj:=(.region none [oM 7 0,
oP 8 (.call 97 [.t 7]),
oP 9 (.call 444 [.t 8,(.c (.int .i64 16))]),
oM 6 9,
oP 10 (.extract (.t 6) 0),
oP 11 (.extract (.t 6) 1),
oM 4 10,
oM 5 11])
def vC.r2:aj:=(.region none [oM 12 4,
oM 13 5,
oM 2 12,
oM 3 13])
def vC:aZ:=⟨[.tmp 2, .tmp 3],(.seq vC.r0 (.seq vC.r1 (.seq vC.r2 .ret)))⟩
def ny.r0:aj:=(.region none [oP 4 (.move (.c (.int .i64 0))),
oP 5 (.move (.c (.int .i64 0)))])
def ny.r1:aj:=(.region none [oM 11 0,
oM 12 1,
oP 13 (.call 64 [.t 11, .t 12]),
oM 10 13,
oP 14 (.extract (.t 10) 0),
oP 15 (.extract (.t 10) 1),
oM 6 14,
oM 7 15])
def ny.r2:aj:=(.region none [oM 16 7,
oP 17 (.not (.t 16))])
def ny.r3:aj:=(.region none [oP 4 (.move (.c (.int .i64 0))),
oP 5 (.move (.c (.int .i64 2)))])
def ny.r4:aj:=(.region none [oM 18 0,
oP 19 (.len (.t 18)),
oM 20 1,
oP 21 (.len (.t 20)),
oM 8 19,
oM 9 21])
def ny.r5:aj:=(.region none [oM 22 8,
oM 23 9,
oP 24 (.bin .add (.t 22) (.t 23)),
oM 25 6,
oP 26 (.bin .add (.t 25) (.c (.int .i64 1))),
oP 27 (.bin .neq (.t 24) (.t 26))])
def ny.r6:aj:=(.region none [oP 4 (.move (.c (.int .i64 0))),
oP 5 (.move (.c (.int .i64 0)))])
def ny.r7:aj:=(.region none [oM 28 6,
oM 29 8,
oP 30 (.bin .sub (.t 29) (.c (.int .i64 1))),
oP 31 (.call 65 [.t 30]),
oP 32 (.bin .mul (.t 28) (.t 31)),
oM 33 9,
oP 34 (.bin .sub (.t 33) (.c (.int .i64 1))),
oP 35 (.call 65 [.t 34]),
oP 36 (.bin .mul (.t 32) (.t 35)),
oM 37 0,
oP 38 (.call 66 [.t 37]),
oM 39 1,
oP 40 (.call 66 [.t 39]),
oP 41 (.bin .mul (.t 38) (.t 40)),
oP 42 (.bin .quo (.t 36) (.t 41)),
oM 4 42,
oP 5 (.move (.c (.int .i64 0)))])
def ny:aZ:=⟨[.tmp 4, .tmp 5],(.seq ny.r0 (.seq ny.r1 (.seq (.seq ny.r2 (.cond (.t 17) (.seq ny.r3 .ret) .skip)) (.seq ny.r4 (.seq (.seq ny.r5 (.cond (.t 27) (.seq ny.r6 .ret) .skip)) (.seq ny.r7 .ret))))))⟩
def bF.r0:aj:=(.region none [oP 2 (.alloc ([.int .i64 0]++List.replicate 32 (.int .u8 0))),
oP 3 (.move (.c (.slice none 0 0))),
oP 4 (.move (.c (.slice none 0 0)))])
def bF.r1:aj:=(.region none [oM 18 0,
oP 19 (.call 97 [.t 18]),
oM 5 19])
def bF.r2:aj:=(.region none [oM 20 5,
oP 21 (.call 445 [.t 20]),
oP 6 (.alloc ([.int .i64 0]++List.replicate 32 (.int .u8 0))),
⟨none, .store 33 (.t 6) (.t 21),none⟩])
def bF.r3:aj:=(.region none [oP 22 (.load (some 33) (.t 6)),
oP 23 (.call 184 [.t 22]),
oP 24 (.not (.t 23))])
def bF.r4:aj:=(.region none [oP 25 (.load (some 33) (.t 6)),
oP 26 (.buildSlice 1 1 [.int .i64 0] [(0,1,(.c (.int .i64 1)))]),
oP 27 (.buildSlice 1 1 [.int .i64 0] [(0,1,(.c (.int .i64 1)))]),
⟨none, .store 33 (.t 2) (.t 25),none⟩,
oM 3 26,
oM 4 27])
def bF.r5:aj:=(.region none [oP 28 (.buildSlice 1 0 [.int .i64 0] []),
oM 7 28])
def bF.r6:aj:=(.region none [oP 8 (.move (.c (.int .i64 0)))])
def bF.r7:aj:=(.region none [oM 29 8,
oP 30 (.fieldAddr 0 (.t 6)),
oP 31 (.load none (.t 30)),
oP 32 (.bin .lss (.t 29) (.t 31))])
def bF.r9:aj:=(.region none [oM 35 7,
oM 36 5,
oM 37 5,
oP 38 (.call 102 [.t 37,(.c (.int .i64 9))]),
oP 39 (.bin .add (.c (.int .i64 1)) (.t 38)),
oP 40 (.buildSlice 1 5 [.int .i64 0] [(0,1,(.c (.int .i64 1))),(1,1,(.c (.int .i64 1))),(2,1,(.c (.int .i64 2))),(3,1, .t 39),(4,1,(.c (.int .i64 50000000)))]),
oP 41 (.call 98 [.t 36, .t 40]),
oP 42 (.buildSlice 1 1 [.int .i64 0] [(0,1, .t 41)]),
oP 43 (.append 1 8 (.t 35) (.t 42)),
oM 7 43])
def bF.r8:aj:=(.region none [oM 33 8,
oP 34 (.bin .add (.t 33) (.c (.int .i64 1))),
oM 8 34])
def bF.l0:aj:=(.seq (.seq bF.r7 (.cond (.t 32) .skip (.exit 0))) (.seq (.block 1 bF.r9) bF.r8))
def bF.r10:aj:=(.region none [oP 44 (.buildSlice 1 0 [.slice none 0 0] []),
oM 9 44])
def bF.r11:aj:=(.region none [oP 10 (.move (.c (.int .i64 0)))])
def bF.r12:aj:=(.region none [oM 45 10,
oP 46 (.bin .lss (.t 45) (.c (.int .i64 2)))])
def bF.eP:aj:=(.region none [oP 49 (.fieldAddr 1 (.t 6)),
oP 50 (.load (some 16) (.t 49)),
oP 51 (.buildSlice 1 0 [.int .i64 0] []),
oP 11 (.alloc (List.replicate 16 (.int .u8 0))),
⟨none, .store 16 (.t 11) (.t 50),none⟩,
oM 12 51])
def bF.gG:aj:=(.region none [oM 52 10,
oP 53 (.bin .eql (.t 52) (.c (.int .i64 1)))])
def bF.r16:aj:=(.region none [oP 54 (.fieldAddr 17 (.t 6)),
oP 55 (.load (some 16) (.t 54)),
⟨none, .store 16 (.t 11) (.t 55),none⟩])
def bF.lC:aj:=(.region none [oP 56 (.load (some 16) (.t 11)),
oP 57 (.fieldAddr 0 (.t 6)),
oP 58 (.load none (.t 57)),
oP 59 (.call 285 [.t 56, .t 58]),
oM 13 59])
def bF.nN:aj:=(.region none [oP 14 (.move (.c (.int .i64 0)))])
def bF.nO:aj:=(.region none [oM 60 14,
oM 61 13,
oP 62 (.len (.t 61)),
oP 63 (.bin .lss (.t 60) (.t 62))])
def bF.nD:aj:=(.region none [oP 15 (.move (.c (.int .i64 0)))])
def bF.r22:aj:=(.region none [oP 16 (.move (.c (.int .i64 0)))])
def bF.pV:aj:=(.region none [oM 66 16,
oM 67 13,
oM 68 14,
oP 69 (.indexAddr none 1 (.t 67) (.t 68)),
oP 70 (.load none (.t 69)),
oP 71 (.len (.t 70)),
oP 72 (.bin .lss (.t 66) (.t 71))])
def bF.r25:aj:=(.region none [oM 75 15,
oM 76 7,
oM 77 13,
oM 78 14,
oP 79 (.indexAddr none 1 (.t 77) (.t 78)),
oP 80 (.load none (.t 79)),
oM 81 16,
oP 82 (.indexAddr none 1 (.t 80) (.t 81)),
oP 83 (.load none (.t 82)),
oP 84 (.indexAddr none 1 (.t 76) (.t 83)),
oP 85 (.load none (.t 84)),
oP 86 (.bin .add (.t 75) (.t 85)),
oM 15 86])
def bF.pW:aj:=(.region none [oM 73 16,
oP 74 (.bin .add (.t 73) (.c (.int .i64 1))),
oM 16 74])
def bF.l1:aj:=(.seq (.seq bF.pV (.cond (.t 72) .skip (.exit 6))) (.seq (.block 7 bF.r25) bF.pW))
def bF.qG:aj:=(.region none [oM 87 12,
oM 88 15,
oP 89 (.buildSlice 1 1 [.int .i64 0] [(0,1, .t 88)]),
oP 90 (.append 1 8 (.t 87) (.t 89)),
oM 12 90])
def bF.nP:aj:=(.region none [oM 64 14,
oP 65 (.bin .add (.t 64) (.c (.int .i64 1))),
oM 14 65])
def bF.l2:aj:=(.seq (.seq bF.nO (.cond (.t 63) .skip (.exit 4))) (.seq (.block 5 (.seq bF.nD (.seq (.seq bF.r22 (.block 6 (.loop bF.l1))) bF.qG))) bF.nP))
def bF.r27:aj:=(.region none [oM 91 9,
oM 92 12,
oP 93 (.buildSlice 1 1 [.slice none 0 0] [(0,1, .t 92)]),
oP 94 (.append 1 24 (.t 91) (.t 93)),
oM 9 94])
def bF.r13:aj:=(.region none [oM 47 10,
oP 48 (.bin .add (.t 47) (.c (.int .i64 1))),
oM 10 48])
def bF.l3:aj:=(.seq (.seq bF.r12 (.cond (.t 46) .skip (.exit 2))) (.seq (.block 3 (.seq bF.eP (.seq (.seq bF.gG (.cond (.t 53) bF.r16 .skip)) (.seq bF.lC (.seq (.seq bF.nN (.block 4 (.loop bF.l2))) bF.r27))))) bF.r13))
def bF.r28:aj:=(.region none [oM 95 9,
oM 96 5,
oP 97 (.call 102 [.t 96,(.c (.int .i64 2))]),
oP 98 (.indexAddr none 1 (.t 95) (.t 97)),
oP 99 (.load none (.t 98)),
oM 17 99])
def bF.oV:aj:=(.region none [oM 100 5,
oP 101 (.call 102 [.t 100,(.c (.int .i64 10))])])
def bF.pX:aj:=(.region none [oP 103 (.bin .eql (.t 101) (.c (.int .i64 0))),
oM 102 103])
def bF.tu:aj:=(.region (some 6) [oM 104 17,
oM 105 17,
oP 106 (.indexAddr none 1 (.t 105) (.c (.int .i64 0))),
oP 107 (.load none (.t 106)),
oM 108 5,
oP 109 (.buildSlice 1 3 [.int .i64 0] [(0,1,(.c (.int .i64 1))),(1,1,(.c (.int .i64 (-1)))),(2,1,(.c (.int .i64 5)))]),
oP 110 (.lV 98 [.t 108, .t 109] [.t 106]),
oP 111 (.bin .add (.t 107) (.t 110)),
oP 112 (.indexAddr none 1 (.t 104) (.c (.int .i64 0))),
⟨none, .store 1 (.t 112) (.t 111),none⟩])
def bF.r32:aj:=(.region none [oP 114 (.bin .eql (.t 101) (.c (.int .i64 1))),
oM 113 114])
def bF.vJ:aj:=(.region none [oM 115 17,
oM 116 5,
oP 117 (.buildSlice 1 3 [.int .i64 0] [(0,1,(.c (.int .i64 0))),(1,1,(.c (.int .i64 1000000001))),(2,1,(.c (.int .i64 1)))]),
oP 118 (.call 98 [.t 116, .t 117]),
oP 119 (.indexAddr none 1 (.t 115) (.c (.int .i64 0))),
⟨none, .store 1 (.t 119) (.t 118),none⟩])
def bF.vK:aj:=(.region none [oP 121 (.bin .eql (.t 101) (.c (.int .i64 2))),
oM 120 121])
def bF.vM:aj:=(.region none [oM 122 9,
oM 123 9,
oP 124 (.indexAddr none 1 (.t 123) (.c (.int .i64 0))),
oP 125 (.load none (.t 124)),
oP 126 (.buildSlice 1 1 [.int .i64 0] [(0,1,(.c (.int .i64 1)))]),
oP 127 (.append 1 8 (.t 125) (.t 126)),
oP 128 (.indexAddr none 1 (.t 122) (.c (.int .i64 0))),
⟨none, .store 1 (.t 128) (.t 127),none⟩])
def bF.uG:aj:=(.region (some 7) [oP 129 (.load (some 33) (.t 6)),
oM 130 9,
oP 131 (.indexAddr none 1 (.t 130) (.c (.int .i64 0))),
oP 132 (.load none (.t 131)),
oM 133 9,
oP 134 (.indexAddr none 1 (.t 133) (.c (.int .i64 1))),
oP 135 (.load none (.t 134)),
⟨none, .iw 33 (.t 2) (.t 129) [.t 131, .t 134],none⟩,
oM 3 132,
oM 4 135])
def bF:aZ:=⟨[.cell 2 (some 33), .tmp 3, .tmp 4],(.seq bF.r0 (.seq bF.r1 (.seq bF.r2 (.seq (.seq bF.r3 (.cond (.t 24) (.seq bF.r4 .ret) .skip)) (.seq bF.r5 (.seq (.seq bF.r6 (.block 0 (.loop bF.l0))) (.seq bF.r10 (.seq (.seq bF.r11 (.block 2 (.loop bF.l3))) (.seq bF.r28 (.seq (.seq bF.oV (.block 8 (.seq bF.pX (.cond (.t 102) bF.tu (.seq bF.r32 (.cond (.t 113) bF.vJ (.seq bF.vK (.cond (.t 120) bF.vM .skip)))))))) (.seq bF.uG .ret)))))))))))⟩
def bH.r0:aj:=(.region none [oP 3 (.box (.t 0)),
oP 6 (.move (.c (.slice none 0 0))),
oP 7 (.move (.c (.int .i64 0)))])
def bH.r1:aj:=(.region none [oP 24 (.load (some 33) (.t 3)),
oP 25 (.call 187 [.t 24]),
oP 26 (.not (.t 25))])
def bH.r2:aj:=(.region none [oP 6 (.move (.c (.slice none 0 0))),
oP 7 (.move (.c (.int .i64 1)))])
def bH.r3:aj:=(.region none [oM 27 1,
oP 28 (.len (.t 27)),
oP 29 (.fieldAddr 1 (.t 3)),
oP 30 (.load (some 16) (.t 29)),
oP 31 (.fieldAddr 0 (.t 3)),
oP 32 (.load none (.t 31)),
oP 33 (.call 223 [.t 30, .t 32]),
oP 34 (.len (.t 33)),
oP 35 (.bin .neq (.t 28) (.t 34)),
oM 36 35,
⟨some 37, .move (.t 2),some (36,false)⟩,
⟨some 38, .len (.t 37),some (36,false)⟩,
⟨some 39, .fieldAddr 17 (.t 3),some (36,false)⟩,
⟨some 40, .load (some 16) (.t 39),some (36,false)⟩,
⟨some 41, .fieldAddr 0 (.t 3),some (36,false)⟩,
⟨some 42, .load none (.t 41),some (36,false)⟩,
⟨some 43, .call 223 [.t 40, .t 42],some (36,false)⟩,
⟨some 44, .len (.t 43),some (36,false)⟩,
⟨some 45, .bin .neq (.t 38) (.t 44),some (36,false)⟩,
oP 46 (.pick (.t 36) (.c (.bool true)) (.t 45))])
def bH.r4:aj:=(.region none [oP 6 (.move (.c (.slice none 0 0))),
oP 7 (.move (.c (.int .i64 2)))])
def bH.r5:aj:=(.region none [oM 47 1,
oP 48 (.call 112 [.t 47]),
oM 49 2,
oP 50 (.append 1 8 (.t 48) (.t 49)),
oM 8 50])
def bH.r6:aj:=(.region none [oM 51 8,
oP 52 (.len (.t 51)),
oP 53 (.move (.c (.int .i64 0)))])
def bH.r7:aj:=(.region none [oP 54 (.bin .lss (.t 53) (.t 52))])
def bH.r8:aj:=(.region none [oP 55 (.indexAddr none 1 (.t 51) (.t 53)),
oP 56 (.load none (.t 55)),
oM 10 56])
def bH.r9:aj:=(.region none [oM 57 10,
oP 58 (.bin .lss (.t 57) (.c (.int .i64 1))),
oM 59 58,
⟨some 60, .move (.t 10),some (59,false)⟩,
⟨some 61, .bin .gtr (.t 60) (.c (.int .i64 1000000000)),some (59,false)⟩,
oP 62 (.pick (.t 59) (.c (.bool true)) (.t 61))])
def bH.r10:aj:=(.region none [oP 6 (.move (.c (.slice none 0 0))),
oP 7 (.move (.c (.int .i64 2)))])
def bH.r11:aj:=(.region none [oP 63 (.bin .add (.t 53) (.c (.int .i64 1))),
oM 53 63])
def bH.l0:aj:=(.seq bH.r7 (.seq (.cond (.t 54) .skip (.exit 0)) (.seq (.block 1 (.seq bH.r8 (.seq bH.r9 (.cond (.t 62) (.seq bH.r10 .ret) .skip)))) bH.r11)))
def bH.r12:aj:=(.region none [oP 64 (.load (some 33) (.t 3)),
oP 65 (.call 271 [.t 64]),
oP 66 (.not (.t 65))])
def bH.r13:aj:=(.region none [oP 6 (.move (.c (.slice none 0 0))),
oP 7 (.move (.c (.int .i64 5)))])
def bH.eP:aj:=(.region none [oP 68 (.load (some 33) (.t 3)),
oP 69 (.call 333 [.t 68]),
oM 67 69,
oP 70 (.extract (.t 67) 0),
oP 71 (.extract (.t 67) 1),
oM 11 70,
oM 12 71])
def bH.gG:aj:=(.region none [oP 72 (.fieldAddr 0 (.t 3)),
oP 73 (.load none (.t 72)),
oP 74 (.makeSlice 1 8 [.int .i64 0] (.t 73) (.t 73)),
oM 13 74])
def bH.r16:aj:=(.region none [oP 14 (.move (.c (.bool true)))])
def bH.lC:aj:=(.region none [oM 75 14])
def bH.nN:aj:=(.region none [oP 14 (.move (.c (.bool false)))])
def bH.nO:aj:=(.region none [oM 76 11,
oP 77 (.len (.t 76)),
oP 78 (.move (.c (.int .i64 0)))])
def bH.nP:aj:=(.region none [oP 79 (.bin .lss (.t 78) (.t 77))])
def bH.nD:aj:=(.region none [oM 80 78,
oP 81 (.indexAddr none 1 (.t 76) (.t 78)),
oP 82 (.load none (.t 81)),
oM 15 80,
oM 16 82])
def bH.r22:aj:=(.region none [oP 83 (.buildSlice 1 0 [.int .i64 0] []),
oM 17 83])
def bH.pV:aj:=(.region none [oM 84 16,
oP 85 (.len (.t 84)),
oP 86 (.move (.c (.int .i64 0)))])
def bH.pW:aj:=(.region none [oP 87 (.bin .lss (.t 86) (.t 85))])
def bH.r25:aj:=(.region none [oP 88 (.indexAddr none 1 (.t 84) (.t 86)),
oP 89 (.load none (.t 88)),
oM 19 89])
def bH.qG:aj:=(.region none [oM 90 13,
oM 91 19,
oP 92 (.indexAddr none 1 (.t 90) (.t 91)),
oP 93 (.load none (.t 92)),
oP 94 (.bin .eql (.t 93) (.c (.int .i64 0)))])
def bH.r27:aj:=(.region none [oM 95 17,
oM 96 19,
oP 97 (.buildSlice 1 1 [.int .i64 0] [(0,1, .t 96)]),
oP 98 (.append 1 8 (.t 95) (.t 97)),
oM 17 98])
def bH.r28:aj:=(.region none [oP 99 (.bin .add (.t 86) (.c (.int .i64 1))),
oM 86 99])
def bH.l1:aj:=(.seq bH.pW (.seq (.cond (.t 87) .skip (.exit 6)) (.seq (.block 7 (.seq bH.r25 (.seq bH.qG (.cond (.t 94) bH.r27 .skip)))) bH.r28)))
def bH.oV:aj:=(.region none [oM 100 17,
oP 101 (.len (.t 100)),
oP 102 (.bin .neq (.t 101) (.c (.int .i64 1)))])
def bH.pX:aj:=(.region (some 9) [oM 103 17,
oP 104 (.indexAddr none 1 (.t 103) (.c (.int .i64 0))),
oP 105 (.load none (.t 104)),
oM 106 8,
oM 107 15,
oP 108 (.indexAddr none 1 (.t 106) (.t 107)),
oP 109 (.load none (.t 108)),
oM 20 105,
oM 21 109])
def bH.tu:aj:=(.region none [oM 110 21,
oP 111 (.bin .lss (.t 110) (.c (.int .i64 1)))])
def bH.r32:aj:=(.region none [oP 6 (.move (.c (.slice none 0 0))),
oP 7 (.move (.c (.int .i64 4)))])
def bH.vJ:aj:=(.region none [oM 112 13,
oM 113 20,
oM 114 21,
oP 115 (.indexAddr none 1 (.t 112) (.t 113)),
⟨none, .store 1 (.t 115) (.t 114),none⟩])
def bH.vK:aj:=(.region none [oM 116 8,
oM 117 12,
oM 118 20,
oP 119 (.indexAddr none 2 (.t 117) (.t 118)),
oP 120 (.indexAddr (some 2) 1 (.t 119) (.c (.int .i64 0))),
oP 121 (.load none (.t 120)),
oP 122 (.indexAddr none 1 (.t 116) (.t 121)),
oP 123 (.load none (.t 122)),
oM 124 21,
oP 125 (.bin .sub (.t 123) (.t 124)),
oP 126 (.indexAddr none 1 (.t 116) (.t 121)),
⟨none, .store 1 (.t 126) (.t 125),none⟩])
def bH.vM:aj:=(.region none [oM 127 8,
oM 128 12,
oM 129 20,
oP 130 (.indexAddr none 2 (.t 128) (.t 129)),
oP 131 (.indexAddr (some 2) 1 (.t 130) (.c (.int .i64 1))),
oP 132 (.load none (.t 131)),
oP 133 (.indexAddr none 1 (.t 127) (.t 132)),
oP 134 (.load none (.t 133)),
oM 135 21,
oP 136 (.bin .sub (.t 134) (.t 135)),
oP 137 (.indexAddr none 1 (.t 127) (.t 132)),
⟨none, .store 1 (.t 137) (.t 136),none⟩])
def bH.uG:aj:=(.region none [oP 14 (.move (.c (.bool true)))])
def bH.BI:aj:=(.region none [oP 138 (.bin .add (.t 78) (.c (.int .i64 1))),
oM 78 138])
def bH.l2:aj:=(.seq bH.nP (.seq (.cond (.t 79) .skip (.exit 4)) (.seq (.block 5 (.seq bH.nD (.seq bH.r22 (.seq (.seq bH.pV (.block 6 (.loop bH.l1))) (.seq (.seq bH.oV (.cond (.t 102) (.exit 5) .skip)) (.seq bH.pX (.seq (.seq bH.tu (.cond (.t 111) (.seq bH.r32 .ret) .skip)) (.seq bH.vJ (.seq bH.vK (.seq bH.vM bH.uG)))))))))) bH.BI)))
def bH.l3:aj:=(.seq (.seq bH.lC (.cond (.t 75) .skip (.exit 2))) (.block 3 (.seq bH.nN (.seq bH.nO (.block 4 (.loop bH.l2))))))
def bH.EU:aj:=(.region none [oM 139 8,
oP 140 (.len (.t 139)),
oP 141 (.move (.c (.int .i64 0)))])
def bH.ET:aj:=(.region none [oP 142 (.bin .lss (.t 141) (.t 140))])
def bH.Ny:aj:=(.region none [oP 143 (.indexAddr none 1 (.t 139) (.t 141)),
oP 144 (.load none (.t 143)),
oM 23 144])
def bH.Nz:aj:=(.region none [oM 145 23,
oP 146 (.bin .neq (.t 145) (.c (.int .i64 0)))])
def bH.ND:aj:=(.region none [oP 6 (.move (.c (.slice none 0 0))),
oP 7 (.move (.c (.int .i64 4)))])
def bH.NC:aj:=(.region none [oP 147 (.bin .add (.t 141) (.c (.int .i64 1))),
oM 141 147])
def bH.l4:aj:=(.seq bH.ET (.seq (.cond (.t 142) .skip (.exit 8)) (.seq (.block 9 (.seq bH.Ny (.seq bH.Nz (.cond (.t 146) (.seq bH.ND .ret) .skip)))) bH.NC)))
def bH.NG:aj:=(.region none [oM 148 13,
oM 6 148,
oP 7 (.move (.c (.int .i64 0)))])
def bH:aZ:=⟨[.tmp 6, .tmp 7],(.seq bH.r0 (.seq (.seq bH.r1 (.cond (.t 26) (.seq bH.r2 .ret) .skip)) (.seq (.seq bH.r3 (.cond (.t 46) (.seq bH.r4 .ret) .skip)) (.seq bH.r5 (.seq (.seq bH.r6 (.block 0 (.loop bH.l0))) (.seq (.seq bH.r12 (.cond (.t 66) (.seq bH.r13 .ret) .skip)) (.seq bH.eP (.seq bH.gG (.seq (.seq bH.r16 (.block 2 (.loop bH.l3))) (.seq (.seq bH.EU (.block 8 (.loop bH.l4))) (.seq bH.NG .ret)))))))))))⟩
def bJ.r0:aj:=(.region none [oP 3 (.box (.t 0)),
oP 6 (.move (.c (.slice none 0 0))),
oP 7 (.move (.c (.int .i64 0)))])
def bJ.r1:aj:=(.region none [oP 23 (.load (some 33) (.t 3)),
oP 24 (.call 184 [.t 23]),
oP 25 (.not (.t 24))])
def bJ.r2:aj:=(.region none [oP 6 (.move (.c (.slice none 0 0))),
oP 7 (.move (.c (.int .i64 1)))])
def bJ.r3:aj:=(.region (some 12) [oP 26 (.fieldAddr 1 (.t 3)),
oP 27 (.load (some 16) (.t 26)),
oP 28 (.fieldAddr 0 (.t 3)),
oP 29 (.load none (.t 28)),
oP 30 (.call 285 [.t 27, .t 29]),
oP 31 (.fieldAddr 17 (.t 3)),
oP 32 (.load (some 16) (.t 31)),
oP 33 (.fieldAddr 0 (.t 3)),
oP 34 (.load none (.t 33)),
oP 35 (.call 285 [.t 32, .t 34]),
oM 8 30,
oM 9 35])
def bJ.r4:aj:=(.region none [oM 37 1,
oM 38 8,
oP 39 (.len (.t 38)),
oP 40 (.call 334 [.t 37, .t 39]),
oP 41 (.not (.t 40)),
oM 42 41,
⟨some 43, .move (.t 2),some (42,false)⟩,
⟨some 44, .move (.t 9),some (42,false)⟩,
⟨some 45, .len (.t 44),some (42,false)⟩,
⟨some 46, .call 334 [.t 43, .t 45],some (42,false)⟩,
⟨some 47, .not (.t 46),some (42,false)⟩,
oP 48 (.pick (.t 42) (.c (.bool true)) (.t 47)),
oM 36 48])
def bJ.r5:aj:=(.region none [oP 6 (.move (.c (.slice none 0 0))),
oP 7 (.move (.c (.int .i64 2)))])
def bJ.r6:aj:=(.region none [oP 50 (.load (some 33) (.t 3)),
oP 51 (.call 270 [.t 50]),
oP 52 (.not (.t 51)),
oM 49 52])
def bJ.r7:aj:=(.region none [oP 6 (.move (.c (.slice none 0 0))),
oP 7 (.move (.c (.int .i64 5)))])
def bJ.r8:aj:=(.region none [oP 53 (.buildSlice 1 0 [.slice none 0 0] []),
oM 54 8,
oP 55 (.append 1 24 (.t 53) (.t 54)),
oM 56 9,
oP 57 (.append 1 24 (.t 55) (.t 56)),
oM 58 1,
oP 59 (.call 111 [.t 58]),
oM 60 2,
oP 61 (.append 1 8 (.t 59) (.t 60)),
oM 10 57,
oM 11 61])
def bJ.r9:aj:=(.region none [oP 62 (.fieldAddr 0 (.t 3)),
oP 63 (.load none (.t 62)),
oP 64 (.makeSlice 1 8 [.int .i64 0] (.t 63) (.t 63)),
oM 12 64])
def bJ.r10:aj:=(.region none [oP 13 (.move (.c (.int .i64 0)))])
def bJ.r11:aj:=(.region none [oM 65 13,
oP 66 (.fieldAddr 0 (.t 3)),
oP 67 (.load none (.t 66)),
oP 68 (.bin .lss (.t 65) (.t 67))])
def bJ.r13:aj:=(.region none [oP 14 (.move (.c (.int .i64 0)))])
def bJ.eP:aj:=(.region none [oM 71 14,
oM 72 10,
oP 73 (.len (.t 72)),
oP 74 (.bin .lss (.t 71) (.t 73))])
def bJ.r16:aj:=(.region none [oM 77 11,
oM 78 14,
oP 79 (.indexAddr none 1 (.t 77) (.t 78)),
oP 80 (.load none (.t 79)),
oM 15 80,
oP 16 (.move (.c (.int .i64 0))),
oP 17 (.move (.c (.int .i64 (-1))))])
def bJ.lC:aj:=(.region none [oP 18 (.move (.c (.int .i64 0)))])
def bJ.nN:aj:=(.region none [oM 81 18,
oM 82 10,
oM 83 14,
oP 84 (.indexAddr none 1 (.t 82) (.t 83)),
oP 85 (.load none (.t 84)),
oP 86 (.len (.t 85)),
oP 87 (.bin .lss (.t 81) (.t 86))])
def bJ.nP:aj:=(.region none [oM 90 10,
oM 91 14,
oP 92 (.indexAddr none 1 (.t 90) (.t 91)),
oP 93 (.load none (.t 92)),
oM 94 18,
oP 95 (.indexAddr none 1 (.t 93) (.t 94)),
oP 96 (.load none (.t 95)),
oM 19 96])
def bJ.nD:aj:=(.region none [oM 97 15,
oM 98 12,
oM 99 19,
oP 100 (.indexAddr none 1 (.t 98) (.t 99)),
oP 101 (.load none (.t 100)),
oP 102 (.bin .sub (.t 97) (.t 101)),
oM 15 102])
def bJ.r22:aj:=(.region none [oM 103 12,
oM 104 19,
oP 105 (.indexAddr none 1 (.t 103) (.t 104)),
oP 106 (.load none (.t 105)),
oP 107 (.bin .eql (.t 106) (.c (.int .i64 0)))])
def bJ.pV:aj:=(.region none [oM 108 16,
oP 109 (.bin .add (.t 108) (.c (.int .i64 1))),
oM 16 109])
def bJ.pW:aj:=(.region none [oM 110 19,
oM 17 110])
def bJ.nO:aj:=(.region none [oM 88 18,
oP 89 (.bin .add (.t 88) (.c (.int .i64 1))),
oM 18 89])
def bJ.l0:aj:=(.seq (.seq bJ.nN (.cond (.t 87) .skip (.exit 5))) (.seq (.block 6 (.seq bJ.nP (.seq bJ.nD (.seq bJ.r22 (.cond (.t 107) (.seq bJ.pV bJ.pW) .skip))))) bJ.nO))
def bJ.r25:aj:=(.region none [oM 111 16,
oP 112 (.bin .eql (.t 111) (.c (.int .i64 1))),
oM 113 112,
⟨some 114, .move (.t 15),some (113,true)⟩,
⟨some 115, .bin .lss (.t 114) (.c (.int .i64 1)),some (113,true)⟩,
oP 116 (.pick (.t 113) (.t 115) (.c (.bool false))),
oM 117 116,
⟨some 118, .move (.t 16),some (117,false)⟩,
⟨some 119, .bin .eql (.t 118) (.c (.int .i64 0)),some (117,false)⟩,
⟨some 120, .move (.t 119),some (117,false)⟩,
⟨some 121, .move (.t 15),some (120,true)⟩,
⟨some 122, .bin .neq (.t 121) (.c (.int .i64 0)),some (120,true)⟩,
⟨some 123, .pick (.t 120) (.t 122) (.c (.bool false)),some (117,false)⟩,
oP 124 (.pick (.t 117) (.c (.bool true)) (.t 123))])
def bJ.qG:aj:=(.region none [oP 6 (.move (.c (.slice none 0 0))),
oP 7 (.move (.c (.int .i64 4)))])
def bJ.r27:aj:=(.region none [oM 125 16,
oP 126 (.bin .eql (.t 125) (.c (.int .i64 1)))])
def bJ.r28:aj:=(.region none [oM 127 12,
oM 128 17,
oM 129 15,
oP 130 (.indexAddr none 1 (.t 127) (.t 128)),
⟨none, .store 1 (.t 130) (.t 129),none⟩])
def bJ.gG:aj:=(.region none [oM 75 14,
oP 76 (.bin .add (.t 75) (.c (.int .i64 1))),
oM 14 76])
def bJ.l1:aj:=(.seq (.seq bJ.eP (.cond (.t 74) .skip (.exit 3))) (.seq (.block 4 (.seq bJ.r16 (.seq (.seq bJ.lC (.block 5 (.loop bJ.l0))) (.seq (.seq bJ.r25 (.cond (.t 124) (.seq bJ.qG .ret) .skip)) (.seq bJ.r27 (.cond (.t 126) bJ.r28 .skip)))))) bJ.gG))
def bJ.r12:aj:=(.region none [oM 69 13,
oP 70 (.bin .add (.t 69) (.c (.int .i64 1))),
oM 13 70])
def bJ.l2:aj:=(.seq (.seq bJ.r11 (.cond (.t 68) .skip (.exit 1))) (.seq (.block 2 (.seq bJ.r13 (.block 3 (.loop bJ.l1)))) bJ.r12))
def bJ.oV:aj:=(.region none [oP 20 (.move (.c (.int .i64 0)))])
def bJ.pX:aj:=(.region none [oM 131 20,
oM 132 10,
oP 133 (.len (.t 132)),
oP 134 (.bin .lss (.t 131) (.t 133))])
def bJ.r32:aj:=(.region none [oM 137 11,
oM 138 20,
oP 139 (.indexAddr none 1 (.t 137) (.t 138)),
oP 140 (.load none (.t 139)),
oM 21 140])
def bJ.vJ:aj:=(.region none [oP 22 (.move (.c (.int .i64 0)))])
def bJ.vK:aj:=(.region none [oM 141 22,
oM 142 10,
oM 143 20,
oP 144 (.indexAddr none 1 (.t 142) (.t 143)),
oP 145 (.load none (.t 144)),
oP 146 (.len (.t 145)),
oP 147 (.bin .lss (.t 141) (.t 146))])
def bJ.uG:aj:=(.region none [oM 150 21,
oM 151 12,
oM 152 10,
oM 153 20,
oP 154 (.indexAddr none 1 (.t 152) (.t 153)),
oP 155 (.load none (.t 154)),
oM 156 22,
oP 157 (.indexAddr none 1 (.t 155) (.t 156)),
oP 158 (.load none (.t 157)),
oP 159 (.indexAddr none 1 (.t 151) (.t 158)),
oP 160 (.load none (.t 159)),
oP 161 (.bin .sub (.t 150) (.t 160)),
oM 21 161])
def bJ.vM:aj:=(.region none [oM 148 22,
oP 149 (.bin .add (.t 148) (.c (.int .i64 1))),
oM 22 149])
def bJ.l3:aj:=(.seq (.seq bJ.vK (.cond (.t 147) .skip (.exit 9))) (.seq (.block 10 bJ.uG) bJ.vM))
def bJ.BI:aj:=(.region none [oM 162 21,
oP 163 (.bin .neq (.t 162) (.c (.int .i64 0)))])
def bJ.EU:aj:=(.region none [oP 6 (.move (.c (.slice none 0 0))),
oP 7 (.move (.c (.int .i64 4)))])
def bJ.tu:aj:=(.region none [oM 135 20,
oP 136 (.bin .add (.t 135) (.c (.int .i64 1))),
oM 20 136])
def bJ.l4:aj:=(.seq (.seq bJ.pX (.cond (.t 134) .skip (.exit 7))) (.seq (.block 8 (.seq bJ.r32 (.seq (.seq bJ.vJ (.block 9 (.loop bJ.l3))) (.seq bJ.BI (.cond (.t 163) (.seq bJ.EU .ret) .skip))))) bJ.tu))
def bJ.ET:aj:=(.region none [oM 164 12,
oM 6 164,
oP 7 (.move (.c (.int .i64 0)))])
def bJ:aZ:=⟨[.tmp 6, .tmp 7],(.seq bJ.r0 (.seq (.seq bJ.r1 (.cond (.t 25) (.seq bJ.r2 .ret) .skip)) (.seq bJ.r3 (.seq (.block 0 (.seq bJ.r4 (.cond (.t 36) (.seq bJ.r5 .ret) (.seq bJ.r6 (.cond (.t 49) (.seq bJ.r7 .ret) .skip))))) (.seq bJ.r8 (.seq bJ.r9 (.seq (.seq bJ.r10 (.block 1 (.loop bJ.l2))) (.seq (.seq bJ.oV (.block 7 (.loop bJ.l4))) (.seq bJ.ET .ret)))))))))⟩
def kX.r0:aj:=(.region none [oP 4 (.move (.c (.bool false)))])
def kX.r1:aj:=(.region none [oM 6 0,
oP 7 (.len (.t 6)),
oM 8 1,
oP 9 (.len (.t 8)),
oP 10 (.bin .neq (.t 7) (.t 9))])
def kX.r2:aj:=(.region none [oP 4 (.move (.c (.bool false)))])
def kX.r3:aj:=(.region none [oP 5 (.move (.c (.int .i64 0)))])
def kX.r4:aj:=(.region none [oM 11 5,
oM 12 0,
oP 13 (.len (.t 12)),
oP 14 (.bin .lss (.t 11) (.t 13))])
def kX.r6:aj:=(.region (some 9) [oM 17 0,
oM 18 5,
oP 19 (.indexAddr none 1 (.t 17) (.t 18)),
oP 20 (.load none (.t 19)),
oM 21 1,
oM 22 5,
oP 23 (.indexAddr none 1 (.t 21) (.t 22)),
oP 24 (.load none (.t 23)),
oP 25 (.bin .neq (.t 20) (.t 24))])
def kX.r7:aj:=(.region none [oP 4 (.move (.c (.bool false)))])
def kX.r5:aj:=(.region none [oM 15 5,
oP 16 (.bin .add (.t 15) (.c (.int .i64 1))),
oM 5 16])
def kX.l0:aj:=(.seq (.seq kX.r4 (.cond (.t 14) .skip (.exit 0))) (.seq (.block 1 (.seq kX.r6 (.cond (.t 25) (.seq kX.r7 .ret) .skip))) kX.r5))
def kX.r8:aj:=(.region none [oP 4 (.move (.c (.bool true)))])
def kX:aZ:=⟨[.tmp 4],(.seq kX.r0 (.seq (.seq kX.r1 (.cond (.t 10) (.seq kX.r2 .ret) .skip)) (.seq (.seq kX.r3 (.block 0 (.loop kX.l0))) (.seq kX.r8 .ret))))⟩
def sU.r0:aj:=(.region none [oP 2 (.box (.t 0)),
oP 4 (.move (.c (.slice none 0 0))),
oP 5 (.move (.c (.int .i64 0)))])
def sU.r1:aj:=(.region none [oP 6 (.load (some 16) (.t 2)),
oM 7 1,
oP 8 (.call 209 [.t 6, .t 7]),
oP 9 (.not (.t 8))])
def sU.r2:aj:=(.region none [oP 4 (.move (.c (.slice none 0 0))),
oP 5 (.move (.c (.int .i64 1)))])
def sU.r3:aj:=(.region none [oP 10 (.load (some 16) (.t 2)),
oM 11 1,
oP 12 (.call 223 [.t 10, .t 11]),
oM 4 12,
oP 5 (.move (.c (.int .i64 0)))])
def sU:aZ:=⟨[.tmp 4, .tmp 5],(.seq sU.r0 (.seq (.seq sU.r1 (.cond (.t 9) (.seq sU.r2 .ret) .skip)) (.seq sU.r3 .ret)))⟩
def mJ.r0:aj:=(.region none [oP 2 (.move (.c (.int .i64 0)))])
def mJ.r1:aj:=(.region none [oP 3 (.move (.c (.int .i64 0)))])
def mJ.r2:aj:=(.region none [oP 4 (.move (.c (.int .i64 0)))])
def mJ.r3:aj:=(.region none [oM 5 4,
oM 6 0,
oP 7 (.len (.t 6)),
oP 8 (.bin .lss (.t 5) (.t 7))])
def mJ.r5:aj:=(.region none [oM 11 3,
oM 12 0,
oM 13 4,
oP 14 (.indexAddr none 1 (.t 12) (.t 13)),
oP 15 (.load none (.t 14)),
oP 16 (.bin .add (.t 11) (.t 15)),
oM 3 16])
def mJ.r4:aj:=(.region none [oM 9 4,
oP 10 (.bin .add (.t 9) (.c (.int .i64 1))),
oM 4 10])
def mJ.l0:aj:=(.seq (.seq mJ.r3 (.cond (.t 8) .skip (.exit 0))) (.seq (.block 1 mJ.r5) mJ.r4))
def mJ.r6:aj:=(.region none [oM 17 3,
oM 2 17])
def mJ:aZ:=⟨[.tmp 2],(.seq mJ.r0 (.seq mJ.r1 (.seq (.seq mJ.r2 (.block 0 (.loop mJ.l0))) (.seq mJ.r6 .ret))))⟩
def yc.r0:aj:=(.region none [oP 2 (.alloc ([.int .i64 0]++List.replicate 32 (.int .u8 0)))])
def yc.r1:aj:=(.region none [oM 3 0,
oP 4 (.call 97 [.t 3]),
oP 5 (.call 445 [.t 4]),
⟨none, .store 33 (.t 2) (.t 5),none⟩])
def yc:aZ:=⟨[.cell 2 (some 33)],(.seq yc.r0 (.seq yc.r1 .ret))⟩
def jC.r0:aj:=(.region none [oP 1 (.box (.t 0)),
oP 2 (.move (.c (.slice none 0 0))),
oP 3 (.move (.c (.int .i64 0)))])
def jC.r1:aj:=(.region none [oP 11 (.load (some 33) (.t 1)),
oP 12 (.call 273 [.t 11,(.c (.slice none 0 0))]),
oM 4 12])
def jC.r2:aj:=(.region none [oM 13 4,
oP 14 (.bin .neq (.t 13) (.c (.int .i64 0)))])
def jC.r3:aj:=(.region none [oM 15 4,
oP 2 (.move (.c (.slice none 0 0))),
oM 3 15])
def jC.r4:aj:=(.region none [oP 17 (.load (some 33) (.t 1)),
oP 18 (.call 332 [.t 17]),
oM 16 18,
oP 19 (.extract (.t 16) 0),
oP 20 (.extract (.t 16) 1),
oM 5 19,
oM 6 20])
def jC.r5:aj:=(.region none [oM 21 5,
oP 22 (.len (.t 21)),
oP 23 (.bin .quo (.t 22) (.c (.int .i64 2))),
oM 7 23])
def jC.r6:aj:=(.region none [oM 24 5,
oP 25 (.len (.t 24)),
oP 26 (.bin .rem (.t 25) (.c (.int .i64 2))),
oP 27 (.bin .eql (.t 26) (.c (.int .i64 1)))])
def jC.r7:aj:=(.region none [oM 28 5,
oM 29 7,
oP 30 (.indexAddr none 1 (.t 28) (.t 29)),
oP 31 (.load none (.t 30)),
oP 32 (.buildSlice 1 2 [.int .i64 0] [(0,1,(.c (.int .i64 2))),(1,1, .t 31)]),
oM 2 32,
oP 3 (.move (.c (.int .i64 0)))])
def jC.r8:aj:=(.region none [oP 34 (.load (some 33) (.t 1)),
oP 35 (.call 333 [.t 34]),
oM 33 35,
oP 36 (.extract (.t 33) 0),
oP 37 (.extract (.t 33) 1),
oM 8 36,
oM 9 37])
def jC.r9:aj:=(.region none [oP 10 (.move (.c (.int .i64 0)))])
def jC.r10:aj:=(.region (some 11) [oM 38 6,
oM 39 7,
oP 40 (.indexAddr none 1 (.t 38) (.t 39)),
oP 41 (.load none (.t 40)),
oP 42 (.fieldAddr 1 (.t 1)),
oP 43 (.load (some 16) (.t 42)),
oP 44 (.fieldAddr 0 (.t 1)),
oP 45 (.load none (.t 44)),
oP 46 (.call 223 [.t 43, .t 45]),
oP 47 (.len (.t 46)),
oP 48 (.bin .geq (.t 41) (.t 47))])
def jC.r11:aj:=(.region none [oP 10 (.move (.c (.int .i64 1)))])
def jC.r12:aj:=(.region none [oM 49 10,
oM 50 8,
oM 51 6,
oM 52 7,
oP 53 (.indexAddr none 1 (.t 51) (.t 52)),
oP 54 (.load none (.t 53)),
oP 55 (.indexAddr none 1 (.t 50) (.t 54)),
oP 56 (.load none (.t 55)),
oP 57 (.indexAddr none 1 (.t 56) (.c (.int .i64 0))),
oP 58 (.load none (.t 57)),
oP 59 (.buildSlice 1 2 [.int .i64 0] [(0,1, .t 49),(1,1, .t 58)]),
oM 2 59,
oP 3 (.move (.c (.int .i64 0)))])
def jC:aZ:=⟨[.tmp 2, .tmp 3],(.seq jC.r0 (.seq (.seq jC.r1 (.seq jC.r2 (.cond (.t 14) (.seq jC.r3 .ret) .skip))) (.seq jC.r4 (.seq jC.r5 (.seq (.seq jC.r6 (.cond (.t 27) (.seq jC.r7 .ret) .skip)) (.seq jC.r8 (.seq jC.r9 (.seq (.seq jC.r10 (.cond (.t 48) jC.r11 .skip)) (.seq jC.r12 .ret)))))))))⟩
def fD.r0:aj:=(.region none [oP 1 (.box (.t 0)),
oP 2 (.move (.c (.slice none 0 0))),
oP 3 (.move (.c (.int .i64 0)))])
def fD.r1:aj:=(.region none [oP 12 (.load (some 33) (.t 1)),
oP 13 (.call 275 [.t 12]),
oM 4 13])
def fD.r2:aj:=(.region none [oM 14 4,
oP 15 (.bin .neq (.t 14) (.c (.int .i64 0)))])
def fD.r3:aj:=(.region none [oM 16 4,
oP 2 (.move (.c (.slice none 0 0))),
oM 3 16])
def fD.r4:aj:=(.region none [oP 18 (.load (some 33) (.t 1)),
oP 19 (.call 331 [.t 18]),
oM 17 19,
oP 20 (.extract (.t 17) 0),
oP 21 (.extract (.t 17) 1),
oM 5 20,
oM 6 21])
def fD.r5:aj:=(.region none [oM 22 5,
oP 23 (.len (.t 22)),
oP 24 (.bin .quo (.t 23) (.c (.int .i64 2))),
oM 7 24])
def fD.r6:aj:=(.region none [oM 25 5,
oP 26 (.len (.t 25)),
oP 27 (.bin .rem (.t 26) (.c (.int .i64 2))),
oP 28 (.bin .eql (.t 27) (.c (.int .i64 1)))])
def fD.r7:aj:=(.region none [oM 29 5,
oM 30 7,
oP 31 (.indexAddr none 1 (.t 29) (.t 30)),
oP 32 (.load none (.t 31)),
oP 33 (.buildSlice 1 2 [.int .i64 0] [(0,1,(.c (.int .i64 2))),(1,1, .t 32)]),
oM 2 33,
oP 3 (.move (.c (.int .i64 0)))])
def fD.r8:aj:=(.region (some 4) [oP 34 (.fieldAddr 1 (.t 1)),
oP 35 (.load (some 16) (.t 34)),
oP 9 (.alloc (List.replicate 16 (.int .u8 0))),
oP 8 (.move (.c (.int .i64 0))),
⟨none, .store 16 (.t 9) (.t 35),none⟩])
def fD.r9:aj:=(.region none [oM 36 6,
oM 37 7,
oP 38 (.bin .rem (.t 37) (.c (.int .i64 2))),
oP 39 (.bin .eql (.t 38) (.c (.int .i64 1))),
oP 40 (.uz true (.t 36) (.t 39))])
def fD.r10:aj:=(.region none [oP 8 (.move (.c (.int .i64 1)))])
def fD.r11:aj:=(.region none [oP 41 (.fieldAddr 17 (.t 1)),
oP 42 (.load (some 16) (.t 41)),
⟨none, .store 16 (.t 9) (.t 42),none⟩])
def fD.r12:aj:=(.region none [oM 43 5,
oM 44 7,
oP 45 (.indexAddr none 1 (.t 43) (.t 44)),
oP 46 (.load none (.t 45)),
oM 10 46])
def fD.r13:aj:=(.region none [oM 47 5,
oM 48 7,
oP 49 (.indexAddr none 1 (.t 47) (.t 48)),
oP 50 (.load none (.t 49)),
oP 51 (.indexAddr (some 16) 1 (.t 9) (.t 50)),
oP 52 (.load none (.t 51)),
oP 53 (.conv .i64 (.t 52)),
oM 11 53])
def fD.eP:aj:=(.region none [oM 54 11,
oM 55 5,
oM 56 7,
oP 57 (.indexAddr none 1 (.t 55) (.t 56)),
oP 58 (.load none (.t 57)),
oP 59 (.bin .neq (.t 54) (.t 58))])
def fD.r16:aj:=(.region none [oM 64 10,
oM 65 11,
oP 66 (.min [.t 64, .t 65]),
oM 10 66])
def fD.gG:aj:=(.region none [oM 60 11,
oP 61 (.indexAddr (some 16) 1 (.t 9) (.t 60)),
oP 62 (.load none (.t 61)),
oP 63 (.conv .i64 (.t 62)),
oM 11 63])
def fD.l0:aj:=(.seq (.seq fD.eP (.cond (.t 59) .skip (.exit 0))) (.seq (.block 1 fD.r16) fD.gG))
def fD.lC:aj:=(.region none [oM 67 8,
oM 68 10,
oP 69 (.buildSlice 1 2 [.int .i64 0] [(0,1, .t 67),(1,1, .t 68)]),
oM 2 69,
oP 3 (.move (.c (.int .i64 0)))])
def fD:aZ:=⟨[.tmp 2, .tmp 3],(.seq fD.r0 (.seq (.seq fD.r1 (.seq fD.r2 (.cond (.t 15) (.seq fD.r3 .ret) .skip))) (.seq fD.r4 (.seq fD.r5 (.seq (.seq fD.r6 (.cond (.t 28) (.seq fD.r7 .ret) .skip)) (.seq fD.r8 (.seq (.seq fD.r9 (.cond (.t 40) (.seq fD.r10 fD.r11) .skip)) (.seq fD.r12 (.seq (.seq fD.r13 (.block 0 (.loop fD.l0))) (.seq fD.lC .ret))))))))))⟩
def pO.r0:aj:=(.region none [oP 1 (.box (.t 0)),
oP 2 (.move (.c (.int .i64 0))),
oP 3 (.move (.c (.int .i64 0)))])
def pO.r1:aj:=(.region none [oP 7 (.load (some 33) (.t 1)),
oP 8 (.call 273 [.t 7,(.c (.slice none 0 0))]),
oM 4 8])
def pO.r2:aj:=(.region none [oM 9 4,
oP 10 (.bin .neq (.t 9) (.c (.int .i64 0)))])
def pO.r3:aj:=(.region none [oM 11 4,
oP 2 (.move (.c (.int .i64 0))),
oM 3 11])
def pO.r4:aj:=(.region none [oP 13 (.load (some 33) (.t 1)),
oP 14 (.call 332 [.t 13]),
oM 12 14,
oP 15 (.extract (.t 12) 0),
oP 16 (.extract (.t 12) 1),
oM 5 15,
oM 6 16])
def pO.r5:aj:=(.region none [oM 17 5,
oP 18 (.len (.t 17)),
oM 2 18,
oP 3 (.move (.c (.int .i64 0)))])
def pO:aZ:=⟨[.tmp 2, .tmp 3],(.seq pO.r0 (.seq (.seq pO.r1 (.seq pO.r2 (.cond (.t 10) (.seq pO.r3 .ret) .skip))) (.seq pO.r4 (.seq pO.r5 .ret))))⟩
def pR.r0:aj:=(.region none [oP 1 (.box (.t 0)),
oP 2 (.move (.c (.int .i64 0))),
oP 3 (.move (.c (.int .i64 0)))])
def pR.r1:aj:=(.region none [oP 7 (.load (some 33) (.t 1)),
oP 8 (.call 275 [.t 7]),
oM 4 8])
def pR.r2:aj:=(.region none [oM 9 4,
oP 10 (.bin .neq (.t 9) (.c (.int .i64 0)))])
def pR.r3:aj:=(.region none [oM 11 4,
oP 2 (.move (.c (.int .i64 0))),
oM 3 11])
def pR.r4:aj:=(.region none [oP 13 (.load (some 33) (.t 1)),
oP 14 (.call 331 [.t 13]),
oM 12 14,
oP 15 (.extract (.t 12) 0),
oP 16 (.extract (.t 12) 1),
oM 5 15,
oM 6 16])
def pR.r5:aj:=(.region none [oM 17 5,
oP 18 (.len (.t 17)),
oM 2 18,
oP 3 (.move (.c (.int .i64 0)))])
def pR:aZ:=⟨[.tmp 2, .tmp 3],(.seq pR.r0 (.seq (.seq pR.r1 (.seq pR.r2 (.cond (.t 10) (.seq pR.r3 .ret) .skip))) (.seq pR.r4 (.seq pR.r5 .ret))))⟩
def yg.r0:aj:=(.region none [oP 2 (.alloc ([.int .i64 0]++List.replicate 32 (.int .u8 0)))])
def yg.r1:aj:=(.region none [oM 3 0,
oP 4 (.call 97 [.t 3]),
oP 5 (.call 445 [.t 4]),
⟨none, .store 33 (.t 2) (.t 5),none⟩])
def yg:aZ:=⟨[.cell 2 (some 33)],(.seq yg.r0 (.seq yg.r1 .ret))⟩
def jd.r0:aj:=(.region none [oP 1 (.box (.t 0)),
oP 2 (.move (.c (.slice none 0 0))),
oP 3 (.move (.c (.int .i64 0)))])
def jd.r1:aj:=(.region none [oP 7 (.load (some 33) (.t 1)),
oP 8 (.call 273 [.t 7,(.c (.slice none 0 0))]),
oM 4 8])
def jd.r2:aj:=(.region none [oM 9 4,
oP 10 (.bin .neq (.t 9) (.c (.int .i64 0)))])
def jd.r3:aj:=(.region none [oM 11 4,
oP 2 (.move (.c (.slice none 0 0))),
oM 3 11])
def jd.r4:aj:=(.region none [oP 12 (.buildSlice 1 0 [.int .i64 0] []),
oM 5 12])
def jd.r5:aj:=(.region none [oP 13 (.fieldAddr 0 (.t 1)),
oP 14 (.load none (.t 13)),
oP 15 (.move (.c (.int .i64 0)))])
def jd.r6:aj:=(.region none [oP 16 (.bin .lss (.t 15) (.t 14))])
def jd.r7:aj:=(.region none [oM 17 15,
oM 6 17])
def jd.r8:aj:=(.region none [oM 18 6,
oP 19 (.fieldAddr 1 (.t 1)),
oP 20 (.indexAddr (some 16) 1 (.t 19) (.t 18)),
oP 21 (.load none (.t 20)),
oP 22 (.conv .i64 (.t 21)),
oM 23 6,
oP 24 (.bin .eql (.t 22) (.t 23)),
oM 25 24,
⟨some 26, .move (.t 6),some (25,false)⟩,
⟨some 27, .fieldAddr 17 (.t 1),some (25,false)⟩,
⟨some 28, .indexAddr (some 16) 1 (.t 27) (.t 26),some (25,false)⟩,
⟨some 29, .load none (.t 28),some (25,false)⟩,
⟨some 30, .conv .i64 (.t 29),some (25,false)⟩,
⟨some 31, .move (.t 6),some (25,false)⟩,
⟨some 32, .bin .eql (.t 30) (.t 31),some (25,false)⟩,
oP 33 (.pick (.t 25) (.c (.bool true)) (.t 32))])
def jd.r9:aj:=(.region none [oM 34 5,
oM 35 6,
oP 36 (.buildSlice 1 1 [.int .i64 0] [(0,1, .t 35)]),
oP 37 (.append 1 8 (.t 34) (.t 36)),
oM 5 37])
def jd.r10:aj:=(.region none [oP 38 (.bin .add (.t 15) (.c (.int .i64 1))),
oM 15 38])
def jd.l0:aj:=(.seq jd.r6 (.seq (.cond (.t 16) .skip (.exit 0)) (.seq (.block 1 (.seq jd.r7 (.seq jd.r8 (.cond (.t 33) jd.r9 .skip)))) jd.r10)))
def jd.r11:aj:=(.region none [oM 39 5,
oM 2 39,
oP 3 (.move (.c (.int .i64 0)))])
def jd:aZ:=⟨[.tmp 2, .tmp 3],(.seq jd.r0 (.seq (.seq jd.r1 (.seq jd.r2 (.cond (.t 10) (.seq jd.r3 .ret) .skip))) (.seq jd.r4 (.seq (.seq jd.r5 (.block 0 (.loop jd.l0))) (.seq jd.r11 .ret)))))⟩
def jD.r0:aj:=(.region none [oP 1 (.box (.t 0)),
oP 2 (.move (.c (.slice none 0 0))),
oP 3 (.move (.c (.int .i64 0)))])
def jD.r1:aj:=(.region none [oP 7 (.load (some 33) (.t 1)),
oP 8 (.call 275 [.t 7]),
oM 4 8])
def jD.r2:aj:=(.region none [oM 9 4,
oP 10 (.bin .neq (.t 9) (.c (.int .i64 0)))])
def jD.r3:aj:=(.region none [oM 11 4,
oP 2 (.move (.c (.slice none 0 0))),
oM 3 11])
def jD.r4:aj:=(.region none [oP 12 (.buildSlice 1 0 [.int .i64 0] []),
oM 5 12])
def jD.r5:aj:=(.region none [oP 6 (.move (.c (.int .i64 0)))])
def jD.r6:aj:=(.region none [oM 13 6,
oP 14 (.fieldAddr 0 (.t 1)),
oP 15 (.load none (.t 14)),
oP 16 (.bin .lss (.t 13) (.t 15))])
def jD.r8:aj:=(.region none [oM 19 6,
oP 20 (.fieldAddr 1 (.t 1)),
oP 21 (.indexAddr (some 16) 1 (.t 20) (.t 19)),
oP 22 (.load none (.t 21)),
oP 23 (.conv .i64 (.t 22)),
oM 24 6,
oP 25 (.bin .eql (.t 23) (.t 24)),
oM 26 25,
⟨some 27, .move (.t 6),some (26,false)⟩,
⟨some 28, .fieldAddr 17 (.t 1),some (26,false)⟩,
⟨some 29, .indexAddr (some 16) 1 (.t 28) (.t 27),some (26,false)⟩,
⟨some 30, .load none (.t 29),some (26,false)⟩,
⟨some 31, .conv .i64 (.t 30),some (26,false)⟩,
⟨some 32, .move (.t 6),some (26,false)⟩,
⟨some 33, .bin .eql (.t 31) (.t 32),some (26,false)⟩,
oP 34 (.pick (.t 26) (.c (.bool true)) (.t 33))])
def jD.r9:aj:=(.region none [oM 35 5,
oM 36 6,
oP 37 (.buildSlice 1 1 [.int .i64 0] [(0,1, .t 36)]),
oP 38 (.append 1 8 (.t 35) (.t 37)),
oM 5 38])
def jD.r7:aj:=(.region none [oM 17 6,
oP 18 (.bin .add (.t 17) (.c (.int .i64 1))),
oM 6 18])
def jD.l0:aj:=(.seq (.seq jD.r6 (.cond (.t 16) .skip (.exit 0))) (.seq (.block 1 (.seq jD.r8 (.cond (.t 34) jD.r9 .skip))) jD.r7))
def jD.r10:aj:=(.region none [oM 39 5,
oM 2 39,
oP 3 (.move (.c (.int .i64 0)))])
def jD:aZ:=⟨[.tmp 2, .tmp 3],(.seq jD.r0 (.seq (.seq jD.r1 (.seq jD.r2 (.cond (.t 10) (.seq jD.r3 .ret) .skip))) (.seq jD.r4 (.seq (.seq jD.r5 (.block 0 (.loop jD.l0))) (.seq jD.r10 .ret)))))⟩
def mM.r0:aj:=(.region none [oP 2 (.move (.c (.pointer none)))])
def mM.r1:aj:=(.region none [oM 5 0,
oM 6 0,
oP 7 (.len (.t 6)),
oP 8 (.conv .u64 (.t 7)),
oP 9 (.bin .add (.c (.int .u64 8117)) (.t 8)),
oP 10 (.build ([.slice none 0 0]++[.int .i64 0]++[.int .u64 0]) [(0,1, .t 5),(2,1, .t 9)]),
oP 11 (.box (.t 10)),
oM 3 11])
def mM.r2:aj:=(.region none [oP 4 (.move (.c (.int .i64 0)))])
def mM.r3:aj:=(.region none [oM 12 4,
oM 13 0,
oP 14 (.len (.t 13)),
oP 15 (.bin .lss (.t 12) (.t 14)),
oM 16 15,
⟨some 17, .move (.t 4),some (16,true)⟩,
⟨some 18, .bin .lss (.t 17) (.c (.int .i64 4096)),some (16,true)⟩,
oP 19 (.pick (.t 16) (.t 18) (.c (.bool false)))])
def mM.r5:aj:=(.region (some 15) [oM 22 3,
oM 23 3,
oP 24 (.nilCheck (.t 23)),
oP 25 (.fieldAddr 2 (.t 24)),
oP 26 (.load none (.t 25)),
oP 27 (.bin .mul (.t 26) (.c (.int .u64 1099511628211))),
oM 28 0,
oM 29 4,
oP 30 (.indexAddr none 1 (.t 28) (.t 29)),
oP 31 (.load none (.t 30)),
oP 32 (.conv .u64 (.t 31)),
oP 33 (.bin .add (.t 27) (.t 32)),
oP 34 (.bin .add (.t 33) (.c (.int .u64 23))),
oP 35 (.nilCheck (.t 22)),
oP 36 (.fieldAddr 2 (.t 35)),
⟨none, .store 1 (.t 36) (.t 34),none⟩])
def mM.r4:aj:=(.region none [oM 20 4,
oP 21 (.bin .add (.t 20) (.c (.int .i64 1))),
oM 4 21])
def mM.l0:aj:=(.seq (.seq mM.r3 (.cond (.t 19) .skip (.exit 0))) (.seq (.block 1 mM.r5) mM.r4))
def mM.r6:aj:=(.region none [oM 37 3,
oM 2 37])
def mM:aZ:=⟨[.tmp 2],(.seq mM.r0 (.seq mM.r1 (.seq (.seq mM.r2 (.block 0 (.loop mM.l0))) (.seq mM.r6 .ret))))⟩
def kC.r0:aj:=(.region none [oP 4 (.move (.c (.slice none 0 0))),
oP 5 (.move (.c (.slice none 0 0)))])
def kC.r1:aj:=(.region none [oM 10 0,
oM 11 1,
oP 12 (.call 102 [.t 10, .t 11]),
oP 13 (.bin .add (.c (.int .i64 1)) (.t 12)),
oM 6 13])
def kC.r2:aj:=(.region none [oM 14 0,
oM 15 6,
oP 16 (.call 446 [.t 14, .t 15]),
oP 17 (.call 267 [.t 16]),
oP 7 (.alloc ([.int .i64 0]++List.replicate 32 (.int .u8 0))),
⟨none, .store 33 (.t 7) (.t 17),none⟩])
def kC.r3:aj:=(.region (some 10) [oP 18 (.fieldAddr 1 (.t 7)),
oP 19 (.load (some 16) (.t 18)),
oM 20 6,
oP 21 (.call 284 [.t 19, .t 20]),
oP 22 (.fieldAddr 17 (.t 7)),
oP 23 (.load (some 16) (.t 22)),
oM 24 6,
oP 25 (.call 284 [.t 23, .t 24]),
oM 8 21,
oM 9 25])
def kC.r4:aj:=(.region none [oM 26 0,
oP 27 (.call 102 [.t 26,(.c (.int .i64 14))])])
def kC.r5:aj:=(.region none [oP 29 (.bin .eql (.t 27) (.c (.int .i64 0))),
oM 28 29])
def kC.r6:aj:=(.region none [oM 30 0,
oM 31 6,
oP 32 (.call 387 [.t 30, .t 31,(.c (.int .i64 3))]),
oM 33 6,
oP 34 (.call 284 [.t 32, .t 33]),
oM 9 34])
def kC.r7:aj:=(.region none [oP 36 (.bin .eql (.t 27) (.c (.int .i64 1))),
oM 35 36])
def kC.r8:aj:=(.region none [oM 37 8,
oM 38 0,
oP 39 (.buildSlice 1 3 [.int .i64 0] [(0,1,(.c (.int .i64 1))),(1,1,(.c (.int .i64 0))),(2,1,(.c (.int .i64 2)))]),
oP 40 (.call 98 [.t 38, .t 39]),
oP 41 (.buildSlice 1 1 [.int .i64 0] [(0,1, .t 40)]),
oP 42 (.append 1 8 (.t 37) (.t 41)),
oM 8 42])
def kC.r9:aj:=(.region none [oP 44 (.bin .eql (.t 27) (.c (.int .i64 2))),
oM 43 44])
def kC.r10:aj:=(.region none [oP 4 (.move (.c (.slice none 0 0))),
oP 5 (.move (.c (.slice none 0 0)))])
def kC.r11:aj:=(.region none [oM 45 8,
oM 46 9,
oM 4 45,
oM 5 46])
def kC:aZ:=⟨[.tmp 4, .tmp 5],(.seq kC.r0 (.seq kC.r1 (.seq kC.r2 (.seq kC.r3 (.seq (.seq kC.r4 (.block 0 (.seq kC.r5 (.cond (.t 28) kC.r6 (.seq kC.r7 (.cond (.t 35) kC.r8 (.seq kC.r9 (.cond (.t 43) (.seq kC.r10 .ret) .skip)))))))) (.seq kC.r11 .ret))))))⟩
def yh.r0:aj:=(.region none [oP 4 (.move (.c (.int .i64 0)))])
def yh.r1:aj:=(.region none [oM 5 1,
oM 6 0,
oM 7 1,
oP 8 (.len (.t 7)),
oP 9 (.call 102 [.t 6, .t 8]),
oP 10 (.indexAddr none 1 (.t 5) (.t 9)),
oP 11 (.load none (.t 10)),
oM 4 11])
def yh:aZ:=⟨[.tmp 4],(.seq yh.r0 (.seq yh.r1 .ret))⟩
def uF.r0:aj:=(.region none [oP 6 (.move (.c (.bool false)))])
def uF.r1:aj:=(.region none [oM 8 0,
oP 9 (.call 68 [.t 8]),
oM 7 9])
def uF.r2:aj:=(.region none [oM 10 7,
oP 11 (.bin .gtr (.t 10) (.c (.int .i64 0))),
oM 12 11,
⟨some 13, .move (.t 7),some (12,true)⟩,
⟨some 14, .move (.t 2),some (12,true)⟩,
⟨some 15, .bin .leq (.t 13) (.t 14),some (12,true)⟩,
oP 16 (.pick (.t 12) (.t 15) (.c (.bool false))),
oM 17 16,
⟨some 18, .move (.t 1),some (17,true)⟩,
⟨some 19, .call 68 [.t 18],some (17,true)⟩,
⟨some 20, .move (.t 7),some (17,true)⟩,
⟨some 21, .bin .eql (.t 19) (.t 20),some (17,true)⟩,
oP 22 (.pick (.t 17) (.t 21) (.c (.bool false))),
oM 6 22])
def uF:aZ:=⟨[.tmp 6],(.seq uF.r0 (.seq uF.r1 (.seq uF.r2 .ret)))⟩
def dP.r0:aj:=(.region none [oP 4 (.move (.c (.slice none 0 0)))])
def dP.r1:aj:=(.region none [oM 10 0,
oP 11 (.bin .eql (.t 10) (.c (.int .i64 0))),
oM 12 11,
⟨some 13, .move (.t 1),some (12,true)⟩,
⟨some 14, .bin .eql (.t 13) (.c (.int .i64 0)),some (12,true)⟩,
oP 15 (.pick (.t 12) (.t 14) (.c (.bool false)))])
def dP.r2:aj:=(.region none [oP 16 (.buildSlice 1 1 [.string ⟨#[]⟩] [(0,1,(.c (.string ⟨#[]⟩)))]),
oM 4 16])
def dP.r3:aj:=(.region none [oP 17 (.buildSlice 1 0 [.string ⟨#[]⟩] []),
oM 5 17])
def dP.r4:aj:=(.region none [oM 18 1,
oP 19 (.bin .gtr (.t 18) (.c (.int .i64 0)))])
def dP.r5:aj:=(.region none [oM 20 0,
oP 21 (.bin .add (.t 20) (.c (.int .i64 1))),
oM 22 1,
oP 23 (.bin .sub (.t 22) (.c (.int .i64 1))),
oP 24 (.call 345 [.t 21, .t 23]),
oP 25 (.len (.t 24)),
oP 26 (.move (.c (.int .i64 0)))])
def dP.r6:aj:=(.region none [oP 27 (.bin .lss (.t 26) (.t 25))])
def dP.r7:aj:=(.region none [oP 28 (.indexAddr none 1 (.t 24) (.t 26)),
oP 29 (.load none (.t 28)),
oM 7 29])
def dP.r8:aj:=(.region none [oM 30 5,
oM 31 7,
oP 32 (.iL .add (.c (.string ⟨#[40]⟩)) (.t 31)),
oP 33 (.buildSlice 1 1 [.string ⟨#[]⟩] [(0,1, .t 32)]),
oP 34 (.append 1 16 (.t 30) (.t 33)),
oM 5 34])
def dP.r9:aj:=(.region none [oP 35 (.bin .add (.t 26) (.c (.int .i64 1))),
oM 26 35])
def dP.l0:aj:=(.seq dP.r6 (.seq (.cond (.t 27) .skip (.exit 0)) (.seq (.block 1 (.seq dP.r7 dP.r8)) dP.r9)))
def dP.r10:aj:=(.region none [oM 36 0,
oP 37 (.bin .gtr (.t 36) (.c (.int .i64 0)))])
def dP.r11:aj:=(.region none [oM 38 0,
oP 39 (.bin .sub (.t 38) (.c (.int .i64 1))),
oM 40 1,
oP 41 (.call 345 [.t 39, .t 40]),
oP 42 (.len (.t 41)),
oP 43 (.move (.c (.int .i64 0)))])
def dP.r12:aj:=(.region none [oP 44 (.bin .lss (.t 43) (.t 42))])
def dP.r13:aj:=(.region none [oP 45 (.indexAddr none 1 (.t 41) (.t 43)),
oP 46 (.load none (.t 45)),
oM 9 46])
def dP.eP:aj:=(.region none [oM 47 5,
oM 48 9,
oP 49 (.iL .add (.c (.string ⟨#[41]⟩)) (.t 48)),
oP 50 (.buildSlice 1 1 [.string ⟨#[]⟩] [(0,1, .t 49)]),
oP 51 (.append 1 16 (.t 47) (.t 50)),
oM 5 51])
def dP.gG:aj:=(.region none [oP 52 (.bin .add (.t 43) (.c (.int .i64 1))),
oM 43 52])
def dP.l1:aj:=(.seq dP.r12 (.seq (.cond (.t 44) .skip (.exit 2)) (.seq (.block 3 (.seq dP.r13 dP.eP)) dP.gG)))
def dP.r16:aj:=(.region none [oM 53 5,
oM 4 53])
def dP:aZ:=⟨[.tmp 4],(.seq dP.r0 (.seq (.seq dP.r1 (.cond (.t 15) (.seq dP.r2 .ret) .skip)) (.seq dP.r3 (.seq (.seq dP.r4 (.cond (.t 19) (.seq dP.r5 (.block 0 (.loop dP.l0))) .skip)) (.seq (.seq dP.r10 (.cond (.t 37) (.seq dP.r11 (.block 2 (.loop dP.l1))) .skip)) (.seq dP.r16 .ret))))))⟩
def fO.r0:aj:=(.region none [oP 2 (.move (.c (.int .i64 0)))])
def fO.r1:aj:=(.region none [oP 3 (.move (.c (.int .i64 0)))])
def fO.r2:aj:=(.region none [oM 6 0,
oP 7 (.len (.t 6)),
oP 8 (.move (.c (.int .i64 0)))])
def fO.r3:aj:=(.region none [oP 9 (.bin .lss (.t 8) (.t 7))])
def fO.r4:aj:=(.region none [oM 10 8,
oP 11 (.indexAddr none 1 (.t 6) (.t 8)),
oP 12 (.load none (.t 11)),
oM 4 10,
oM 5 12])
def fO.r5:aj:=(.region none [oM 13 5,
oP 14 (.bin .lss (.t 13) (.c (.int .i64 1))),
oM 15 14,
⟨some 16, .move (.t 5),some (15,false)⟩,
⟨some 17, .bin .gtr (.t 16) (.c (.int .i64 16)),some (15,false)⟩,
oP 18 (.pick (.t 15) (.c (.bool true)) (.t 17)),
oM 19 18,
⟨some 20, .move (.t 4),some (19,false)⟩,
⟨some 21, .bin .gtr (.t 20) (.c (.int .i64 0)),some (19,false)⟩,
⟨some 22, .move (.t 21),some (19,false)⟩,
⟨some 23, .move (.t 5),some (22,true)⟩,
⟨some 24, .move (.t 0),some (22,true)⟩,
⟨some 25, .move (.t 4),some (22,true)⟩,
⟨some 26, .bin .sub (.t 25) (.c (.int .i64 1)),some (22,true)⟩,
⟨some 27, .indexAddr none 1 (.t 24) (.t 26),some (22,true)⟩,
⟨some 28, .load none (.t 27),some (22,true)⟩,
⟨some 29, .bin .gtr (.t 23) (.t 28),some (22,true)⟩,
⟨some 30, .pick (.t 22) (.t 29) (.c (.bool false)),some (19,false)⟩,
oP 31 (.pick (.t 19) (.c (.bool true)) (.t 30))])
def fO.r6:aj:=(.region none [oP 2 (.move (.c (.int .i64 0)))])
def fO.r7:aj:=(.region none [oM 32 3,
oM 33 5,
oP 34 (.bin .add (.t 32) (.t 33)),
oM 3 34])
def fO.r8:aj:=(.region none [oM 35 3,
oP 36 (.bin .gtr (.t 35) (.c (.int .i64 16)))])
def fO.r9:aj:=(.region none [oP 2 (.move (.c (.int .i64 0)))])
def fO.r10:aj:=(.region none [oP 37 (.bin .add (.t 8) (.c (.int .i64 1))),
oM 8 37])
def fO.l0:aj:=(.seq fO.r3 (.seq (.cond (.t 9) .skip (.exit 0)) (.seq (.block 1 (.seq fO.r4 (.seq (.seq fO.r5 (.cond (.t 31) (.seq fO.r6 .ret) .skip)) (.seq fO.r7 (.seq fO.r8 (.cond (.t 36) (.seq fO.r9 .ret) .skip)))))) fO.r10)))
def fO.r11:aj:=(.region none [oM 38 3,
oM 2 38])
def fO:aZ:=⟨[.tmp 2],(.seq fO.r0 (.seq fO.r1 (.seq (.seq fO.r2 (.block 0 (.loop fO.l0))) (.seq fO.r11 .ret))))⟩
def fH.r0:aj:=(.region none [oP 2 (.alloc ([.int .i64 0]++List.replicate 32 (.int .u8 0)))])
def fH.r1:aj:=(.region none [oM 9 0,
oP 10 (.lenStr (.t 9)),
oP 11 (.bin .quo (.t 10) (.c (.int .i64 2))),
oP 12 (.build ([.int .i64 0]++List.replicate 32 (.int .u8 0)) [(0,1, .t 11)]),
oP 3 (.alloc ([.int .i64 0]++List.replicate 32 (.int .u8 0))),
⟨none, .store 33 (.t 3) (.t 12),none⟩])
def fH.r2:aj:=(.region none [oP 13 (.buildSlice 1 0 [.int .u8 0] []),
oP 14 (.buildSlice 1 1 [.slice none 0 0] [(0,1, .t 13)]),
oP 4 (.alloc [.slice none 0 0]),
⟨none, .store 1 (.t 4) (.t 14),none⟩])
def fH.r3:aj:=(.region none [oP 5 (.move (.c (.int .u8 0)))])
def fH.r4:aj:=(.region none [oP 15 (.makeFunc 278 [.t 4, .t 3]),
oM 6 15])
def fH.r5:aj:=(.region none [oM 16 0,
oP 17 (.lenStr (.t 16)),
oP 18 (.move (.c (.int .i64 0)))])
def fH.r6:aj:=(.region none [oP 19 (.bin .lss (.t 18) (.t 17))])
def fH.r7:aj:=(.region none [oM 20 18,
oM 7 20])
def fH.r8:aj:=(.region none [oM 21 0,
oM 22 7,
oP 23 (.indexStr (.t 21) (.t 22)),
oP 24 (.bin .eql (.t 23) (.c (.int .u8 41)))])
def fH.r9:aj:=(.region none [oM 25 6,
oP 26 (.kV (.t 25) [])])
def fH.r10:aj:=(.region none [oP 27 (.load none (.t 4)),
oP 28 (.len (.t 27)),
oP 29 (.bin .sub (.t 28) (.c (.int .i64 1))),
oM 8 29])
def fH.r11:aj:=(.region (some 8) [oP 30 (.load none (.t 4)),
oM 31 8,
oP 32 (.load none (.t 4)),
oM 33 8,
oP 34 (.indexAddr none 1 (.t 32) (.t 33)),
oP 35 (.load none (.t 34)),
oM 36 5,
oP 37 (.buildSlice 1 1 [.int .u8 0] [(0,1, .t 36)]),
oP 38 (.lK 1 1 (.t 35) (.t 37) [.t 4]),
oP 39 (.indexAddr none 1 (.t 30) (.t 31)),
⟨none, .store 1 (.t 39) (.t 38),none⟩])
def fH.r12:aj:=(.region none [oP 40 (.load none (.t 4)),
oM 41 5,
oP 42 (.buildSlice 1 1 [.int .u8 0] [(0,1, .t 41)]),
oP 43 (.buildSlice 1 1 [.slice none 0 0] [(0,1, .t 42)]),
oP 44 (.append 1 24 (.t 40) (.t 43)),
⟨none, .store 1 (.t 4) (.t 44),none⟩])
def fH.r13:aj:=(.region none [oM 45 5,
oP 46 (.bin .add (.t 45) (.c (.int .u8 1))),
oM 5 46])
def fH.eP:aj:=(.region none [oP 47 (.bin .add (.t 18) (.c (.int .i64 1))),
oM 18 47])
def fH.l0:aj:=(.seq fH.r6 (.seq (.cond (.t 19) .skip (.exit 0)) (.seq (.block 1 (.seq fH.r7 (.seq (.seq fH.r8 (.cond (.t 24) (.seq fH.r9 (.exit 1)) .skip)) (.seq fH.r10 (.seq fH.r11 (.seq fH.r12 fH.r13)))))) fH.eP)))
def fH.gG:aj:=(.region none [oM 48 6,
oP 49 (.kV (.t 48) [])])
def fH.r16:aj:=(.region none [oP 50 (.load (some 33) (.t 3)),
⟨none, .store 33 (.t 2) (.t 50),none⟩])
def fH:aZ:=⟨[.cell 2 (some 33)],(.seq fH.r0 (.seq fH.r1 (.seq fH.r2 (.seq fH.r3 (.seq fH.r4 (.seq (.seq fH.r5 (.block 0 (.loop fH.l0))) (.seq fH.gG (.seq fH.r16 .ret))))))))⟩
def yj.r0:aj:=(.region none [oP 1 (.box (.t 0)),
oP 2 (.move (.c (.slice none 0 0)))])
def yj.r1:aj:=(.region (some 17) [oP 3 (.fieldAddr 1 (.t 1)),
oP 4 (.load (some 16) (.t 3)),
oP 5 (.fieldAddr 0 (.t 1)),
oP 6 (.load none (.t 5)),
oP 7 (.call 218 [.t 4, .t 6]),
oP 8 (.fieldAddr 17 (.t 1)),
oP 9 (.load (some 16) (.t 8)),
oP 10 (.fieldAddr 0 (.t 1)),
oP 11 (.load none (.t 10)),
oP 12 (.call 218 [.t 9, .t 11]),
oP 13 (.load (some 33) (.t 1)),
oP 14 (.call 193 [.t 13]),
oP 15 (.fieldAddr 0 (.t 1)),
oP 16 (.load none (.t 15)),
oP 17 (.call 218 [.t 14, .t 16]),
oP 18 (.buildSlice 1 3 [.slice none 0 0] [(0,1, .t 7),(1,1, .t 12),(2,1, .t 17)]),
oM 2 18])
def yj:aZ:=⟨[.tmp 2],(.seq yj.r0 (.seq yj.r1 .ret))⟩
def jr.r0:aj:=(.region none [oP 1 (.box (.t 0)),
oP 2 (.move (.c (.string ⟨#[]⟩))),
oP 3 (.move (.c (.int .i64 0)))])
def jr.r1:aj:=(.region none [oP 8 (.load (some 33) (.t 1)),
oP 9 (.call 274 [.t 8,(.c (.int .i64 0))]),
oM 4 9,
oP 5 (.move (.c (.int .i64 0)))])
def jr.r2:aj:=(.region none [oP 10 (.fieldAddr 0 (.t 1)),
oP 11 (.load none (.t 10)),
oP 12 (.move (.c (.int .i64 0)))])
def jr.r3:aj:=(.region none [oP 13 (.bin .lss (.t 12) (.t 11))])
def jr.r4:aj:=(.region none [oM 14 12,
oM 6 14])
def jr.r5:aj:=(.region none [oP 15 (.load (some 33) (.t 1)),
oM 16 6,
oP 17 (.call 274 [.t 15, .t 16]),
oM 7 17])
def jr.r6:aj:=(.region none [oM 19 7,
oM 20 4,
oP 21 (.iL .lss (.t 19) (.t 20)),
oM 18 21])
def jr.r7:aj:=(.region none [oM 22 7,
oM 4 22,
oP 5 (.move (.c (.int .i64 1)))])
def jr.r8:aj:=(.region none [oM 24 7,
oM 25 4,
oP 26 (.iL .eql (.t 24) (.t 25)),
oM 23 26])
def jr.r9:aj:=(.region none [oM 27 5,
oP 28 (.bin .add (.t 27) (.c (.int .i64 1))),
oM 5 28])
def jr.r10:aj:=(.region none [oP 29 (.bin .add (.t 12) (.c (.int .i64 1))),
oM 12 29])
def jr.l0:aj:=(.seq jr.r3 (.seq (.cond (.t 13) .skip (.exit 0)) (.seq (.block 1 (.seq jr.r4 (.seq jr.r5 (.block 2 (.seq jr.r6 (.cond (.t 18) jr.r7 (.seq jr.r8 (.cond (.t 23) jr.r9 .skip)))))))) jr.r10)))
def jr.r11:aj:=(.region none [oM 30 4,
oM 31 5,
oM 2 30,
oM 3 31])
def jr:aZ:=⟨[.tmp 2, .tmp 3],(.seq jr.r0 (.seq jr.r1 (.seq (.seq jr.r2 (.block 0 (.loop jr.l0))) (.seq jr.r11 .ret))))⟩
def kK.r0:aj:=(.region none [oP 4 (.move (.c (.bool false)))])
def kK.r1:aj:=(.region none [oM 6 0,
oP 7 (.len (.t 6)),
oM 8 1,
oP 9 (.len (.t 8)),
oP 10 (.bin .neq (.t 7) (.t 9))])
def kK.r2:aj:=(.region none [oP 4 (.move (.c (.bool false)))])
def kK.r3:aj:=(.region none [oM 11 0,
oP 12 (.len (.t 11)),
oP 13 (.move (.c (.int .i64 0)))])
def kK.r4:aj:=(.region none [oP 14 (.bin .lss (.t 13) (.t 12))])
def kK.r5:aj:=(.region none [oM 15 13,
oM 5 15])
def kK.r6:aj:=(.region (some 9) [oM 16 0,
oM 17 5,
oP 18 (.indexAddr none 1 (.t 16) (.t 17)),
oP 19 (.load none (.t 18)),
oM 20 1,
oM 21 5,
oP 22 (.indexAddr none 1 (.t 20) (.t 21)),
oP 23 (.load none (.t 22)),
oP 24 (.bin .neq (.t 19) (.t 23))])
def kK.r7:aj:=(.region none [oP 4 (.move (.c (.bool false)))])
def kK.r8:aj:=(.region none [oP 25 (.bin .add (.t 13) (.c (.int .i64 1))),
oM 13 25])
def kK.l0:aj:=(.seq kK.r4 (.seq (.cond (.t 14) .skip (.exit 0)) (.seq (.block 1 (.seq kK.r5 (.seq kK.r6 (.cond (.t 24) (.seq kK.r7 .ret) .skip)))) kK.r8)))
def kK.r9:aj:=(.region none [oP 4 (.move (.c (.bool true)))])
def kK:aZ:=⟨[.tmp 4],(.seq kK.r0 (.seq (.seq kK.r1 (.cond (.t 10) (.seq kK.r2 .ret) .skip)) (.seq (.seq kK.r3 (.block 0 (.loop kK.l0))) (.seq kK.r9 .ret))))⟩
def yu.r0:aj:=(.region none [oM 3 0,
oP 4 (.len (.t 3)),
oM 2 4])
def yu.r1:aj:=(.region none [oM 5 0,
oM 6 2,
oM 7 2,
oP 8 (.conv .u64 (.t 7)),
oP 9 (.call 227 [.t 8]),
oP 10 (.call 371 [.t 5,(.c (.int .i64 0)), .t 6, .t 9])])
def yu:aZ:=⟨[],(.seq yu.r0 yu.r1)⟩
def fP.r0:aj:=(.region none [oP 2 (.move (.c (.slice none 0 0)))])
def fP.r1:aj:=(.region none [oM 6 0,
oP 7 (.len (.t 6)),
oP 8 (.bin .lss (.t 7) (.c (.int .i64 2)))])
def fP.r2:aj:=(.region none [oM 9 0,
oM 2 9])
def fP.r3:aj:=(.region none [oP 3 (.move (.c (.int .i64 1)))])
def fP.r4:aj:=(.region none [oM 10 3,
oM 11 0,
oP 12 (.len (.t 11)),
oP 13 (.bin .lss (.t 10) (.t 12))])
def fP.r6:aj:=(.region (some 10) [oM 16 0,
oM 17 3,
oP 18 (.indexAddr none 1 (.t 16) (.t 17)),
oP 19 (.load none (.t 18)),
oM 20 0,
oM 21 3,
oP 22 (.bin .sub (.t 21) (.c (.int .i64 1))),
oP 23 (.indexAddr none 1 (.t 20) (.t 22)),
oP 24 (.load none (.t 23)),
oP 25 (.iL .eql (.t 19) (.t 24))])
def fP.r7:aj:=(.region none [oM 26 0,
oM 27 3,
oP 28 (.slice 1 (.t 26) (some (.t 27)) none),
oM 4 28])
def fP.r8:aj:=(.region none [oP 5 (.move (.c (.int .i64 1)))])
def fP.r9:aj:=(.region none [oM 29 5,
oM 30 4,
oP 31 (.len (.t 30)),
oP 32 (.bin .lss (.t 29) (.t 31))])
def fP.r11:aj:=(.region (some 10) [oM 35 4,
oM 36 5,
oP 37 (.indexAddr none 1 (.t 35) (.t 36)),
oP 38 (.load none (.t 37)),
oM 39 4,
oM 40 5,
oP 41 (.bin .sub (.t 40) (.c (.int .i64 1))),
oP 42 (.indexAddr none 1 (.t 39) (.t 41)),
oP 43 (.load none (.t 42)),
oP 44 (.iL .neq (.t 38) (.t 43))])
def fP.r12:aj:=(.region none [oM 45 0,
oM 46 3,
oM 47 4,
oM 48 5,
oP 49 (.indexAddr none 1 (.t 47) (.t 48)),
oP 50 (.load none (.t 49)),
oP 51 (.indexAddr none 1 (.t 45) (.t 46)),
⟨none, .store 1 (.t 51) (.t 50),none⟩])
def fP.r13:aj:=(.region none [oM 52 3,
oP 53 (.bin .add (.t 52) (.c (.int .i64 1))),
oM 3 53])
def fP.r10:aj:=(.region none [oM 33 5,
oP 34 (.bin .add (.t 33) (.c (.int .i64 1))),
oM 5 34])
def fP.l0:aj:=(.seq (.seq fP.r9 (.cond (.t 32) .skip (.exit 2))) (.seq (.block 3 (.seq fP.r11 (.cond (.t 44) (.seq fP.r12 fP.r13) .skip))) fP.r10))
def fP.eP:aj:=(.region none [oM 54 0,
oM 55 3,
oP 56 (.slice 1 (.t 54) (some (.t 55)) none),
⟨none, .max [],none⟩])
def fP.gG:aj:=(.region none [oM 57 0,
oM 58 3,
oP 59 (.slice 1 (.t 57) none (some (.t 58))),
oM 2 59])
def fP.r5:aj:=(.region none [oM 14 3,
oP 15 (.bin .add (.t 14) (.c (.int .i64 1))),
oM 3 15])
def fP.l1:aj:=(.seq (.seq fP.r4 (.cond (.t 13) .skip (.exit 0))) (.seq (.block 1 (.seq fP.r6 (.cond (.t 25) (.seq fP.r7 (.seq (.seq fP.r8 (.block 2 (.loop fP.l0))) (.seq fP.eP (.seq fP.gG .ret)))) .skip))) fP.r5))
def fP.r16:aj:=(.region none [oM 60 0,
oM 2 60])
def fP:aZ:=⟨[.tmp 2],(.seq fP.r0 (.seq (.seq fP.r1 (.cond (.t 8) (.seq fP.r2 .ret) .skip)) (.seq (.seq fP.r3 (.block 0 (.loop fP.l1))) (.seq fP.r16 .ret))))⟩
def gQ.r0:aj:=(.region none [oP 4 (.move (.c (.int .i64 0))),
oP 5 (.move (.c (.bool false)))])
def gQ.r1:aj:=(.region none [oM 10 0,
oM 11 1,
oP 12 (.buildSlice 1 2 [.slice none 0 0] [(0,1, .t 10),(1,1, .t 11)]),
oP 13 (.build [.int .i64 0, .int .i64 0] []),
oP 7 (.alloc [.int .i64 0, .int .i64 0]),
oM 6 12,
⟨none, .store 2 (.t 7) (.t 13),none⟩])
def gQ.r2:aj:=(.region none [oP 8 (.move (.c (.int .i64 0)))])
def gQ.r3:aj:=(.region none [oM 14 8,
oP 15 (.bin .lss (.t 14) (.c (.int .i64 2)))])
def gQ.r5:aj:=(.region none [oP 9 (.move (.c (.int .i64 0)))])
def gQ.r6:aj:=(.region none [oM 18 9,
oM 19 6,
oM 20 8,
oP 21 (.indexAddr none 1 (.t 19) (.t 20)),
oP 22 (.load none (.t 21)),
oP 23 (.len (.t 22)),
oP 24 (.bin .lss (.t 18) (.t 23))])
def gQ.r8:aj:=(.region (some 35) [oM 27 6,
oM 28 8,
oP 29 (.indexAddr none 1 (.t 27) (.t 28)),
oP 30 (.load none (.t 29)),
oM 31 9,
oP 32 (.indexAddr none 1 (.t 30) (.t 31)),
oP 33 (.load none (.t 32)),
oP 34 (.call 58 [.t 33,(.c (.int .i64 1)),(.c (.int .i64 16))]),
oP 35 (.not (.t 34)),
oM 36 35,
⟨some 37, .move (.t 9),some (36,false)⟩,
⟨some 38, .bin .gtr (.t 37) (.c (.int .i64 0)),some (36,false)⟩,
⟨some 39, .move (.t 38),some (36,false)⟩,
⟨some 40, .move (.t 6),some (39,true)⟩,
⟨some 41, .move (.t 8),some (39,true)⟩,
⟨some 42, .indexAddr none 1 (.t 40) (.t 41),some (39,true)⟩,
⟨some 43, .load none (.t 42),some (39,true)⟩,
⟨some 44, .move (.t 9),some (39,true)⟩,
⟨some 45, .indexAddr none 1 (.t 43) (.t 44),some (39,true)⟩,
⟨some 46, .load none (.t 45),some (39,true)⟩,
⟨some 47, .move (.t 6),some (39,true)⟩,
⟨some 48, .move (.t 8),some (39,true)⟩,
⟨some 49, .indexAddr none 1 (.t 47) (.t 48),some (39,true)⟩,
⟨some 50, .load none (.t 49),some (39,true)⟩,
⟨some 51, .move (.t 9),some (39,true)⟩,
⟨some 52, .bin .sub (.t 51) (.c (.int .i64 1)),some (39,true)⟩,
⟨some 53, .indexAddr none 1 (.t 50) (.t 52),some (39,true)⟩,
⟨some 54, .load none (.t 53),some (39,true)⟩,
⟨some 55, .bin .gtr (.t 46) (.t 54),some (39,true)⟩,
⟨some 56, .pick (.t 39) (.t 55) (.c (.bool false)),some (36,false)⟩,
oP 57 (.pick (.t 36) (.c (.bool true)) (.t 56)),
oM 58 57,
⟨some 59, .move (.t 9),some (58,false)⟩,
⟨some 60, .bin .geq (.t 59) (.c (.int .i64 16)),some (58,false)⟩,
oP 61 (.pick (.t 58) (.c (.bool true)) (.t 60))])
def gQ.r9:aj:=(.region none [oP 4 (.move (.c (.int .i64 0))),
oP 5 (.move (.c (.bool false)))])
def gQ.r10:aj:=(.region (some 13) [oM 62 8,
oM 63 8,
oP 64 (.indexAddr (some 2) 1 (.t 7) (.t 63)),
oP 65 (.load none (.t 64)),
oM 66 6,
oM 67 8,
oP 68 (.indexAddr none 1 (.t 66) (.t 67)),
oP 69 (.load none (.t 68)),
oM 70 9,
oP 71 (.indexAddr none 1 (.t 69) (.t 70)),
oP 72 (.load none (.t 71)),
oP 73 (.bin .add (.t 65) (.t 72)),
oP 74 (.indexAddr (some 2) 1 (.t 7) (.t 62)),
⟨none, .store 1 (.t 74) (.t 73),none⟩])
def gQ.r7:aj:=(.region none [oM 25 9,
oP 26 (.bin .add (.t 25) (.c (.int .i64 1))),
oM 9 26])
def gQ.l0:aj:=(.seq (.seq gQ.r6 (.cond (.t 24) .skip (.exit 2))) (.seq (.block 3 (.seq (.seq gQ.r8 (.cond (.t 61) (.seq gQ.r9 .ret) .skip)) gQ.r10)) gQ.r7))
def gQ.r4:aj:=(.region none [oM 16 8,
oP 17 (.bin .add (.t 16) (.c (.int .i64 1))),
oM 8 17])
def gQ.l1:aj:=(.seq (.seq gQ.r3 (.cond (.t 15) .skip (.exit 0))) (.seq (.block 1 (.seq gQ.r5 (.block 2 (.loop gQ.l0)))) gQ.r4))
def gQ.r11:aj:=(.region (some 14) [oP 75 (.indexAddr (some 2) 1 (.t 7) (.c (.int .i64 0))),
oP 76 (.load none (.t 75)),
oP 77 (.indexAddr (some 2) 1 (.t 7) (.c (.int .i64 0))),
oP 78 (.load none (.t 77)),
oP 79 (.indexAddr (some 2) 1 (.t 7) (.c (.int .i64 1))),
oP 80 (.load none (.t 79)),
oP 81 (.bin .eql (.t 78) (.t 80)),
oM 82 81,
⟨some 83, .indexAddr (some 2) 1 (.t 7) (.c (.int .i64 0)),some (82,true)⟩,
⟨some 84, .load none (.t 83),some (82,true)⟩,
⟨some 85, .call 58 [.t 84,(.c (.int .i64 1)),(.c (.int .i64 16))],some (82,true)⟩,
oP 86 (.pick (.t 82) (.t 85) (.c (.bool false))),
oM 4 76,
oM 5 86])
def gQ:aZ:=⟨[.tmp 4, .tmp 5],(.seq gQ.r0 (.seq gQ.r1 (.seq (.seq gQ.r2 (.block 0 (.loop gQ.l1))) (.seq gQ.r11 .ret))))⟩
def iI.r0:aj:=(.region none [oP 8 (.move (.c (.slice none 0 0)))])
def iI.r1:aj:=(.region none [oM 9 1,
oP 10 (.bin .eql (.t 9) (.c (.int .i64 0))),
oM 11 10,
⟨some 12, .move (.t 2),some (11,true)⟩,
⟨some 13, .bin .eql (.t 12) (.c (.int .i64 0)),some (11,true)⟩,
oP 14 (.pick (.t 11) (.t 13) (.c (.bool false)))])
def iI.r2:aj:=(.region none [oM 15 3,
oM 16 0,
oP 17 (.buildSlice 1 1 [.string ⟨#[]⟩] [(0,1, .t 16)]),
oP 18 (.append 1 16 (.t 15) (.t 17)),
oM 8 18])
def iI.r3:aj:=(.region none [oM 19 1,
oP 20 (.bin .gtr (.t 19) (.c (.int .i64 0)))])
def iI.r4:aj:=(.region none [oM 21 0,
oP 22 (.iL .add (.t 21) (.c (.string ⟨#[40]⟩))),
oM 23 1,
oP 24 (.bin .sub (.t 23) (.c (.int .i64 1))),
oM 25 2,
oP 26 (.bin .add (.t 25) (.c (.int .i64 1))),
oM 27 3,
oP 28 (.call 343 [.t 22, .t 24, .t 26, .t 27]),
oM 3 28])
def iI.r5:aj:=(.region none [oM 29 2,
oP 30 (.bin .gtr (.t 29) (.c (.int .i64 0)))])
def iI.r6:aj:=(.region none [oM 31 0,
oP 32 (.iL .add (.t 31) (.c (.string ⟨#[41]⟩))),
oM 33 1,
oM 34 2,
oP 35 (.bin .sub (.t 34) (.c (.int .i64 1))),
oM 36 3,
oP 37 (.call 343 [.t 32, .t 33, .t 35, .t 36]),
oM 3 37])
def iI.r7:aj:=(.region none [oM 38 3,
oM 8 38])
def iI:aZ:=⟨[.tmp 8],(.seq iI.r0 (.seq (.seq iI.r1 (.cond (.t 14) (.seq iI.r2 .ret) .skip)) (.seq (.seq iI.r3 (.cond (.t 20) iI.r4 .skip)) (.seq (.seq iI.r5 (.cond (.t 30) iI.r6 .skip)) (.seq iI.r7 .ret)))))⟩
def bU.r0:aj:=(.region none [oP 2 (.alloc ([.int .i64 0]++List.replicate 32 (.int .u8 0)))])
def bU.r1:aj:=(.region none [oP 13 (.buildSlice 1 1 [.int .i64 0] [(0,1,(.c (.int .i64 (-1))))]),
oP 14 (.buildSlice 1 1 [.int .i64 0] [(0,1,(.c (.int .i64 (-1))))]),
oM 3 13,
oM 4 14,
oP 5 (.move (.c (.int .i64 0)))])
def bU.r2:aj:=(.region none [oP 6 (.move (.c (.int .i64 0)))])
def bU.r3:aj:=(.region none [oM 15 0,
oP 16 (.lenStr (.t 15)),
oP 17 (.bin .quo (.t 16) (.c (.int .i64 2))),
oP 18 (.build ([.int .i64 0]++List.replicate 32 (.int .u8 0)) [(0,1, .t 17)]),
oP 7 (.alloc ([.int .i64 0]++List.replicate 32 (.int .u8 0))),
⟨none, .store 33 (.t 7) (.t 18),none⟩])
def bU.r4:aj:=(.region none [oP 8 (.move (.c (.int .i64 0)))])
def bU.r5:aj:=(.region none [oM 19 8,
oM 20 0,
oP 21 (.lenStr (.t 20)),
oP 22 (.bin .lss (.t 19) (.t 21))])
def bU.r7:aj:=(.region none [oM 25 3,
oP 26 (.len (.t 25)),
oP 27 (.bin .sub (.t 26) (.c (.int .i64 1))),
oM 9 27])
def bU.r8:aj:=(.region none [oM 28 0,
oM 29 8,
oP 30 (.indexStr (.t 28) (.t 29)),
oP 31 (.bin .eql (.t 30) (.c (.int .u8 40)))])
def bU.r9:aj:=(.region none [oM 32 5,
oM 10 32])
def bU.r10:aj:=(.region none [oM 33 5,
oP 34 (.bin .add (.t 33) (.c (.int .i64 1))),
oM 5 34])
def bU.r11:aj:=(.region none [oM 35 4,
oM 36 9,
oP 37 (.indexAddr none 1 (.t 35) (.t 36)),
oP 38 (.load none (.t 37)),
oM 11 38])
def bU.r12:aj:=(.region none [oM 39 11,
oP 40 (.bin .lss (.t 39) (.c (.int .i64 0)))])
def bU.r13:aj:=(.region none [oM 41 3,
oM 42 9,
oP 43 (.indexAddr none 1 (.t 41) (.t 42)),
oP 44 (.load none (.t 43)),
oM 11 44])
def bU.eP:aj:=(.region none [oM 45 11,
oP 46 (.bin .lss (.t 45) (.c (.int .i64 0)))])
def bU.gG:aj:=(.region none [oM 47 10,
oM 6 47])
def bU.r16:aj:=(.region none [oM 48 9,
oP 49 (.bin .rem (.t 48) (.c (.int .i64 2))),
oP 50 (.bin .eql (.t 49) (.c (.int .i64 0)))])
def bU.lC:aj:=(.region none [oM 51 11,
oM 52 10,
oP 53 (.conv .u8 (.t 52)),
oP 54 (.fieldAddr 1 (.t 7)),
oP 55 (.indexAddr (some 16) 1 (.t 54) (.t 51)),
⟨none, .store 1 (.t 55) (.t 53),none⟩])
def bU.nN:aj:=(.region none [oM 56 11,
oM 57 10,
oP 58 (.conv .u8 (.t 57)),
oP 59 (.fieldAddr 17 (.t 7)),
oP 60 (.indexAddr (some 16) 1 (.t 59) (.t 56)),
⟨none, .store 1 (.t 60) (.t 58),none⟩])
def bU.nO:aj:=(.region none [oM 61 4,
oM 62 9,
oM 63 10,
oP 64 (.indexAddr none 1 (.t 61) (.t 62)),
⟨none, .store 1 (.t 64) (.t 63),none⟩])
def bU.nP:aj:=(.region none [oM 65 3,
oM 66 10,
oP 67 (.buildSlice 1 1 [.int .i64 0] [(0,1, .t 66)]),
oP 68 (.append 1 8 (.t 65) (.t 67)),
oM 3 68])
def bU.nD:aj:=(.region none [oM 69 4,
oP 70 (.buildSlice 1 1 [.int .i64 0] [(0,1,(.c (.int .i64 (-1))))]),
oP 71 (.append 1 8 (.t 69) (.t 70)),
oM 4 71])
def bU.r22:aj:=(.region none [oM 72 4,
oM 73 9,
oP 74 (.indexAddr none 1 (.t 72) (.t 73)),
oP 75 (.load none (.t 74)),
oM 12 75])
def bU.pV:aj:=(.region none [oM 76 12,
oP 77 (.bin .lss (.t 76) (.c (.int .i64 0)))])
def bU.pW:aj:=(.region none [oM 78 3,
oM 79 9,
oP 80 (.indexAddr none 1 (.t 78) (.t 79)),
oP 81 (.load none (.t 80)),
oM 12 81])
def bU.r25:aj:=(.region none [oM 82 9,
oP 83 (.bin .rem (.t 82) (.c (.int .i64 2))),
oP 84 (.bin .eql (.t 83) (.c (.int .i64 0)))])
def bU.qG:aj:=(.region none [oM 85 12,
oM 86 3,
oM 87 9,
oP 88 (.indexAddr none 1 (.t 86) (.t 87)),
oP 89 (.load none (.t 88)),
oP 90 (.conv .u8 (.t 89)),
oP 91 (.fieldAddr 1 (.t 7)),
oP 92 (.indexAddr (some 16) 1 (.t 91) (.t 85)),
⟨none, .store 1 (.t 92) (.t 90),none⟩])
def bU.r27:aj:=(.region none [oM 93 12,
oM 94 3,
oM 95 9,
oP 96 (.indexAddr none 1 (.t 94) (.t 95)),
oP 97 (.load none (.t 96)),
oP 98 (.conv .u8 (.t 97)),
oP 99 (.fieldAddr 17 (.t 7)),
oP 100 (.indexAddr (some 16) 1 (.t 99) (.t 93)),
⟨none, .store 1 (.t 100) (.t 98),none⟩])
def bU.r28:aj:=(.region none [oM 101 3,
oM 102 9,
oP 103 (.slice 1 (.t 101) none (some (.t 102))),
oM 3 103])
def bU.oV:aj:=(.region none [oM 104 4,
oM 105 9,
oP 106 (.slice 1 (.t 104) none (some (.t 105))),
oM 4 106])
def bU.r6:aj:=(.region none [oM 23 8,
oP 24 (.bin .add (.t 23) (.c (.int .i64 1))),
oM 8 24])
def bU.l0:aj:=(.seq (.seq bU.r5 (.cond (.t 22) .skip (.exit 0))) (.seq (.block 1 (.seq bU.r7 (.seq (.seq bU.r8 (.cond (.t 31) (.seq bU.r9 (.seq bU.r10 (.seq bU.r11 (.seq (.seq bU.r12 (.cond (.t 40) bU.r13 .skip)) (.seq (.seq bU.eP (.cond (.t 46) bU.gG (.seq bU.r16 (.cond (.t 50) bU.lC bU.nN)))) (.seq bU.nO (.seq bU.nP (.seq bU.nD (.exit 1))))))))) .skip)) (.seq bU.r22 (.seq (.seq bU.pV (.cond (.t 77) bU.pW .skip)) (.seq (.seq bU.r25 (.cond (.t 84) bU.qG bU.r27)) (.seq bU.r28 bU.oV))))))) bU.r6))
def bU.pX:aj:=(.region none [oM 107 4,
oP 108 (.indexAddr none 1 (.t 107) (.c (.int .i64 0))),
oP 109 (.load none (.t 108)),
oM 110 6,
oP 111 (.conv .u8 (.t 110)),
oP 112 (.fieldAddr 1 (.t 7)),
oP 113 (.indexAddr (some 16) 1 (.t 112) (.t 109)),
⟨none, .store 1 (.t 113) (.t 111),none⟩])
def bU.tu:aj:=(.region none [oP 114 (.load (some 33) (.t 7)),
⟨none, .store 33 (.t 2) (.t 114),none⟩])
def bU:aZ:=⟨[.cell 2 (some 33)],(.seq bU.r0 (.seq bU.r1 (.seq bU.r2 (.seq bU.r3 (.seq (.seq bU.r4 (.block 0 (.loop bU.l0))) (.seq bU.pX (.seq bU.tu .ret)))))))⟩
def yw.r0:aj:=(.region none [oP 4 (.move (.c (.bool false)))])
def yw.r1:aj:=(.region none [oM 5 0,
oM 6 1,
oP 7 (.call 370 [.t 5, .t 6]),
oP 8 (.bin .eql (.t 7) (.c (.int .i64 0))),
oM 4 8])
def yw:aZ:=⟨[.tmp 4],(.seq yw.r0 (.seq yw.r1 .ret))⟩
def gU.r0:aj:=(.region none [oP 2 (.box (.t 0)),
oP 4 (.move (.c (.slice none 0 0)))])
def gU.r1:aj:=(.region none [oP 11 (.build (List.replicate 17 (.int .i64 0)) []),
oP 12 (.load (some 16) (.t 2)),
oM 13 1,
oP 14 (.call 285 [.t 12, .t 13]),
oP 15 (.buildSlice 1 0 [.int .i64 0] []),
oP 5 (.alloc (List.replicate 17 (.int .i64 0))),
⟨none, .store 17 (.t 5) (.t 11),none⟩,
oM 6 14,
oM 7 15])
def gU.r2:aj:=(.region none [oP 8 (.move (.c (.int .i64 0)))])
def gU.r3:aj:=(.region none [oM 16 8,
oM 17 6,
oP 18 (.len (.t 17)),
oP 19 (.bin .lss (.t 16) (.t 18))])
def gU.r5:aj:=(.region none [oM 22 6,
oM 23 8,
oP 24 (.indexAddr none 1 (.t 22) (.t 23)),
oP 25 (.load none (.t 24)),
oP 26 (.len (.t 25)),
oP 27 (.indexAddr (some 17) 1 (.t 5) (.t 26)),
oP 28 (.load none (.t 27)),
oP 29 (.bin .add (.t 28) (.c (.int .i64 1))),
oP 30 (.indexAddr (some 17) 1 (.t 5) (.t 26)),
⟨none, .store 1 (.t 30) (.t 29),none⟩])
def gU.r4:aj:=(.region none [oM 20 8,
oP 21 (.bin .add (.t 20) (.c (.int .i64 1))),
oM 8 21])
def gU.l0:aj:=(.seq (.seq gU.r3 (.cond (.t 19) .skip (.exit 0))) (.seq (.block 1 gU.r5) gU.r4))
def gU.r6:aj:=(.region none [oM 31 1,
oM 9 31])
def gU.r7:aj:=(.region none [oM 32 9,
oP 33 (.bin .gtr (.t 32) (.c (.int .i64 0)))])
def gU.r9:aj:=(.region none [oM 36 9,
oP 37 (.indexAddr (some 17) 1 (.t 5) (.t 36)),
oP 38 (.load none (.t 37)),
oM 10 38])
def gU.r10:aj:=(.region none [oM 39 10,
oP 40 (.bin .gtr (.t 39) (.c (.int .i64 0)))])
def gU.r12:aj:=(.region none [oM 43 7,
oM 44 9,
oP 45 (.buildSlice 1 1 [.int .i64 0] [(0,1, .t 44)]),
oP 46 (.append 1 8 (.t 43) (.t 45)),
oM 7 46])
def gU.r11:aj:=(.region none [oM 41 10,
oP 42 (.bin .sub (.t 41) (.c (.int .i64 1))),
oM 10 42])
def gU.l1:aj:=(.seq (.seq gU.r10 (.cond (.t 40) .skip (.exit 4))) (.seq (.block 5 gU.r12) gU.r11))
def gU.r8:aj:=(.region none [oM 34 9,
oP 35 (.bin .sub (.t 34) (.c (.int .i64 1))),
oM 9 35])
def gU.l2:aj:=(.seq (.seq gU.r7 (.cond (.t 33) .skip (.exit 2))) (.seq (.block 3 (.seq gU.r9 (.block 4 (.loop gU.l1)))) gU.r8))
def gU.r13:aj:=(.region none [oM 47 7,
oM 4 47])
def gU:aZ:=⟨[.tmp 4],(.seq gU.r0 (.seq gU.r1 (.seq (.seq gU.r2 (.block 0 (.loop gU.l0))) (.seq (.seq gU.r6 (.block 2 (.loop gU.l2))) (.seq gU.r13 .ret)))))⟩
def jv.r0:aj:=(.region none [oP 1 (.box (.t 0)),
oP 2 (.move (.c (.string ⟨#[]⟩))),
oP 3 (.move (.c (.int .i64 0)))])
def jv.r1:aj:=(.region none [oP 8 (.load (some 33) (.t 1)),
oP 9 (.call 272 [.t 8,(.c (.int .i64 0))]),
oM 4 9,
oP 5 (.move (.c (.int .i64 1)))])
def jv.r2:aj:=(.region none [oP 6 (.move (.c (.int .i64 1)))])
def jv.r3:aj:=(.region none [oM 10 6,
oP 11 (.fieldAddr 0 (.t 1)),
oP 12 (.load none (.t 11)),
oP 13 (.bin .lss (.t 10) (.t 12))])
def jv.r5:aj:=(.region none [oP 16 (.load (some 33) (.t 1)),
oM 17 6,
oP 18 (.call 272 [.t 16, .t 17]),
oM 7 18])
def jv.r6:aj:=(.region none [oM 20 7,
oM 21 4,
oP 22 (.iL .eql (.t 20) (.t 21)),
oM 19 22])
def jv.r7:aj:=(.region none [oM 23 5,
oP 24 (.bin .add (.t 23) (.c (.int .i64 1))),
oM 5 24])
def jv.r8:aj:=(.region none [oM 26 7,
oM 27 4,
oP 28 (.iL .lss (.t 26) (.t 27)),
oM 25 28])
def jv.r9:aj:=(.region none [oM 29 7,
oM 4 29])
def jv.r10:aj:=(.region none [oP 5 (.move (.c (.int .i64 1)))])
def jv.r4:aj:=(.region none [oM 14 6,
oP 15 (.bin .add (.t 14) (.c (.int .i64 1))),
oM 6 15])
def jv.l0:aj:=(.seq (.seq jv.r3 (.cond (.t 13) .skip (.exit 0))) (.seq (.block 1 (.seq jv.r5 (.block 2 (.seq jv.r6 (.cond (.t 19) jv.r7 (.seq jv.r8 (.cond (.t 25) (.seq jv.r9 jv.r10) .skip))))))) jv.r4))
def jv.r11:aj:=(.region none [oM 30 4,
oM 31 5,
oM 2 30,
oM 3 31])
def jv:aZ:=⟨[.tmp 2, .tmp 3],(.seq jv.r0 (.seq jv.r1 (.seq (.seq jv.r2 (.block 0 (.loop jv.l0))) (.seq jv.r11 .ret))))⟩
def mO.r0:aj:=(.region none [oP 2 (.move (.c (.int .i64 0)))])
def mO.r1:aj:=(.region none [oP 3 (.move (.c (.int .i64 1)))])
def mO.r2:aj:=(.region none [oP 4 (.move (.c (.int .i64 2)))])
def mO.r3:aj:=(.region none [oM 5 4,
oM 6 0,
oP 7 (.bin .leq (.t 5) (.t 6))])
def mO.r5:aj:=(.region none [oM 10 3,
oM 11 4,
oP 12 (.bin .mul (.t 10) (.t 11)),
oM 3 12])
def mO.r4:aj:=(.region none [oM 8 4,
oP 9 (.bin .add (.t 8) (.c (.int .i64 1))),
oM 4 9])
def mO.l0:aj:=(.seq (.seq mO.r3 (.cond (.t 7) .skip (.exit 0))) (.seq (.block 1 mO.r5) mO.r4))
def mO.r6:aj:=(.region none [oM 13 3,
oM 2 13])
def mO:aZ:=⟨[.tmp 2],(.seq mO.r0 (.seq mO.r1 (.seq (.seq mO.r2 (.block 0 (.loop mO.l0))) (.seq mO.r6 .ret))))⟩
def jE.r0:aj:=(.region none [oP 2 (.move (.c (.int .i64 0)))])
def jE.r1:aj:=(.region none [oP 3 (.move (.c (.int .i64 1))),
oP 4 (.move (.c (.int .i64 0)))])
def jE.r2:aj:=(.region none [oM 7 0,
oP 8 (.len (.t 7)),
oP 9 (.move (.c (.int .i64 0)))])
def jE.r3:aj:=(.region none [oP 10 (.bin .lss (.t 9) (.t 8))])
def jE.r4:aj:=(.region none [oM 11 9,
oP 12 (.indexAddr none 1 (.t 7) (.t 9)),
oP 13 (.load none (.t 12)),
oM 5 11,
oM 6 13])
def jE.r5:aj:=(.region none [oM 14 5,
oP 15 (.bin .gtr (.t 14) (.c (.int .i64 0))),
oM 16 15,
⟨some 17, .move (.t 6),some (16,true)⟩,
⟨some 18, .move (.t 0),some (16,true)⟩,
⟨some 19, .move (.t 5),some (16,true)⟩,
⟨some 20, .bin .sub (.t 19) (.c (.int .i64 1)),some (16,true)⟩,
⟨some 21, .indexAddr none 1 (.t 18) (.t 20),some (16,true)⟩,
⟨some 22, .load none (.t 21),some (16,true)⟩,
⟨some 23, .bin .eql (.t 17) (.t 22),some (16,true)⟩,
oP 24 (.pick (.t 16) (.t 23) (.c (.bool false)))])
def jE.r6:aj:=(.region none [oM 25 4,
oP 26 (.bin .add (.t 25) (.c (.int .i64 1))),
oM 4 26])
def jE.r7:aj:=(.region none [oP 4 (.move (.c (.int .i64 1)))])
def jE.r8:aj:=(.region none [oM 27 3,
oM 28 4,
oP 29 (.bin .mul (.t 27) (.t 28)),
oM 3 29])
def jE.r9:aj:=(.region none [oP 30 (.bin .add (.t 9) (.c (.int .i64 1))),
oM 9 30])
def jE.l0:aj:=(.seq jE.r3 (.seq (.cond (.t 10) .skip (.exit 0)) (.seq (.block 1 (.seq jE.r4 (.seq (.seq jE.r5 (.cond (.t 24) jE.r6 jE.r7)) jE.r8))) jE.r9)))
def jE.r10:aj:=(.region none [oM 31 3,
oM 2 31])
def jE:aZ:=⟨[.tmp 2],(.seq jE.r0 (.seq jE.r1 (.seq (.seq jE.r2 (.block 0 (.loop jE.l0))) (.seq jE.r10 .ret))))⟩
def fJ.r0:aj:=(.region none [oP 2 (.move (.c (.bool false)))])
def fJ.r1:aj:=(.region none [oM 5 0,
oP 6 (.lenStr (.t 5)),
oP 7 (.bin .lss (.t 6) (.c (.int .i64 2))),
oM 8 7,
⟨some 9, .move (.t 0),some (8,false)⟩,
⟨some 10, .lenStr (.t 9),some (8,false)⟩,
⟨some 11, .bin .gtr (.t 10) (.c (.int .i64 32)),some (8,false)⟩,
oP 12 (.pick (.t 8) (.c (.bool true)) (.t 11))])
def fJ.r2:aj:=(.region none [oP 2 (.move (.c (.bool false)))])
def fJ.r3:aj:=(.region none [oP 3 (.move (.c (.int .i64 0)))])
def fJ.r4:aj:=(.region none [oM 13 0,
oP 14 (.lenStr (.t 13)),
oP 15 (.move (.c (.int .i64 0)))])
def fJ.r5:aj:=(.region none [oP 16 (.bin .lss (.t 15) (.t 14))])
def fJ.r6:aj:=(.region none [oM 17 15,
oM 4 17])
def fJ.r7:aj:=(.region none [oM 18 0,
oM 19 4,
oP 20 (.indexStr (.t 18) (.t 19))])
def fJ.r9:aj:=(.region none [oP 22 (.bin .eql (.t 20) (.c (.int .u8 40))),
oM 21 22])
def fJ.r10:aj:=(.region none [oM 23 3,
oP 24 (.bin .add (.t 23) (.c (.int .i64 1))),
oM 3 24])
def fJ.r11:aj:=(.region none [oP 26 (.bin .eql (.t 20) (.c (.int .u8 41))),
oM 25 26])
def fJ.r12:aj:=(.region none [oM 27 3,
oP 28 (.bin .sub (.t 27) (.c (.int .i64 1))),
oM 3 28])
def fJ.r8:aj:=(.region none [oP 2 (.move (.c (.bool false)))])
def fJ.r13:aj:=(.region none [oM 29 3,
oP 30 (.bin .lss (.t 29) (.c (.int .i64 0)))])
def fJ.eP:aj:=(.region none [oP 2 (.move (.c (.bool false)))])
def fJ.gG:aj:=(.region none [oP 31 (.bin .add (.t 15) (.c (.int .i64 1))),
oM 15 31])
def fJ.l0:aj:=(.seq fJ.r5 (.seq (.cond (.t 16) .skip (.exit 0)) (.seq (.block 1 (.seq fJ.r6 (.seq (.seq fJ.r7 (.block 2 (.seq fJ.r9 (.cond (.t 21) fJ.r10 (.seq fJ.r11 (.cond (.t 25) fJ.r12 (.seq fJ.r8 .ret))))))) (.seq fJ.r13 (.cond (.t 30) (.seq fJ.eP .ret) .skip))))) fJ.gG)))
def fJ.r16:aj:=(.region none [oM 32 3,
oP 33 (.bin .eql (.t 32) (.c (.int .i64 0))),
oM 2 33])
def fJ:aZ:=⟨[.tmp 2],(.seq fJ.r0 (.seq (.seq fJ.r1 (.cond (.t 12) (.seq fJ.r2 .ret) .skip)) (.seq fJ.r3 (.seq (.seq fJ.r4 (.block 0 (.loop fJ.l0))) (.seq fJ.r16 .ret)))))⟩
def nC.r0:aj:=(.region none [oP 2 (.box (.t 0)),
oP 4 (.move (.c (.int .i64 0)))])
def nC.r1:aj:=(.region none [oP 6 (.load (some 33) (.t 2)),
oP 7 (.call 187 [.t 6]),
oP 8 (.not (.t 7)),
oM 5 8])
def nC.r2:aj:=(.region none [oP 4 (.move (.c (.int .i64 1)))])
def nC.r3:aj:=(.region none [oP 10 (.load (some 33) (.t 2)),
oM 11 1,
oP 12 (.call 282 [.t 10, .t 11]),
oP 13 (.not (.t 12)),
oM 9 13])
def nC.r4:aj:=(.region none [oP 4 (.move (.c (.int .i64 2)))])
def nC.r5:aj:=(.region none [oP 15 (.load (some 33) (.t 2)),
oP 16 (.call 271 [.t 15]),
oP 17 (.not (.t 16)),
oM 14 17])
def nC.r6:aj:=(.region none [oP 4 (.move (.c (.int .i64 5)))])
def nC.r7:aj:=(.region none [oP 4 (.move (.c (.int .i64 0)))])
def nC:aZ:=⟨[.tmp 4],(.seq nC.r0 (.seq (.block 0 (.seq nC.r1 (.cond (.t 5) (.seq nC.r2 .ret) (.seq nC.r3 (.cond (.t 9) (.seq nC.r4 .ret) (.seq nC.r5 (.cond (.t 14) (.seq nC.r6 .ret) .skip))))))) (.seq nC.r7 .ret)))⟩
def nK.r0:aj:=(.region none [oP 2 (.move (.c (.int .i64 0)))])
def nK.r1:aj:=(.region none [oP 3 (.move (.c (.int .i64 1)))])
def nK.r2:aj:=(.region none [oM 4 0,
oP 5 (.bin .gtr (.t 4) (.c (.int .i64 1)))])
def nK.r4:aj:=(.region none [oM 8 3,
oM 9 0,
oP 10 (.bin .mul (.t 8) (.t 9)),
oM 3 10])
def nK.r3:aj:=(.region none [oM 6 0,
oP 7 (.bin .sub (.t 6) (.c (.int .i64 1))),
oM 0 7])
def nK.l0:aj:=(.seq (.seq nK.r2 (.cond (.t 5) .skip (.exit 0))) (.seq (.block 1 nK.r4) nK.r3))
def nK.r5:aj:=(.region none [oM 11 3,
oM 2 11])
def nK:aZ:=⟨[.tmp 2],(.seq nK.r0 (.seq nK.r1 (.seq (.block 0 (.loop nK.l0)) (.seq nK.r5 .ret))))⟩
def jK.r0:aj:=(.region none [oP 2 (.move (.c (.int .i64 0)))])
def jK.r1:aj:=(.region none [oP 3 (.move (.c (.int .i64 1))),
oP 4 (.move (.c (.int .i64 0)))])
def jK.r2:aj:=(.region none [oP 5 (.move (.c (.int .i64 0)))])
def jK.r3:aj:=(.region none [oM 6 5,
oM 7 0,
oP 8 (.len (.t 7)),
oP 9 (.bin .lss (.t 6) (.t 8))])
def jK.r5:aj:=(.region (some 14) [oM 12 5,
oP 13 (.bin .gtr (.t 12) (.c (.int .i64 0))),
oM 14 13,
⟨some 15, .move (.t 0),some (14,true)⟩,
⟨some 16, .move (.t 5),some (14,true)⟩,
⟨some 17, .indexAddr none 1 (.t 15) (.t 16),some (14,true)⟩,
⟨some 18, .load none (.t 17),some (14,true)⟩,
⟨some 19, .move (.t 0),some (14,true)⟩,
⟨some 20, .move (.t 5),some (14,true)⟩,
⟨some 21, .bin .sub (.t 20) (.c (.int .i64 1)),some (14,true)⟩,
⟨some 22, .indexAddr none 1 (.t 19) (.t 21),some (14,true)⟩,
⟨some 23, .load none (.t 22),some (14,true)⟩,
⟨some 24, .bin .neq (.t 18) (.t 23),some (14,true)⟩,
oP 25 (.pick (.t 14) (.t 24) (.c (.bool false)))])
def jK.r6:aj:=(.region none [oP 4 (.move (.c (.int .i64 0)))])
def jK.r7:aj:=(.region none [oM 26 4,
oP 27 (.bin .add (.t 26) (.c (.int .i64 1))),
oM 4 27])
def jK.r8:aj:=(.region none [oM 28 3,
oM 29 4,
oP 30 (.bin .mul (.t 28) (.t 29)),
oM 3 30])
def jK.r4:aj:=(.region none [oM 10 5,
oP 11 (.bin .add (.t 10) (.c (.int .i64 1))),
oM 5 11])
def jK.l0:aj:=(.seq (.seq jK.r3 (.cond (.t 9) .skip (.exit 0))) (.seq (.block 1 (.seq (.seq jK.r5 (.cond (.t 25) jK.r6 .skip)) (.seq jK.r7 jK.r8))) jK.r4))
def jK.r9:aj:=(.region none [oM 31 3,
oM 2 31])
def jK:aZ:=⟨[.tmp 2],(.seq jK.r0 (.seq jK.r1 (.seq (.seq jK.r2 (.block 0 (.loop jK.l0))) (.seq jK.r9 .ret))))⟩
def oC.r0:aj:=(.region none [oP 2 (.alloc ([.int .i64 0]++List.replicate 32 (.int .u8 0)))])
def oC.r1:aj:=(.region none [oM 4 0,
oP 5 (.call 102 [.t 4,(.c (.int .i64 12))]),
oP 6 (.bin .eql (.t 5) (.c (.int .i64 0)))])
def oC.r2:aj:=(.region none [oM 7 0,
oP 8 (.call 374 [.t 7,(.c (.int .i64 10))]),
⟨none, .store 33 (.t 2) (.t 8),none⟩])
def oC.r3:aj:=(.region none [oM 9 0,
oP 10 (.call 447 [.t 9]),
oP 3 (.alloc ([.int .i64 0]++List.replicate 32 (.int .u8 0))),
⟨none, .store 33 (.t 3) (.t 10),none⟩])
def oC.r4:aj:=(.region none [oP 11 (.load (some 33) (.t 3)),
oP 12 (.call 184 [.t 11]),
oP 13 (.not (.t 12))])
def oC.r5:aj:=(.region none [oP 14 (.call 388 [(.c (.int .i64 4))]),
⟨none, .store 33 (.t 2) (.t 14),none⟩])
def oC.r6:aj:=(.region none [oP 15 (.load (some 33) (.t 3)),
⟨none, .store 33 (.t 2) (.t 15),none⟩])
def oC:aZ:=⟨[.cell 2 (some 33)],(.seq oC.r0 (.seq (.seq oC.r1 (.cond (.t 6) (.seq oC.r2 .ret) .skip)) (.seq oC.r3 (.seq (.seq oC.r4 (.cond (.t 13) (.seq oC.r5 .ret) .skip)) (.seq oC.r6 .ret)))))⟩
def yx.r0:aj:=(.region none [oP 1 (.box (.t 0)),
oP 2 (.move (.c (.bool false)))])
def yx.r1:aj:=(.region none [oP 3 (.fieldAddr 1 (.t 1)),
oP 4 (.load (some 16) (.t 3)),
oP 5 (.fieldAddr 0 (.t 1)),
oP 6 (.load none (.t 5)),
oP 7 (.call 206 [.t 4, .t 6]),
oM 8 7,
⟨some 9, .fieldAddr 17 (.t 1),some (8,true)⟩,
⟨some 10, .load (some 16) (.t 9),some (8,true)⟩,
⟨some 11, .fieldAddr 0 (.t 1),some (8,true)⟩,
⟨some 12, .load none (.t 11),some (8,true)⟩,
⟨some 13, .call 206 [.t 10, .t 12],some (8,true)⟩,
oP 14 (.pick (.t 8) (.t 13) (.c (.bool false))),
oM 15 14,
⟨some 16, .fieldAddr 0 (.t 1),some (15,true)⟩,
⟨some 17, .load none (.t 16),some (15,true)⟩,
⟨some 18, .fieldAddr 1 (.t 1),some (15,true)⟩,
⟨some 19, .load (some 16) (.t 18),some (15,true)⟩,
⟨some 20, .fieldAddr 17 (.t 1),some (15,true)⟩,
⟨some 21, .load (some 16) (.t 20),some (15,true)⟩,
⟨some 22, .call 207 [.t 17, .t 19, .t 21],some (15,true)⟩,
oP 23 (.pick (.t 15) (.t 22) (.c (.bool false))),
oM 2 23])
def yx:aZ:=⟨[.tmp 2],(.seq yx.r0 (.seq yx.r1 .ret))⟩
def lM.r0:aj:=(.region none [oP 4 (.move (.c (.int .i64 0)))])
def lM.r1:aj:=(.region none [oM 6 1,
oP 7 (.bin .lss (.t 6) (.c (.int .i64 1)))])
def lM.r2:aj:=(.region none [oP 4 (.move (.c (.int .i64 0)))])
def lM.r3:aj:=(.region none [oM 8 0,
oM 9 0,
oP 10 (.nilCheck (.t 9)),
oP 11 (.fieldAddr 2 (.t 10)),
oP 12 (.load none (.t 11)),
oP 13 (.bin .mul (.t 12) (.c (.int .u64 6364136223846793005))),
oP 14 (.bin .add (.t 13) (.c (.int .u64 1442695040888963407))),
oP 15 (.nilCheck (.t 8)),
oP 16 (.fieldAddr 2 (.t 15)),
⟨none, .store 1 (.t 16) (.t 14),none⟩])
def lM.r4:aj:=(.region none [oM 17 0,
oP 18 (.nilCheck (.t 17)),
oP 19 (.fieldAddr 2 (.t 18)),
oP 20 (.load none (.t 19)),
oP 21 (.bin .shr (.t 20) (.c (.int .u64 33))),
oP 22 (.bin .and (.t 21) (.c (.int .u64 16777215))),
oP 23 (.conv .i64 (.t 22)),
oM 5 23])
def lM.r5:aj:=(.region (some 10) [oM 24 0,
oP 25 (.nilCheck (.t 24)),
oP 26 (.fieldAddr 1 (.t 25)),
oP 27 (.load none (.t 26)),
oM 28 0,
oP 29 (.nilCheck (.t 28)),
oP 30 (.fieldAddr 0 (.t 29)),
oP 31 (.load none (.t 30)),
oP 32 (.len (.t 31)),
oP 33 (.bin .lss (.t 27) (.t 32))])
def lM.r6:aj:=(.region (some 14) [oM 34 5,
oM 35 0,
oP 36 (.nilCheck (.t 35)),
oP 37 (.fieldAddr 0 (.t 36)),
oP 38 (.load none (.t 37)),
oM 39 0,
oP 40 (.nilCheck (.t 39)),
oP 41 (.fieldAddr 1 (.t 40)),
oP 42 (.load none (.t 41)),
oP 43 (.indexAddr none 1 (.t 38) (.t 42)),
oP 44 (.load none (.t 43)),
oP 45 (.conv .i64 (.t 44)),
oP 46 (.bin .add (.t 34) (.t 45)),
oM 5 46])
def lM.r7:aj:=(.region none [oM 47 0,
oM 48 0,
oP 49 (.nilCheck (.t 48)),
oP 50 (.fieldAddr 1 (.t 49)),
oP 51 (.load none (.t 50)),
oP 52 (.bin .add (.t 51) (.c (.int .i64 1))),
oP 53 (.nilCheck (.t 47)),
oP 54 (.fieldAddr 1 (.t 53)),
⟨none, .store 1 (.t 54) (.t 52),none⟩])
def lM.r8:aj:=(.region none [oM 55 5,
oM 56 1,
oP 57 (.bin .rem (.t 55) (.t 56)),
oM 4 57])
def lM:aZ:=⟨[.tmp 4],(.seq lM.r0 (.seq (.seq lM.r1 (.cond (.t 7) (.seq lM.r2 .ret) .skip)) (.seq lM.r3 (.seq lM.r4 (.seq (.seq lM.r5 (.cond (.t 33) (.seq lM.r6 lM.r7) .skip)) (.seq lM.r8 .ret))))))⟩
def gy.r0:aj:=(.region none [oP 2 (.box (.t 0)),
oP 4 (.move (.c (.slice none 0 0)))])
def gy.r1:aj:=(.region none [oP 10 (.buildSlice 1 0 [.slice none 0 0] []),
oP 11 (.build (List.replicate 16 (.bool false)) []),
oP 6 (.alloc (List.replicate 16 (.bool false))),
oM 5 10,
⟨none, .store 16 (.t 6) (.t 11),none⟩])
def gy.r2:aj:=(.region none [oP 7 (.move (.c (.int .i64 0)))])
def gy.r3:aj:=(.region none [oM 12 7,
oM 13 1,
oP 14 (.bin .lss (.t 12) (.t 13))])
def gy.r5:aj:=(.region none [oP 17 (.buildSlice 1 0 [.int .i64 0] []),
oM 8 17])
def gy.r6:aj:=(.region none [oM 18 7,
oM 9 18])
def gy.r7:aj:=(.region none [oM 19 9,
oP 20 (.indexAddr (some 16) 1 (.t 6) (.t 19)),
oP 21 (.load none (.t 20)),
oP 22 (.not (.t 21))])
def gy.r9:aj:=(.region none [oM 27 9,
oP 28 (.indexAddr (some 16) 1 (.t 6) (.t 27)),
⟨none, .store 1 (.t 28) (.c (.bool true)),none⟩])
def gy.r10:aj:=(.region none [oM 29 8,
oM 30 9,
oP 31 (.buildSlice 1 1 [.int .i64 0] [(0,1, .t 30)]),
oP 32 (.append 1 8 (.t 29) (.t 31)),
oM 8 32])
def gy.r8:aj:=(.region none [oM 23 9,
oP 24 (.indexAddr (some 16) 1 (.t 2) (.t 23)),
oP 25 (.load none (.t 24)),
oP 26 (.conv .i64 (.t 25)),
oM 9 26])
def gy.l0:aj:=(.seq (.seq gy.r7 (.cond (.t 22) .skip (.exit 2))) (.seq (.block 3 (.seq gy.r9 gy.r10)) gy.r8))
def gy.r11:aj:=(.region none [oM 33 8,
oP 34 (.len (.t 33)),
oP 35 (.bin .gtr (.t 34) (.c (.int .i64 0)))])
def gy.r12:aj:=(.region none [oM 36 5,
oM 37 8,
oP 38 (.buildSlice 1 1 [.slice none 0 0] [(0,1, .t 37)]),
oP 39 (.append 1 24 (.t 36) (.t 38)),
oM 5 39])
def gy.r4:aj:=(.region none [oM 15 7,
oP 16 (.bin .add (.t 15) (.c (.int .i64 1))),
oM 7 16])
def gy.l1:aj:=(.seq (.seq gy.r3 (.cond (.t 14) .skip (.exit 0))) (.seq (.block 1 (.seq gy.r5 (.seq (.seq gy.r6 (.block 2 (.loop gy.l0))) (.seq gy.r11 (.cond (.t 35) gy.r12 .skip))))) gy.r4))
def gy.r13:aj:=(.region none [oM 40 5,
oM 4 40])
def gy:aZ:=⟨[.tmp 4],(.seq gy.r0 (.seq gy.r1 (.seq (.seq gy.r2 (.block 0 (.loop gy.l1))) (.seq gy.r13 .ret))))⟩
def vF.r0:aj:=(.region none [oP 1 (.box (.t 0)),
oP 2 (.move (.c (.bool false)))])
def vF.r1:aj:=(.region none [oP 4 (.fieldAddr 0 (.t 1)),
oP 5 (.load none (.t 4)),
oM 3 5])
def vF.r2:aj:=(.region none [oP 6 (.fieldAddr 1 (.t 1)),
oP 7 (.load (some 16) (.t 6)),
oM 8 3,
oP 9 (.call 209 [.t 7, .t 8]),
oM 10 9,
⟨some 11, .fieldAddr 17 (.t 1),some (10,true)⟩,
⟨some 12, .load (some 16) (.t 11),some (10,true)⟩,
⟨some 13, .move (.t 3),some (10,true)⟩,
⟨some 14, .call 209 [.t 12, .t 13],some (10,true)⟩,
oP 15 (.pick (.t 10) (.t 14) (.c (.bool false))),
oM 16 15,
⟨some 17, .move (.t 3),some (16,true)⟩,
⟨some 18, .fieldAddr 1 (.t 1),some (16,true)⟩,
⟨some 19, .load (some 16) (.t 18),some (16,true)⟩,
⟨some 20, .fieldAddr 17 (.t 1),some (16,true)⟩,
⟨some 21, .load (some 16) (.t 20),some (16,true)⟩,
⟨some 22, .buildSlice 16 2 (List.replicate 16 (.int .u8 0)) [(0,16, .t 19),(16,16, .t 21)],some (16,true)⟩,
⟨some 23, .call 210 [.t 17, .t 22],some (16,true)⟩,
⟨some 24, .move (.t 3),some (16,true)⟩,
⟨some 25, .bin .eql (.t 23) (.t 24),some (16,true)⟩,
oP 26 (.pick (.t 16) (.t 25) (.c (.bool false))),
oM 2 26])
def vF:aZ:=⟨[.tmp 2],(.seq vF.r0 (.seq vF.r1 (.seq vF.r2 .ret)))⟩
def fK.r0:aj:=(.region none [oP 2 (.box (.t 0)),
oP 4 (.move (.c (.slice none 0 0)))])
def fK.r1:aj:=(.region none [oP 10 (.buildSlice 1 0 [.slice none 0 0] []),
oM 5 10])
def fK.r2:aj:=(.region none [oP 11 (.build (List.replicate 16 (.bool false)) []),
oP 6 (.alloc (List.replicate 16 (.bool false))),
⟨none, .store 16 (.t 6) (.t 11),none⟩])
def fK.r3:aj:=(.region none [oM 12 1,
oP 13 (.move (.c (.int .i64 0)))])
def fK.r4:aj:=(.region none [oP 14 (.bin .lss (.t 13) (.t 12))])
def fK.r5:aj:=(.region none [oM 15 13,
oM 7 15])
def fK.r6:aj:=(.region none [oM 16 7,
oP 17 (.indexAddr (some 16) 1 (.t 6) (.t 16)),
oP 18 (.load none (.t 17))])
def fK.r7:aj:=(.region none [oP 19 (.buildSlice 1 0 [.int .i64 0] []),
oM 8 19])
def fK.r8:aj:=(.region none [oM 20 7,
oM 9 20])
def fK.r9:aj:=(.region none [oM 21 9,
oP 22 (.indexAddr (some 16) 1 (.t 6) (.t 21)),
oP 23 (.load none (.t 22)),
oP 24 (.not (.t 23))])
def fK.r11:aj:=(.region none [oM 29 9,
oP 30 (.indexAddr (some 16) 1 (.t 6) (.t 29)),
⟨none, .store 1 (.t 30) (.c (.bool true)),none⟩])
def fK.r12:aj:=(.region none [oM 31 8,
oM 32 9,
oP 33 (.buildSlice 1 1 [.int .i64 0] [(0,1, .t 32)]),
oP 34 (.append 1 8 (.t 31) (.t 33)),
oM 8 34])
def fK.r10:aj:=(.region none [oM 25 9,
oP 26 (.indexAddr (some 16) 1 (.t 2) (.t 25)),
oP 27 (.load none (.t 26)),
oP 28 (.conv .i64 (.t 27)),
oM 9 28])
def fK.l0:aj:=(.seq (.seq fK.r9 (.cond (.t 24) .skip (.exit 2))) (.seq (.block 3 (.seq fK.r11 fK.r12)) fK.r10))
def fK.r13:aj:=(.region none [oM 35 5,
oM 36 8,
oP 37 (.buildSlice 1 1 [.slice none 0 0] [(0,1, .t 36)]),
oP 38 (.append 1 24 (.t 35) (.t 37)),
oM 5 38])
def fK.eP:aj:=(.region none [oP 39 (.bin .add (.t 13) (.c (.int .i64 1))),
oM 13 39])
def fK.l1:aj:=(.seq fK.r4 (.seq (.cond (.t 14) .skip (.exit 0)) (.seq (.block 1 (.seq fK.r5 (.seq (.seq fK.r6 (.cond (.t 18) (.exit 1) .skip)) (.seq fK.r7 (.seq (.seq fK.r8 (.block 2 (.loop fK.l0))) fK.r13))))) fK.eP)))
def fK.gG:aj:=(.region none [oM 40 5,
oM 4 40])
def fK:aZ:=⟨[.tmp 4],(.seq fK.r0 (.seq fK.r1 (.seq fK.r2 (.seq (.seq fK.r3 (.block 0 (.loop fK.l1))) (.seq fK.gG .ret)))))⟩
def sV.r0:aj:=(.region none [oP 2 (.move (.c (.slice none 0 0)))])
def sV.r1:aj:=(.region none [oM 3 0,
oP 4 (.eqn false (.t 3))])
def sV.r2:aj:=(.region none [oP 2 (.move (.c (.slice none 0 0)))])
def sV.r3:aj:=(.region none [oP 5 (.buildSlice 1 0 [.int .i64 0] []),
oM 6 0,
oP 7 (.append 1 8 (.t 5) (.t 6)),
oM 2 7])
def sV:aZ:=⟨[.tmp 2],(.seq sV.r0 (.seq (.seq sV.r1 (.cond (.t 4) (.seq sV.r2 .ret) .skip)) (.seq sV.r3 .ret)))⟩
def vG.r0:aj:=(.region none [oP 1 (.box (.t 0)),
oP 2 (.move (.c (.bool false)))])
def vG.r1:aj:=(.region none [oP 4 (.load (some 33) (.t 1)),
oP 5 (.call 280 [.t 4]),
oM 3 5])
def vG.r2:aj:=(.region (some 21) [oM 6 3,
oP 7 (.indexAddr none 1 (.t 6) (.c (.int .i64 2))),
oP 8 (.load none (.t 7)),
oP 9 (.len (.t 8)),
oP 10 (.bin .eql (.t 9) (.c (.int .i64 1))),
oM 11 10,
⟨some 12, .move (.t 3),some (11,true)⟩,
⟨some 13, .indexAddr none 1 (.t 12) (.c (.int .i64 0)),some (11,true)⟩,
⟨some 14, .load none (.t 13),some (11,true)⟩,
⟨some 15, .len (.t 14),some (11,true)⟩,
⟨some 16, .move (.t 3),some (11,true)⟩,
⟨some 17, .indexAddr none 1 (.t 16) (.c (.int .i64 1)),some (11,true)⟩,
⟨some 18, .load none (.t 17),some (11,true)⟩,
⟨some 19, .len (.t 18),some (11,true)⟩,
⟨some 20, .bin .add (.t 15) (.t 19),some (11,true)⟩,
⟨some 21, .fieldAddr 0 (.t 1),some (11,true)⟩,
⟨some 22, .load none (.t 21),some (11,true)⟩,
⟨some 23, .bin .add (.t 22) (.c (.int .i64 1)),some (11,true)⟩,
⟨some 24, .bin .eql (.t 20) (.t 23),some (11,true)⟩,
oP 25 (.pick (.t 11) (.t 24) (.c (.bool false))),
oM 2 25])
def vG:aZ:=⟨[.tmp 2],(.seq vG.r0 (.seq vG.r1 (.seq vG.r2 .ret)))⟩
def gB.r0:aj:=(.region none [oP 1 (.box (.t 0)),
oP 2 (.move (.c (.slice none 0 0))),
oP 3 (.move (.c (.slice none 0 0)))])
def gB.r1:aj:=(.region none [oP 11 (.fieldAddr 1 (.t 1)),
oP 12 (.load (some 16) (.t 11)),
oP 13 (.fieldAddr 0 (.t 1)),
oP 14 (.load none (.t 13)),
oP 15 (.call 223 [.t 12, .t 14]),
oM 4 15])
def gB.r2:aj:=(.region (some 7) [oM 16 4,
oP 17 (.call 362 [.t 16]),
oP 18 (.fieldAddr 17 (.t 1)),
oP 19 (.load (some 16) (.t 18)),
oP 20 (.fieldAddr 0 (.t 1)),
oP 21 (.load none (.t 20)),
oP 22 (.call 223 [.t 19, .t 21]),
oP 23 (.append 1 24 (.t 17) (.t 22)),
oM 5 23])
def gB.r3:aj:=(.region none [oP 24 (.fieldAddr 0 (.t 1)),
oP 25 (.load none (.t 24)),
oP 26 (.makeSlice 2 16 [.int .i64 0, .int .i64 0] (.t 25) (.t 25)),
oM 6 26])
def gB.r4:aj:=(.region none [oM 27 5,
oP 28 (.len (.t 27)),
oP 29 (.move (.c (.int .i64 0)))])
def gB.r5:aj:=(.region none [oP 30 (.bin .lss (.t 29) (.t 28))])
def gB.r6:aj:=(.region none [oM 31 29,
oP 32 (.indexAddr none 1 (.t 27) (.t 29)),
oP 33 (.load none (.t 32)),
oM 7 31,
oM 8 33])
def gB.r7:aj:=(.region none [oM 34 8,
oP 35 (.len (.t 34)),
oP 36 (.move (.c (.int .i64 0)))])
def gB.r8:aj:=(.region none [oP 37 (.bin .lss (.t 36) (.t 35))])
def gB.r9:aj:=(.region none [oP 38 (.indexAddr none 1 (.t 34) (.t 36)),
oP 39 (.load none (.t 38)),
oM 10 39])
def gB.r10:aj:=(.region none [oM 40 7,
oM 41 4,
oP 42 (.len (.t 41)),
oP 43 (.bin .lss (.t 40) (.t 42))])
def gB.r11:aj:=(.region none [oM 44 6,
oM 45 10,
oM 46 7,
oP 47 (.indexAddr none 2 (.t 44) (.t 45)),
oP 48 (.indexAddr (some 2) 1 (.t 47) (.c (.int .i64 0))),
⟨none, .store 1 (.t 48) (.t 46),none⟩])
def gB.r12:aj:=(.region none [oM 49 6,
oM 50 10,
oM 51 7,
oP 52 (.indexAddr none 2 (.t 49) (.t 50)),
oP 53 (.indexAddr (some 2) 1 (.t 52) (.c (.int .i64 1))),
⟨none, .store 1 (.t 53) (.t 51),none⟩])
def gB.r13:aj:=(.region none [oP 54 (.bin .add (.t 36) (.c (.int .i64 1))),
oM 36 54])
def gB.l0:aj:=(.seq gB.r8 (.seq (.cond (.t 37) .skip (.exit 2)) (.seq (.block 3 (.seq gB.r9 (.seq gB.r10 (.cond (.t 43) gB.r11 gB.r12)))) gB.r13)))
def gB.eP:aj:=(.region none [oP 55 (.bin .add (.t 29) (.c (.int .i64 1))),
oM 29 55])
def gB.l1:aj:=(.seq gB.r5 (.seq (.cond (.t 30) .skip (.exit 0)) (.seq (.block 1 (.seq gB.r6 (.seq gB.r7 (.block 2 (.loop gB.l0))))) gB.eP)))
def gB.gG:aj:=(.region none [oM 56 5,
oM 57 6,
oM 2 56,
oM 3 57])
def gB:aZ:=⟨[.tmp 2, .tmp 3],(.seq gB.r0 (.seq gB.r1 (.seq gB.r2 (.seq gB.r3 (.seq (.seq gB.r4 (.block 0 (.loop gB.l1))) (.seq gB.gG .ret))))))⟩
def mP.r0:aj:=(.region none [oP 4 (.move (.c (.bool false)))])
def mP.r1:aj:=(.region none [oP 5 (.move (.c (.int .i64 0)))])
def mP.r2:aj:=(.region none [oM 6 5,
oM 7 0,
oP 8 (.len (.t 7)),
oP 9 (.bin .lss (.t 6) (.t 8))])
def mP.r4:aj:=(.region none [oM 12 0,
oM 13 5,
oP 14 (.indexAddr none 1 (.t 12) (.t 13)),
oP 15 (.load none (.t 14)),
oP 16 (.call 58 [.t 15,(.c (.int .i64 1)),(.c (.int .i64 1000000000))]),
oP 17 (.not (.t 16))])
def mP.r5:aj:=(.region none [oP 4 (.move (.c (.bool false)))])
def mP.r3:aj:=(.region none [oM 10 5,
oP 11 (.bin .add (.t 10) (.c (.int .i64 1))),
oM 5 11])
def mP.l0:aj:=(.seq (.seq mP.r2 (.cond (.t 9) .skip (.exit 0))) (.seq (.block 1 (.seq mP.r4 (.cond (.t 17) (.seq mP.r5 .ret) .skip))) mP.r3))
def mP.r6:aj:=(.region none [oM 18 0,
oP 19 (.len (.t 18)),
oM 20 1,
oP 21 (.bin .eql (.t 19) (.t 20)),
oM 4 21])
def mP:aZ:=⟨[.tmp 4],(.seq mP.r0 (.seq (.seq mP.r1 (.block 0 (.loop mP.l0))) (.seq mP.r6 .ret)))⟩
def vH.r0:aj:=(.region none [oP 1 (.box (.t 0)),
oP 2 (.move (.c (.bool false)))])
def vH.r1:aj:=(.region none [oP 4 (.load (some 33) (.t 1)),
oP 5 (.call 279 [.t 4]),
oM 3 5])
def vH.r2:aj:=(.region (some 21) [oM 6 3,
oP 7 (.indexAddr none 1 (.t 6) (.c (.int .i64 2))),
oP 8 (.load none (.t 7)),
oP 9 (.len (.t 8)),
oP 10 (.bin .eql (.t 9) (.c (.int .i64 1))),
oM 11 10,
⟨some 12, .move (.t 3),some (11,true)⟩,
⟨some 13, .indexAddr none 1 (.t 12) (.c (.int .i64 0)),some (11,true)⟩,
⟨some 14, .load none (.t 13),some (11,true)⟩,
⟨some 15, .len (.t 14),some (11,true)⟩,
⟨some 16, .move (.t 3),some (11,true)⟩,
⟨some 17, .indexAddr none 1 (.t 16) (.c (.int .i64 1)),some (11,true)⟩,
⟨some 18, .load none (.t 17),some (11,true)⟩,
⟨some 19, .len (.t 18),some (11,true)⟩,
⟨some 20, .bin .add (.t 15) (.t 19),some (11,true)⟩,
⟨some 21, .fieldAddr 0 (.t 1),some (11,true)⟩,
⟨some 22, .load none (.t 21),some (11,true)⟩,
⟨some 23, .bin .add (.t 22) (.c (.int .i64 1)),some (11,true)⟩,
⟨some 24, .bin .eql (.t 20) (.t 23),some (11,true)⟩,
oP 25 (.pick (.t 11) (.t 24) (.c (.bool false))),
oM 2 25])
def vH:aZ:=⟨[.tmp 2],(.seq vH.r0 (.seq vH.r1 (.seq vH.r2 .ret)))⟩
def yA.r0:aj:=(.region none [oP 2 (.move (.c (.slice none 0 0)))])
def yA.r1:aj:=(.region none [oP 3 (.buildSlice 1 0 [.int .i64 0] []),
oM 4 0,
oP 5 (.append 1 8 (.t 3) (.t 4)),
oM 2 5])
def yA:aZ:=⟨[.tmp 2],(.seq yA.r0 (.seq yA.r1 .ret))⟩
def iD.r0:aj:=(.region none [oP 2 (.box (.t 0)),
oP 4 (.move (.c (.bool false)))])
def iD.r1:aj:=(.region none [oM 8 1,
oP 9 (.call 220 [.t 8]),
oP 10 (.not (.t 9))])
def iD.r2:aj:=(.region none [oP 4 (.move (.c (.bool false)))])
def iD.r3:aj:=(.region none [oP 11 (.build (List.replicate 16 (.bool false)) []),
oP 5 (.alloc (List.replicate 16 (.bool false))),
⟨none, .store 16 (.t 5) (.t 11),none⟩])
def iD.r4:aj:=(.region none [oP 12 (.load (some 16) (.t 2)),
oP 13 (.move (.c (.int .i64 0)))])
def iD.r5:aj:=(.region none [oP 14 (.bin .lss (.t 13) (.c (.int .i64 16)))])
def iD.r6:aj:=(.region none [oM 15 13,
oP 16 (.index 16 1 none (.t 12) (.t 13)),
oM 6 15,
oM 7 16])
def iD.r7:aj:=(.region none [oM 17 6,
oM 18 1,
oP 19 (.bin .geq (.t 17) (.t 18))])
def iD.r8:aj:=(.region none [oM 20 7,
oP 21 (.bin .neq (.t 20) (.c (.int .u8 0)))])
def iD.r9:aj:=(.region none [oP 4 (.move (.c (.bool false)))])
def iD.r10:aj:=(.region none [oM 22 7,
oP 23 (.conv .i64 (.t 22)),
oM 24 1,
oP 25 (.bin .geq (.t 23) (.t 24)),
oM 26 25,
⟨some 27, .move (.t 7),some (26,false)⟩,
⟨some 28, .indexAddr (some 16) 1 (.t 5) (.t 27),some (26,false)⟩,
⟨some 29, .load none (.t 28),some (26,false)⟩,
oP 30 (.pick (.t 26) (.c (.bool true)) (.t 29))])
def iD.r11:aj:=(.region none [oP 4 (.move (.c (.bool false)))])
def iD.r12:aj:=(.region none [oM 31 7,
oP 32 (.indexAddr (some 16) 1 (.t 5) (.t 31)),
⟨none, .store 1 (.t 32) (.c (.bool true)),none⟩])
def iD.r13:aj:=(.region none [oP 33 (.bin .add (.t 13) (.c (.int .i64 1))),
oM 13 33])
def iD.l0:aj:=(.seq iD.r5 (.seq (.cond (.t 14) .skip (.exit 0)) (.seq (.block 1 (.seq iD.r6 (.seq (.seq iD.r7 (.cond (.t 19) (.seq (.seq iD.r8 (.cond (.t 21) (.seq iD.r9 .ret) .skip)) (.exit 1)) .skip)) (.seq (.seq iD.r10 (.cond (.t 30) (.seq iD.r11 .ret) .skip)) iD.r12)))) iD.r13)))
def iD.eP:aj:=(.region none [oP 4 (.move (.c (.bool true)))])
def iD:aZ:=⟨[.tmp 4],(.seq iD.r0 (.seq (.seq iD.r1 (.cond (.t 10) (.seq iD.r2 .ret) .skip)) (.seq iD.r3 (.seq (.seq iD.r4 (.block 0 (.loop iD.l0))) (.seq iD.eP .ret)))))⟩
def sW.r0:aj:=(.region none [oP 1 (.box (.t 0)),
oP 2 (.move (.c (.slice none 0 0))),
oP 3 (.move (.c (.slice none 0 0)))])
def sW.r1:aj:=(.region none [oP 9 (.load (some 33) (.t 1)),
oP 10 (.call 333 [.t 9]),
oM 8 10,
oP 11 (.extract (.t 8) 0),
oP 12 (.extract (.t 8) 1),
oM 4 11,
oM 5 12])
def sW.r2:aj:=(.region none [oM 14 4,
oM 15 5,
oP 16 (.call 361 [.t 14, .t 15,(.c (.int .i64 0)),(.c (.int .i64 (-1)))]),
oM 13 16,
oP 17 (.extract (.t 13) 0),
oP 18 (.extract (.t 13) 1),
oM 6 17,
oM 7 18])
def sW.r3:aj:=(.region none [oM 19 4,
oM 20 5,
oM 21 7,
oM 22 7,
oP 23 (.len (.t 22)),
oP 24 (.bin .sub (.t 23) (.c (.int .i64 1))),
oP 25 (.indexAddr none 1 (.t 21) (.t 24)),
oP 26 (.load none (.t 25)),
oP 27 (.call 361 [.t 19, .t 20, .t 26,(.c (.int .i64 (-1)))]),
oP 28 (.extract (.t 27) 0),
oP 29 (.extract (.t 27) 1),
oM 2 28,
oM 3 29])
def sW:aZ:=⟨[.tmp 2, .tmp 3],(.seq sW.r0 (.seq sW.r1 (.seq sW.r2 (.seq sW.r3 .ret))))⟩
def pU.r0:aj:=(.region none [oP 1 (.box (.t 0)),
oP 2 (.move (.c (.int .i64 0)))])
def pU.r1:aj:=(.region none [oP 4 (.load (some 33) (.t 1)),
oP 5 (.call 184 [.t 4]),
oP 6 (.not (.t 5)),
oM 3 6])
def pU.r2:aj:=(.region none [oP 2 (.move (.c (.int .i64 1)))])
def pU.r3:aj:=(.region none [oP 8 (.load (some 33) (.t 1)),
oP 9 (.call 270 [.t 8]),
oP 10 (.not (.t 9)),
oM 7 10])
def pU.r4:aj:=(.region none [oP 2 (.move (.c (.int .i64 5)))])
def pU.r5:aj:=(.region none [oP 2 (.move (.c (.int .i64 0)))])
def pU:aZ:=⟨[.tmp 2],(.seq pU.r0 (.seq (.block 0 (.seq pU.r1 (.cond (.t 3) (.seq pU.r2 .ret) (.seq pU.r3 (.cond (.t 7) (.seq pU.r4 .ret) .skip))))) (.seq pU.r5 .ret)))⟩
def qX.r0:aj:=(.region none [oP 1 (.box (.t 0)),
oP 2 (.move (.c (.slice none 0 0))),
oP 3 (.move (.c (.bool false)))])
def qX.r1:aj:=(.region none [oP 7 (.load (some 33) (.t 1)),
oP 8 (.call 360 [.t 7,(.c (.int .i64 0)),(.c (.bool false)),(.c (.bool true))]),
oM 4 8])
def qX.r2:aj:=(.region none [oM 9 4,
oP 10 (.len (.t 9)),
oP 11 (.bin .rem (.t 10) (.c (.int .i64 2))),
oP 12 (.bin .eql (.t 11) (.c (.int .i64 1))),
oM 5 12])
def qX.r3:aj:=(.region none [oM 13 4,
oM 14 4,
oP 15 (.len (.t 14)),
oP 16 (.bin .sub (.t 15) (.c (.int .i64 1))),
oP 17 (.indexAddr none 1 (.t 13) (.t 16)),
oP 18 (.load none (.t 17)),
oM 6 18])
def qX.r4:aj:=(.region none [oP 19 (.load (some 33) (.t 1)),
oM 20 6,
oM 21 5,
oP 22 (.call 360 [.t 19, .t 20, .t 21,(.c (.bool true))]),
oM 23 5,
oM 2 22,
oM 3 23])
def qX:aZ:=⟨[.tmp 2, .tmp 3],(.seq qX.r0 (.seq qX.r1 (.seq qX.r2 (.seq qX.r3 (.seq qX.r4 .ret)))))⟩
def jw.r0:aj:=(.region none [oP 4 (.move (.c (.string ⟨#[]⟩)))])
def jw.r1:aj:=(.region none [oM 8 1,
oP 5 (.move (.c (.string ⟨#[]⟩))),
oM 6 8,
oP 7 (.move (.c (.int .i64 0)))])
def jw.r2:aj:=(.region none [oM 9 6,
oP 10 (.bin .gtr (.t 9) (.c (.int .i64 0))),
oM 11 10,
⟨some 12, .move (.t 7),some (11,false)⟩,
⟨some 13, .bin .gtr (.t 12) (.c (.int .i64 0)),some (11,false)⟩,
oP 14 (.pick (.t 11) (.c (.bool true)) (.t 13))])
def jw.r3:aj:=(.region none [oM 15 6,
oP 16 (.bin .gtr (.t 15) (.c (.int .i64 0))),
oM 17 16,
⟨some 18, .move (.t 7),some (17,true)⟩,
⟨some 19, .bin .eql (.t 18) (.c (.int .i64 0)),some (17,true)⟩,
⟨some 20, .move (.t 19),some (17,true)⟩,
⟨some 21, .move (.t 0),some (20,false)⟩,
⟨some 22, .call 102 [.t 21,(.c (.int .i64 2))],some (20,false)⟩,
⟨some 23, .bin .eql (.t 22) (.c (.int .i64 0)),some (20,false)⟩,
⟨some 24, .pick (.t 20) (.c (.bool true)) (.t 23),some (17,true)⟩,
oP 25 (.pick (.t 17) (.t 24) (.c (.bool false)))])
def jw.r4:aj:=(.region none [oM 26 5,
oP 27 (.iL .add (.t 26) (.c (.string ⟨#[40]⟩))),
oM 5 27])
def jw.r5:aj:=(.region none [oM 28 6,
oP 29 (.bin .sub (.t 28) (.c (.int .i64 1))),
oM 6 29])
def jw.r6:aj:=(.region none [oM 30 7,
oP 31 (.bin .add (.t 30) (.c (.int .i64 1))),
oM 7 31])
def jw.r7:aj:=(.region none [oM 32 5,
oP 33 (.iL .add (.t 32) (.c (.string ⟨#[41]⟩))),
oM 5 33])
def jw.r8:aj:=(.region none [oM 34 7,
oP 35 (.bin .sub (.t 34) (.c (.int .i64 1))),
oM 7 35])
def jw.l0:aj:=(.seq (.seq jw.r2 (.cond (.t 14) .skip (.exit 0))) (.block 1 (.seq jw.r3 (.cond (.t 25) (.seq jw.r4 (.seq jw.r5 jw.r6)) (.seq jw.r7 jw.r8)))))
def jw.r9:aj:=(.region none [oM 36 5,
oM 4 36])
def jw:aZ:=⟨[.tmp 4],(.seq jw.r0 (.seq jw.r1 (.seq (.block 0 (.loop jw.l0)) (.seq jw.r9 .ret))))⟩
def jy.r0:aj:=(.region none [oP 6 (.alloc (List.replicate 16 (.int .u8 0)))])
def jy.r1:aj:=(.region none [oM 12 0,
oM 13 1,
oP 14 (.call 356 [.t 12, .t 13]),
oM 15 1,
oP 16 (.call 364 [.t 15]),
oP 7 (.alloc (List.replicate 16 (.int .u8 0))),
oP 8 (.alloc (List.replicate 16 (.int .u8 0))),
⟨none, .store 16 (.t 7) (.t 14),none⟩,
⟨none, .store 16 (.t 8) (.t 16),none⟩])
def jy.r2:aj:=(.region none [oP 9 (.move (.c (.int .i64 0)))])
def jy.r3:aj:=(.region none [oM 17 9,
oM 18 1,
oP 19 (.bin .lss (.t 17) (.t 18))])
def jy.r4:aj:=(.region none [oM 20 0,
oM 21 2,
oP 22 (.call 102 [.t 20, .t 21]),
oP 23 (.bin .add (.c (.int .i64 1)) (.t 22)),
oM 24 1,
oM 25 9,
oP 26 (.bin .sub (.t 24) (.t 25)),
oP 27 (.min [.t 23, .t 26]),
oM 10 27])
def jy.r5:aj:=(.region none [oP 11 (.move (.c (.int .i64 0)))])
def jy.r6:aj:=(.region none [oM 28 11,
oM 29 10,
oP 30 (.bin .lss (.t 28) (.t 29))])
def jy.r8:aj:=(.region (some 14) [oM 33 9,
oM 34 11,
oP 35 (.bin .add (.t 33) (.t 34)),
oP 36 (.indexAddr (some 16) 1 (.t 7) (.t 35)),
oP 37 (.load none (.t 36)),
oM 38 9,
oM 39 11,
oP 40 (.bin .add (.t 39) (.c (.int .i64 1))),
oM 41 10,
oP 42 (.bin .rem (.t 40) (.t 41)),
oP 43 (.bin .add (.t 38) (.t 42)),
oP 44 (.indexAddr (some 16) 1 (.t 7) (.t 43)),
oP 45 (.load none (.t 44)),
oP 46 (.indexAddr (some 16) 1 (.t 8) (.t 37)),
⟨none, .store 1 (.t 46) (.t 45),none⟩])
def jy.r7:aj:=(.region none [oM 31 11,
oP 32 (.bin .add (.t 31) (.c (.int .i64 1))),
oM 11 32])
def jy.l0:aj:=(.seq (.seq jy.r6 (.cond (.t 30) .skip (.exit 2))) (.seq (.block 3 jy.r8) jy.r7))
def jy.r9:aj:=(.region none [oM 47 9,
oM 48 10,
oP 49 (.bin .add (.t 47) (.t 48)),
oM 9 49])
def jy.l1:aj:=(.seq (.seq jy.r3 (.cond (.t 19) .skip (.exit 0))) (.block 1 (.seq jy.r4 (.seq (.seq jy.r5 (.block 2 (.loop jy.l0))) jy.r9))))
def jy.r10:aj:=(.region none [oP 50 (.load (some 16) (.t 8)),
⟨none, .store 16 (.t 6) (.t 50),none⟩])
def jy:aZ:=⟨[.cell 6 (some 16)],(.seq jy.r0 (.seq jy.r1 (.seq (.seq jy.r2 (.block 0 (.loop jy.l1))) (.seq jy.r10 .ret))))⟩
def je.r0:aj:=(.region none [oP 7 (.load none (.t 0)),
oP 8 (.len (.t 7)),
oP 9 (.bin .sub (.t 8) (.c (.int .i64 1))),
oM 2 9])
def je.r1:aj:=(.region none [oP 10 (.load none (.t 0)),
oM 11 2,
oP 12 (.indexAddr none 1 (.t 10) (.t 11)),
oP 13 (.load none (.t 12)),
oM 3 13])
def je.r2:aj:=(.region none [oP 14 (.fieldAddr 1 (.t 1)),
oM 4 14])
def je.r3:aj:=(.region none [oM 15 2,
oP 16 (.bin .rem (.t 15) (.c (.int .i64 2))),
oP 17 (.bin .eql (.t 16) (.c (.int .i64 1)))])
def je.r4:aj:=(.region none [oP 18 (.fieldAddr 17 (.t 1)),
oM 4 18])
def je.r5:aj:=(.region none [oM 19 3,
oP 20 (.len (.t 19)),
oP 21 (.move (.c (.int .i64 0)))])
def je.r6:aj:=(.region none [oP 22 (.bin .lss (.t 21) (.t 20))])
def je.r7:aj:=(.region none [oM 23 21,
oP 24 (.indexAddr none 1 (.t 19) (.t 21)),
oP 25 (.load none (.t 24)),
oM 5 23,
oM 6 25])
def je.r8:aj:=(.region (some 12) [oM 26 4,
oM 27 6,
oM 28 3,
oM 29 5,
oP 30 (.bin .add (.t 29) (.c (.int .i64 1))),
oM 31 3,
oP 32 (.len (.t 31)),
oP 33 (.bin .rem (.t 30) (.t 32)),
oP 34 (.indexAddr none 1 (.t 28) (.t 33)),
oP 35 (.load none (.t 34)),
oP 36 (.nilCheck (.t 26)),
oP 37 (.indexAddr (some 16) 1 (.t 36) (.t 27)),
⟨none, .store 1 (.t 37) (.t 35),none⟩])
def je.r9:aj:=(.region none [oP 38 (.bin .add (.t 21) (.c (.int .i64 1))),
oM 21 38])
def je.l0:aj:=(.seq je.r6 (.seq (.cond (.t 22) .skip (.exit 0)) (.seq (.block 1 (.seq je.r7 je.r8)) je.r9)))
def je.r10:aj:=(.region none [oP 39 (.load none (.t 0)),
oM 40 2,
oP 41 (.slice 1 (.t 39) none (some (.t 40))),
⟨none, .store 1 (.t 0) (.t 41),none⟩])
def je:aZ:=⟨[],(.seq je.r0 (.seq je.r1 (.seq je.r2 (.seq (.seq je.r3 (.cond (.t 17) je.r4 .skip)) (.seq (.seq je.r5 (.block 0 (.loop je.l0))) je.r10)))))⟩
def lN.r0:aj:=(.region none [oP 2 (.box (.t 0)),
oP 4 (.move (.c (.slice none 0 0)))])
def lN.r1:aj:=(.region none [oP 8 (.buildSlice 1 0 [.int .i64 0] []),
oM 5 8])
def lN.r2:aj:=(.region none [oP 9 (.load (some 16) (.t 2)),
oM 10 1,
oP 11 (.call 223 [.t 9, .t 10]),
oP 12 (.len (.t 11)),
oP 13 (.move (.c (.int .i64 0)))])
def lN.r3:aj:=(.region none [oP 14 (.bin .lss (.t 13) (.t 12))])
def lN.r4:aj:=(.region none [oP 15 (.indexAddr none 1 (.t 11) (.t 13)),
oP 16 (.load none (.t 15)),
oM 7 16])
def lN.r5:aj:=(.region none [oM 17 5,
oM 18 7,
oP 19 (.len (.t 18)),
oP 20 (.buildSlice 1 1 [.int .i64 0] [(0,1, .t 19)]),
oP 21 (.append 1 8 (.t 17) (.t 20)),
oM 5 21])
def lN.r6:aj:=(.region none [oP 22 (.bin .add (.t 13) (.c (.int .i64 1))),
oM 13 22])
def lN.l0:aj:=(.seq lN.r3 (.seq (.cond (.t 14) .skip (.exit 0)) (.seq (.block 1 (.seq lN.r4 lN.r5)) lN.r6)))
def lN.r7:aj:=(.region none [oM 23 5,
oP 24 (.call 219 [.t 23]),
oM 4 24])
def lN:aZ:=⟨[.tmp 4],(.seq lN.r0 (.seq lN.r1 (.seq (.seq lN.r2 (.block 0 (.loop lN.l0))) (.seq lN.r7 .ret))))⟩
def yB.r0:aj:=(.region none [oP 1 (.box (.t 0)),
oP 2 (.alloc (List.replicate 16 (.int .u8 0)))])
def yB.r1:aj:=(.region (some 10) [oP 3 (.fieldAddr 1 (.t 1)),
oP 4 (.load (some 16) (.t 3)),
oP 5 (.fieldAddr 17 (.t 1)),
oP 6 (.load (some 16) (.t 5)),
oP 7 (.fieldAddr 0 (.t 1)),
oP 8 (.load none (.t 7)),
oP 9 (.call 213 [.t 4, .t 6, .t 8]),
oP 10 (.fieldAddr 0 (.t 1)),
oP 11 (.load none (.t 10)),
oP 12 (.call 211 [.t 9, .t 11]),
⟨none, .store 16 (.t 2) (.t 12),none⟩])
def yB:aZ:=⟨[.cell 2 (some 16)],(.seq yB.r0 (.seq yB.r1 .ret))⟩
def yC.r0:aj:=(.region none [oP 2 (.box (.t 0)),
oP 4 (.move (.c (.string ⟨#[]⟩)))])
def yC.r1:aj:=(.region none [oP 5 (.fieldAddr 1 (.t 2)),
oP 6 (.load (some 16) (.t 5)),
oP 7 (.fieldAddr 17 (.t 2)),
oP 8 (.load (some 16) (.t 7)),
oM 9 1,
oP 10 (.call 283 [.t 6, .t 8, .t 9,(.c (.bool true))]),
oM 4 10])
def yC:aZ:=⟨[.tmp 4],(.seq yC.r0 (.seq yC.r1 .ret))⟩
def dD.r0:aj:=(.region none [oP 8 (.move (.c (.bool true)))])
def dD.r1:aj:=(.region none [oP 9 (.move (.c (.bool true)))])
def dD.r2:aj:=(.region none [oM 19 2,
oM 20 1,
oP 21 (.bin .sub (.t 19) (.t 20)),
oM 10 21])
def dD.r3:aj:=(.region none [oM 22 10,
oP 23 (.bin .leq (.t 22) (.c (.int .i64 12)))])
def dD.r4:aj:=(.region none [oM 24 0,
oM 25 1,
oM 26 2,
oP 27 (.call 378 [.t 24, .t 25, .t 26])])
def dD.r5:aj:=(.region none [oM 28 3,
oP 29 (.bin .eql (.t 28) (.c (.int .i64 0)))])
def dD.r6:aj:=(.region none [oM 30 0,
oM 31 1,
oM 32 2,
oP 33 (.call 379 [.t 30, .t 31, .t 32])])
def dD.r7:aj:=(.region none [oM 34 8,
oP 35 (.not (.t 34))])
def dD.r8:aj:=(.region none [oM 36 0,
oM 37 1,
oM 38 2,
oP 39 (.call 380 [.t 36, .t 37, .t 38])])
def dD.r9:aj:=(.region none [oM 40 3,
oP 41 (.bin .sub (.t 40) (.c (.int .i64 1))),
oM 3 41])
def dD.r10:aj:=(.region none [oM 43 0,
oM 44 1,
oM 45 2,
oP 46 (.call 381 [.t 43, .t 44, .t 45]),
oM 42 46,
oP 47 (.extract (.t 42) 0),
oP 48 (.extract (.t 42) 1),
oM 11 47,
oM 12 48])
def dD.r11:aj:=(.region none [oM 49 12,
oP 50 (.bin .eql (.t 49) (.c (.int .i64 2)))])
def dD.r12:aj:=(.region none [oM 51 0,
oM 52 1,
oM 53 2,
oP 54 (.call 382 [.t 51, .t 52, .t 53])])
def dD.r13:aj:=(.region none [oM 55 2,
oP 56 (.bin .sub (.t 55) (.c (.int .i64 1))),
oM 57 11,
oM 58 1,
oP 59 (.bin .sub (.t 57) (.t 58)),
oP 60 (.bin .sub (.t 56) (.t 59)),
oM 11 60])
def dD.eP:aj:=(.region none [oP 12 (.move (.c (.int .i64 1)))])
def dD.gG:aj:=(.region none [oM 61 8,
oM 62 61,
⟨some 63, .move (.t 9),some (62,true)⟩,
oP 64 (.pick (.t 62) (.t 63) (.c (.bool false))),
oM 65 64,
⟨some 66, .move (.t 12),some (65,true)⟩,
⟨some 67, .bin .eql (.t 66) (.c (.int .i64 1)),some (65,true)⟩,
oP 68 (.pick (.t 65) (.t 67) (.c (.bool false)))])
def dD.r16:aj:=(.region none [oM 69 0,
oM 70 1,
oM 71 2,
oP 72 (.call 383 [.t 69, .t 70, .t 71])])
def dD.lC:aj:=(.region (some 15) [oM 73 1,
oP 74 (.bin .gtr (.t 73) (.c (.int .i64 0))),
oM 75 74,
⟨some 76, .move (.t 0),some (75,true)⟩,
⟨some 77, .move (.t 1),some (75,true)⟩,
⟨some 78, .bin .sub (.t 77) (.c (.int .i64 1)),some (75,true)⟩,
⟨some 79, .indexAddr none 1 (.t 76) (.t 78),some (75,true)⟩,
⟨some 80, .load none (.t 79),some (75,true)⟩,
⟨some 81, .move (.t 0),some (75,true)⟩,
⟨some 82, .move (.t 11),some (75,true)⟩,
⟨some 83, .indexAddr none 1 (.t 81) (.t 82),some (75,true)⟩,
⟨some 84, .load none (.t 83),some (75,true)⟩,
⟨some 85, .call 384 [.t 80, .t 84],some (75,true)⟩,
⟨some 86, .not (.t 85),some (75,true)⟩,
oP 87 (.pick (.t 75) (.t 86) (.c (.bool false)))])
def dD.nN:aj:=(.region none [oM 88 0,
oM 89 1,
oM 90 2,
oM 91 11,
oP 92 (.call 385 [.t 88, .t 89, .t 90, .t 91]),
oM 13 92])
def dD.nO:aj:=(.region none [oM 93 13,
oM 1 93])
def dD.nP:aj:=(.region none [oM 95 0,
oM 96 1,
oM 97 2,
oM 98 11,
oP 99 (.call 386 [.t 95, .t 96, .t 97, .t 98]),
oM 94 99,
oP 100 (.extract (.t 94) 0),
oP 101 (.extract (.t 94) 1),
oM 14 100,
oM 15 101])
def dD.nD:aj:=(.region none [oM 102 15,
oM 9 102])
def dD.r22:aj:=(.region none [oM 103 14,
oM 104 1,
oP 105 (.bin .sub (.t 103) (.t 104)),
oM 106 2,
oM 107 14,
oP 108 (.bin .sub (.t 106) (.t 107)),
oM 16 105,
oM 17 108])
def dD.pV:aj:=(.region none [oM 109 10,
oP 110 (.bin .quo (.t 109) (.c (.int .i64 8))),
oM 18 110])
def dD.pW:aj:=(.region none [oM 111 16,
oM 112 17,
oP 113 (.bin .lss (.t 111) (.t 112))])
def dD.r25:aj:=(.region none [oM 114 16,
oM 115 18,
oP 116 (.bin .geq (.t 114) (.t 115)),
oM 8 116])
def dD.qG:aj:=(.region none [oM 117 0,
oM 118 1,
oM 119 14,
oM 120 3,
oP 121 (.call 371 [.t 117, .t 118, .t 119, .t 120])])
def dD.r27:aj:=(.region none [oM 122 14,
oP 123 (.bin .add (.t 122) (.c (.int .i64 1))),
oM 1 123])
def dD.r28:aj:=(.region none [oM 124 17,
oM 125 18,
oP 126 (.bin .geq (.t 124) (.t 125)),
oM 8 126])
def dD.oV:aj:=(.region none [oM 127 0,
oM 128 14,
oP 129 (.bin .add (.t 128) (.c (.int .i64 1))),
oM 130 2,
oM 131 3,
oP 132 (.call 371 [.t 127, .t 129, .t 130, .t 131])])
def dD.pX:aj:=(.region none [oM 133 14,
oM 2 133])
def dD.l0:aj:=(.block 1 (.seq dD.r2 (.seq (.seq dD.r3 (.cond (.t 23) (.seq dD.r4 .ret) .skip)) (.seq (.seq dD.r5 (.cond (.t 29) (.seq dD.r6 .ret) .skip)) (.seq (.seq dD.r7 (.cond (.t 35) (.seq dD.r8 dD.r9) .skip)) (.seq dD.r10 (.seq (.seq dD.r11 (.cond (.t 50) (.seq dD.r12 (.seq dD.r13 dD.eP)) .skip)) (.seq (.seq dD.gG (.cond (.t 68) (.seq dD.r16 (.cond (.t 72) .ret .skip)) .skip)) (.seq (.seq dD.lC (.cond (.t 87) (.seq dD.nN (.seq dD.nO (.exit 1))) .skip)) (.seq dD.nP (.seq dD.nD (.seq dD.r22 (.seq dD.pV (.seq dD.pW (.cond (.t 113) (.seq dD.r25 (.seq dD.qG dD.r27)) (.seq dD.r28 (.seq dD.oV dD.pX)))))))))))))))))
def dD:aZ:=⟨[],(.seq dD.r0 (.seq dD.r1 (.block 0 (.loop dD.l0))))⟩
def vI.r0:aj:=(.region none [oP 2 (.move (.c (.int .i64 0)))])
def vI.r1:aj:=(.region none [oM 3 0,
oP 4 (.conv .u32 (.t 3)),
oP 5 (.call 244 [.t 4]),
oM 2 5])
def vI.r2:aj:=(.region none [oM 6 0,
oP 7 (.call 245 [.t 6]),
oM 2 7])
def vI:aZ:=⟨[.tmp 2],(.seq vI.r0 (.seq (.cond (.c (.bool false)) (.seq vI.r1 .ret) .skip) (.seq vI.r2 .ret)))⟩
def wM.r0:aj:=(.region none [oP 6 (.move (.c (.bool false)))])
def wM.r1:aj:=(.region none [oM 7 0,
oM 8 1,
oP 9 (.bin .geq (.t 7) (.t 8)),
oM 10 9,
⟨some 11, .move (.t 0),some (10,true)⟩,
⟨some 12, .move (.t 2),some (10,true)⟩,
⟨some 13, .bin .leq (.t 11) (.t 12),some (10,true)⟩,
oP 14 (.pick (.t 10) (.t 13) (.c (.bool false))),
oM 6 14])
def wM:aZ:=⟨[.tmp 6],(.seq wM.r0 (.seq wM.r1 .ret))⟩
def jf.r0:aj:=(.region none [oP 4 (.move (.c (.int .i64 0)))])
def jf.r1:aj:=(.region none [oP 5 (.move (.c (.int .i64 0)))])
def jf.r2:aj:=(.region none [oM 6 5,
oM 7 0,
oP 8 (.len (.t 7)),
oP 9 (.bin .lss (.t 6) (.t 8)),
oM 10 9,
⟨some 11, .move (.t 5),some (10,true)⟩,
⟨some 12, .move (.t 1),some (10,true)⟩,
⟨some 13, .len (.t 12),some (10,true)⟩,
⟨some 14, .bin .lss (.t 11) (.t 13),some (10,true)⟩,
oP 15 (.pick (.t 10) (.t 14) (.c (.bool false)))])
def jf.r4:aj:=(.region (some 9) [oM 18 0,
oM 19 5,
oP 20 (.indexAddr none 1 (.t 18) (.t 19)),
oP 21 (.load none (.t 20)),
oM 22 1,
oM 23 5,
oP 24 (.indexAddr none 1 (.t 22) (.t 23)),
oP 25 (.load none (.t 24)),
oP 26 (.bin .lss (.t 21) (.t 25))])
def jf.r5:aj:=(.region none [oP 4 (.move (.c (.int .i64 (-1))))])
def jf.r6:aj:=(.region (some 9) [oM 27 0,
oM 28 5,
oP 29 (.indexAddr none 1 (.t 27) (.t 28)),
oP 30 (.load none (.t 29)),
oM 31 1,
oM 32 5,
oP 33 (.indexAddr none 1 (.t 31) (.t 32)),
oP 34 (.load none (.t 33)),
oP 35 (.bin .gtr (.t 30) (.t 34))])
def jf.r7:aj:=(.region none [oP 4 (.move (.c (.int .i64 1)))])
def jf.r3:aj:=(.region none [oM 16 5,
oP 17 (.bin .add (.t 16) (.c (.int .i64 1))),
oM 5 17])
def jf.l0:aj:=(.seq (.seq jf.r2 (.cond (.t 15) .skip (.exit 0))) (.seq (.block 1 (.seq (.seq jf.r4 (.cond (.t 26) (.seq jf.r5 .ret) .skip)) (.seq jf.r6 (.cond (.t 35) (.seq jf.r7 .ret) .skip)))) jf.r3))
def jf.r8:aj:=(.region none [oM 37 0,
oP 38 (.len (.t 37)),
oM 39 1,
oP 40 (.len (.t 39)),
oP 41 (.bin .lss (.t 38) (.t 40)),
oM 36 41])
def jf.r9:aj:=(.region none [oP 4 (.move (.c (.int .i64 (-1))))])
def jf.r10:aj:=(.region none [oM 43 0,
oP 44 (.len (.t 43)),
oM 45 1,
oP 46 (.len (.t 45)),
oP 47 (.bin .gtr (.t 44) (.t 46)),
oM 42 47])
def jf.r11:aj:=(.region none [oP 4 (.move (.c (.int .i64 1)))])
def jf.r12:aj:=(.region none [oP 4 (.move (.c (.int .i64 0)))])
def jf:aZ:=⟨[.tmp 4],(.seq jf.r0 (.seq (.seq jf.r1 (.block 0 (.loop jf.l0))) (.seq (.block 2 (.seq jf.r8 (.cond (.t 36) (.seq jf.r9 .ret) (.seq jf.r10 (.cond (.t 42) (.seq jf.r11 .ret) .skip))))) (.seq jf.r12 .ret))))⟩
def mQ.r0:aj:=(.region none [oP 2 (.box (.t 0)),
oP 4 (.move (.c (.string ⟨#[]⟩)))])
def mQ.r1:aj:=(.region none [oP 7 (.load (some 33) (.t 2)),
oM 8 1,
oP 9 (.call 281 [.t 7, .t 8,(.c (.bool true))]),
oP 10 (.iL .add (.c (.string ⟨#[40]⟩)) (.t 9)),
oP 11 (.iL .add (.t 10) (.c (.string ⟨#[41]⟩))),
oM 5 11])
def mQ.r2:aj:=(.region none [oM 12 1,
oP 13 (.fieldAddr 1 (.t 2)),
oP 14 (.indexAddr (some 16) 1 (.t 13) (.t 12)),
oP 15 (.load none (.t 14)),
oP 16 (.conv .i64 (.t 15)),
oM 6 16])
def mQ.r3:aj:=(.region none [oM 17 6,
oM 18 1,
oP 19 (.bin .neq (.t 17) (.t 18))])
def mQ.r5:aj:=(.region none [oM 25 5,
oP 26 (.iL .add (.t 25) (.c (.string ⟨#[40]⟩))),
oP 27 (.load (some 33) (.t 2)),
oM 28 6,
oP 29 (.call 281 [.t 27, .t 28,(.c (.bool true))]),
oP 30 (.iL .add (.t 26) (.t 29)),
oP 31 (.iL .add (.t 30) (.c (.string ⟨#[41]⟩))),
oM 5 31])
def mQ.r4:aj:=(.region none [oM 20 6,
oP 21 (.fieldAddr 1 (.t 2)),
oP 22 (.indexAddr (some 16) 1 (.t 21) (.t 20)),
oP 23 (.load none (.t 22)),
oP 24 (.conv .i64 (.t 23)),
oM 6 24])
def mQ.l0:aj:=(.seq (.seq mQ.r3 (.cond (.t 19) .skip (.exit 0))) (.seq (.block 1 mQ.r5) mQ.r4))
def mQ.r6:aj:=(.region none [oM 32 5,
oM 4 32])
def mQ:aZ:=⟨[.tmp 4],(.seq mQ.r0 (.seq mQ.r1 (.seq (.seq mQ.r2 (.block 0 (.loop mQ.l0))) (.seq mQ.r6 .ret))))⟩
def lQ.r0:aj:=(.region none [oP 2 (.box (.t 0)),
oP 4 (.move (.c (.bool false)))])
def lQ.r1:aj:=(.region none [oM 7 1,
oP 8 (.len (.t 7)),
oP 9 (.move (.c (.int .i64 0)))])
def lQ.r2:aj:=(.region none [oP 10 (.bin .lss (.t 9) (.t 8))])
def lQ.r3:aj:=(.region none [oP 11 (.indexAddr none 1 (.t 7) (.t 9)),
oP 12 (.load none (.t 11)),
oM 6 12])
def lQ.r4:aj:=(.region none [oM 13 6,
oP 14 (.bin .lss (.t 13) (.c (.int .i64 0))),
oM 15 14,
⟨some 16, .move (.t 6),some (15,false)⟩,
⟨some 17, .fieldAddr 0 (.t 2),some (15,false)⟩,
⟨some 18, .load none (.t 17),some (15,false)⟩,
⟨some 19, .bin .geq (.t 16) (.t 18),some (15,false)⟩,
oP 20 (.pick (.t 15) (.c (.bool true)) (.t 19))])
def lQ.r5:aj:=(.region none [oP 4 (.move (.c (.bool false)))])
def lQ.r6:aj:=(.region none [oP 21 (.bin .add (.t 9) (.c (.int .i64 1))),
oM 9 21])
def lQ.l0:aj:=(.seq lQ.r2 (.seq (.cond (.t 10) .skip (.exit 0)) (.seq (.block 1 (.seq lQ.r3 (.seq lQ.r4 (.cond (.t 20) (.seq lQ.r5 .ret) .skip)))) lQ.r6)))
def lQ.r7:aj:=(.region none [oP 4 (.move (.c (.bool true)))])
def lQ:aZ:=⟨[.tmp 4],(.seq lQ.r0 (.seq (.seq lQ.r1 (.block 0 (.loop lQ.l0))) (.seq lQ.r7 .ret)))⟩
def jS.r0:aj:=(.region none [oP 4 (.alloc ([.int .i64 0]++List.replicate 32 (.int .u8 0)))])
def jS.r1:aj:=(.region none [oM 6 0,
oM 7 1,
oP 8 (.call 372 [.t 6, .t 7]),
oP 5 (.alloc ([.int .i64 0]++List.replicate 32 (.int .u8 0))),
⟨none, .store 33 (.t 5) (.t 8),none⟩])
def jS.r2:aj:=(.region none [oM 9 0,
oP 10 (.call 102 [.t 9,(.c (.int .i64 40))])])
def jS.r3:aj:=(.region none [oP 12 (.bin .eql (.t 10) (.c (.int .i64 0))),
oM 11 12])
def jS.r4:aj:=(.region none [oP 13 (.fieldAddr 1 (.t 5)),
oP 14 (.indexAddr (some 16) 1 (.t 13) (.c (.int .i64 0))),
oP 15 (.load none (.t 14)),
oP 16 (.bin .add (.t 15) (.c (.int .u8 1))),
oP 17 (.fieldAddr 1 (.t 5)),
oP 18 (.indexAddr (some 16) 1 (.t 17) (.c (.int .i64 0))),
⟨none, .store 1 (.t 18) (.t 16),none⟩])
def jS.r5:aj:=(.region none [oP 20 (.bin .eql (.t 10) (.c (.int .i64 1))),
oM 19 20])
def jS.r6:aj:=(.region none [oM 21 0,
oP 22 (.fieldAddr 0 (.t 5)),
oP 23 (.load none (.t 22)),
oP 24 (.bin .add (.t 23) (.c (.int .i64 1))),
oP 25 (.fieldAddr 0 (.t 5)),
oP 26 (.load none (.t 25)),
oP 27 (.bin .sub (.t 26) (.c (.int .i64 1))),
oP 28 (.buildSlice 1 5 [.int .i64 0] [(0,1,(.c (.int .i64 0))),(1,1,(.c (.int .i64 17))),(2,1,(.c (.int .i64 (-1)))),(3,1, .t 24),(4,1, .t 27)]),
oP 29 (.call 98 [.t 21, .t 28]),
oP 30 (.fieldAddr 0 (.t 5)),
⟨none, .store 1 (.t 30) (.t 29),none⟩])
def jS.r7:aj:=(.region none [oP 32 (.bin .eql (.t 10) (.c (.int .i64 2))),
oM 31 32])
def jS.r8:aj:=(.region none [oP 33 (.fieldAddr 0 (.t 5)),
oP 34 (.load none (.t 33)),
oP 35 (.min [.t 34,(.c (.int .i64 16))]),
oP 36 (.call 364 [.t 35]),
oP 37 (.fieldAddr 17 (.t 5)),
⟨none, .store 16 (.t 37) (.t 36),none⟩])
def jS.r9:aj:=(.region none [oP 39 (.bin .eql (.t 10) (.c (.int .i64 3))),
oM 38 39])
def jS.r10:aj:=(.region none [oM 40 0,
oP 41 (.buildSlice 1 2 [.int .i64 0] [(0,1,(.c (.int .i64 1))),(1,1,(.c (.int .i64 255)))]),
oP 42 (.call 98 [.t 40, .t 41]),
oP 43 (.conv .u8 (.t 42)),
oP 44 (.fieldAddr 17 (.t 5)),
oP 45 (.indexAddr (some 16) 1 (.t 44) (.c (.int .i64 15))),
⟨none, .store 1 (.t 45) (.t 43),none⟩])
def jS.r11:aj:=(.region none [oP 46 (.load (some 33) (.t 5)),
⟨none, .store 33 (.t 4) (.t 46),none⟩])
def jS:aZ:=⟨[.cell 4 (some 33)],(.seq jS.r0 (.seq jS.r1 (.seq (.seq jS.r2 (.block 0 (.seq jS.r3 (.cond (.t 11) jS.r4 (.seq jS.r5 (.cond (.t 19) jS.r6 (.seq jS.r7 (.cond (.t 31) jS.r8 (.seq jS.r9 (.cond (.t 38) jS.r10 .skip)))))))))) (.seq jS.r11 .ret))))⟩
def gW.r0:aj:=(.region none [oP 2 (.alloc ([.int .i64 0]++List.replicate 32 (.int .u8 0)))])
def gW.r1:aj:=(.region none [oM 8 0,
oM 9 0,
oP 10 (.buildSlice 1 3 [.int .i64 0] [(0,1,(.c (.int .i64 5))),(1,1,(.c (.int .i64 9))),(2,1,(.c (.int .i64 16)))]),
oP 11 (.call 98 [.t 9, .t 10]),
oP 12 (.call 102 [.t 8, .t 11]),
oP 13 (.bin .add (.c (.int .i64 1)) (.t 12)),
oM 3 13])
def gW.r2:aj:=(.region none [oM 14 0,
oM 15 3,
oP 16 (.call 446 [.t 14, .t 15]),
oP 17 (.call 267 [.t 16]),
oP 4 (.alloc ([.int .i64 0]++List.replicate 32 (.int .u8 0))),
⟨none, .store 33 (.t 4) (.t 17),none⟩])
def gW.r3:aj:=(.region none [oM 18 0,
oP 19 (.call 102 [.t 18,(.c (.int .i64 4))])])
def gW.r4:aj:=(.region none [oP 21 (.bin .eql (.t 19) (.c (.int .i64 0))),
oM 20 21])
def gW.r5:aj:=(.region (some 3) [oP 22 (.load (some 33) (.t 4)),
oM 23 0,
oM 24 3,
oP 25 (.lV 356 [.t 23, .t 24] [.t 4]),
oP 26 (.call 448 [.t 22, .t 25]),
⟨none, .store 33 (.t 2) (.t 26),none⟩])
def gW.r6:aj:=(.region none [oP 28 (.bin .eql (.t 19) (.c (.int .i64 1))),
oM 27 28])
def gW.r7:aj:=(.region none [oM 29 0,
oP 30 (.call 102 [.t 29,(.c (.int .i64 3))]),
oP 31 (.bin .add (.c (.int .i64 1)) (.t 30)),
oM 5 31])
def gW.r8:aj:=(.region none [oM 32 0,
oM 33 0,
oP 34 (.call 102 [.t 33,(.c (.int .i64 5))]),
oP 35 (.bin .add (.c (.int .i64 1)) (.t 34)),
oP 36 (.call 446 [.t 32, .t 35]),
oM 6 36])
def gW.r9:aj:=(.region none [oM 37 6,
oM 7 37])
def gW.r10:aj:=(.region none [oM 38 5,
oP 39 (.bin .gtr (.t 38) (.c (.int .i64 1)))])
def gW.r12:aj:=(.region none [oM 42 7,
oM 43 6,
oP 44 (.iL .add (.t 42) (.t 43)),
oM 7 44])
def gW.r11:aj:=(.region none [oM 40 5,
oP 41 (.bin .sub (.t 40) (.c (.int .i64 1))),
oM 5 41])
def gW.l0:aj:=(.seq (.seq gW.r10 (.cond (.t 39) .skip (.exit 1))) (.seq (.block 2 gW.r12) gW.r11))
def gW.r13:aj:=(.region none [oM 45 7,
oP 46 (.call 267 [.t 45]),
⟨none, .store 33 (.t 2) (.t 46),none⟩])
def gW.eP:aj:=(.region none [oP 48 (.bin .eql (.t 19) (.c (.int .i64 2))),
oM 47 48])
def gW.gG:aj:=(.region none [oM 49 0,
oM 50 0,
oP 51 (.call 102 [.t 50,(.c (.int .i64 6))]),
oP 52 (.bin .add (.c (.int .i64 1)) (.t 51)),
oP 53 (.call 446 [.t 49, .t 52]),
oP 54 (.iL .add (.c (.string ⟨#[40]⟩)) (.t 53)),
oP 55 (.iL .add (.t 54) (.c (.string ⟨#[41]⟩))),
oP 56 (.call 267 [.t 55]),
oM 57 3,
oP 58 (.call 364 [.t 57]),
oP 59 (.call 448 [.t 56, .t 58]),
⟨none, .store 33 (.t 2) (.t 59),none⟩])
def gW.r16:aj:=(.region none [oP 60 (.load (some 33) (.t 4)),
⟨none, .store 33 (.t 2) (.t 60),none⟩])
def gW:aZ:=⟨[.cell 2 (some 33)],(.seq gW.r0 (.seq gW.r1 (.seq gW.r2 (.seq (.seq gW.r3 (.block 0 (.seq gW.r4 (.cond (.t 20) (.seq gW.r5 .ret) (.seq gW.r6 (.cond (.t 27) (.seq gW.r7 (.seq gW.r8 (.seq gW.r9 (.seq (.block 1 (.loop gW.l0)) (.seq gW.r13 .ret))))) (.seq gW.eP (.cond (.t 47) (.seq gW.gG .ret) .skip)))))))) (.seq gW.r16 .ret)))))⟩
def yD.r0:aj:=(.region none [oP 2 (.alloc ([.int .i64 0]++List.replicate 32 (.int .u8 0)))])
def yD.r1:aj:=(.region none [oM 3 0,
oM 4 0,
oP 5 (.call 396 [.t 4]),
oM 6 0,
oP 7 (.call 364 [.t 6]),
oP 8 (.build ([.int .i64 0]++List.replicate 32 (.int .u8 0)) [(0,1, .t 3),(1,16, .t 5),(17,16, .t 7)]),
⟨none, .store 33 (.t 2) (.t 8),none⟩])
def yD:aZ:=⟨[.cell 2 (some 33)],(.seq yD.r0 (.seq yD.r1 .ret))⟩
def iR.r0:aj:=(.region none [oP 2 (.box (.t 0)),
oP 4 (.move (.c (.bool false)))])
def iR.r1:aj:=(.region none [oM 7 1,
oP 8 (.call 58 [.t 7,(.c (.int .i64 1)),(.c (.int .i64 16))]),
oP 9 (.not (.t 8))])
def iR.r2:aj:=(.region none [oP 4 (.move (.c (.bool false)))])
def iR.r3:aj:=(.region none [oP 10 (.build (List.replicate 16 (.bool false)) []),
oP 5 (.alloc (List.replicate 16 (.bool false))),
⟨none, .store 16 (.t 5) (.t 10),none⟩])
def iR.r4:aj:=(.region none [oP 6 (.move (.c (.int .i64 0)))])
def iR.r5:aj:=(.region none [oM 11 6,
oP 12 (.bin .lss (.t 11) (.c (.int .i64 16)))])
def iR.r8:aj:=(.region none [oM 20 6,
oM 21 1,
oP 22 (.bin .geq (.t 20) (.t 21)),
oM 19 22])
def iR.r9:aj:=(.region none [oM 23 6,
oP 24 (.indexAddr (some 16) 1 (.t 2) (.t 23)),
oP 25 (.load none (.t 24)),
oP 26 (.bin .neq (.t 25) (.c (.int .u8 0)))])
def iR.r10:aj:=(.region none [oP 4 (.move (.c (.bool false)))])
def iR.r11:aj:=(.region none [oM 28 6,
oP 29 (.indexAddr (some 16) 1 (.t 2) (.t 28)),
oP 30 (.load none (.t 29)),
oP 31 (.conv .i64 (.t 30)),
oM 32 1,
oP 33 (.bin .geq (.t 31) (.t 32)),
oM 34 33,
⟨some 35, .move (.t 6),some (34,false)⟩,
⟨some 36, .indexAddr (some 16) 1 (.t 2) (.t 35),some (34,false)⟩,
⟨some 37, .load none (.t 36),some (34,false)⟩,
⟨some 38, .indexAddr (some 16) 1 (.t 5) (.t 37),some (34,false)⟩,
⟨some 39, .load none (.t 38),some (34,false)⟩,
oP 40 (.pick (.t 34) (.c (.bool true)) (.t 39)),
oM 27 40])
def iR.r12:aj:=(.region none [oP 4 (.move (.c (.bool false)))])
def iR.r7:aj:=(.region none [oM 15 6,
oP 16 (.indexAddr (some 16) 1 (.t 2) (.t 15)),
oP 17 (.load none (.t 16)),
oP 18 (.indexAddr (some 16) 1 (.t 5) (.t 17)),
⟨none, .store 1 (.t 18) (.c (.bool true)),none⟩])
def iR.r6:aj:=(.region none [oM 13 6,
oP 14 (.bin .add (.t 13) (.c (.int .i64 1))),
oM 6 14])
def iR.l0:aj:=(.seq (.seq iR.r5 (.cond (.t 12) .skip (.exit 0))) (.seq (.block 1 (.block 2 (.seq iR.r8 (.cond (.t 19) (.seq iR.r9 (.cond (.t 26) (.seq iR.r10 .ret) .skip)) (.seq iR.r11 (.cond (.t 27) (.seq iR.r12 .ret) iR.r7)))))) iR.r6))
def iR.r13:aj:=(.region none [oP 4 (.move (.c (.bool true)))])
def iR:aZ:=⟨[.tmp 4],(.seq iR.r0 (.seq (.seq iR.r1 (.cond (.t 9) (.seq iR.r2 .ret) .skip)) (.seq iR.r3 (.seq (.seq iR.r4 (.block 0 (.loop iR.l0))) (.seq iR.r13 .ret)))))⟩
def iy.r0:aj:=(.region none [oP 4 (.box (.t 1)),
oP 5 (.box (.t 2)),
oP 6 (.move (.c (.bool false)))])
def iy.r1:aj:=(.region none [oP 12 (.build (List.replicate 16 (.bool false)) []),
oP 13 (.buildSlice 1 1 [.int .u8 0] [(0,1,(.c (.int .u8 0)))]),
oP 7 (.alloc (List.replicate 16 (.bool false))),
⟨none, .store 16 (.t 7) (.t 12),none⟩,
oM 8 13])
def iy.r2:aj:=(.region none [oP 14 (.indexAddr (some 16) 1 (.t 7) (.c (.int .i64 0))),
⟨none, .store 1 (.t 14) (.c (.bool true)),none⟩])
def iy.r3:aj:=(.region none [oP 9 (.move (.c (.int .i64 0)))])
def iy.r4:aj:=(.region none [oM 15 9,
oM 16 8,
oP 17 (.len (.t 16)),
oP 18 (.bin .lss (.t 15) (.t 17))])
def iy.r6:aj:=(.region (some 14) [oM 21 8,
oM 22 9,
oP 23 (.indexAddr none 1 (.t 21) (.t 22)),
oP 24 (.load none (.t 23)),
oP 25 (.indexAddr (some 16) 1 (.t 4) (.t 24)),
oP 26 (.load none (.t 25)),
oM 27 8,
oM 28 9,
oP 29 (.indexAddr none 1 (.t 27) (.t 28)),
oP 30 (.load none (.t 29)),
oP 31 (.indexAddr (some 16) 1 (.t 5) (.t 30)),
oP 32 (.load none (.t 31)),
oP 33 (.buildSlice 1 2 [.int .u8 0] [(0,1, .t 26),(1,1, .t 32)]),
oM 10 33])
def iy.r7:aj:=(.region none [oP 11 (.move (.c (.int .i64 0)))])
def iy.r8:aj:=(.region none [oM 34 11,
oP 35 (.bin .lss (.t 34) (.c (.int .i64 2)))])
def iy.r10:aj:=(.region none [oM 38 10,
oM 39 11,
oP 40 (.indexAddr none 1 (.t 38) (.t 39)),
oP 41 (.load none (.t 40)),
oP 42 (.indexAddr (some 16) 1 (.t 7) (.t 41)),
oP 43 (.load none (.t 42)),
oP 44 (.not (.t 43))])
def iy.r11:aj:=(.region none [oM 45 10,
oM 46 11,
oP 47 (.indexAddr none 1 (.t 45) (.t 46)),
oP 48 (.load none (.t 47)),
oP 49 (.indexAddr (some 16) 1 (.t 7) (.t 48)),
⟨none, .store 1 (.t 49) (.c (.bool true)),none⟩])
def iy.r12:aj:=(.region none [oM 50 8,
oM 51 10,
oM 52 11,
oP 53 (.indexAddr none 1 (.t 51) (.t 52)),
oP 54 (.load none (.t 53)),
oP 55 (.buildSlice 1 1 [.int .u8 0] [(0,1, .t 54)]),
oP 56 (.append 1 1 (.t 50) (.t 55)),
oM 8 56])
def iy.r9:aj:=(.region none [oM 36 11,
oP 37 (.bin .add (.t 36) (.c (.int .i64 1))),
oM 11 37])
def iy.l0:aj:=(.seq (.seq iy.r8 (.cond (.t 35) .skip (.exit 2))) (.seq (.block 3 (.seq iy.r10 (.cond (.t 44) (.seq iy.r11 iy.r12) .skip))) iy.r9))
def iy.r5:aj:=(.region none [oM 19 9,
oP 20 (.bin .add (.t 19) (.c (.int .i64 1))),
oM 9 20])
def iy.l1:aj:=(.seq (.seq iy.r4 (.cond (.t 18) .skip (.exit 0))) (.seq (.block 1 (.seq iy.r6 (.seq iy.r7 (.block 2 (.loop iy.l0))))) iy.r5))
def iy.r13:aj:=(.region none [oM 57 8,
oP 58 (.len (.t 57)),
oM 59 0,
oP 60 (.bin .eql (.t 58) (.t 59)),
oM 6 60])
def iy:aZ:=⟨[.tmp 6],(.seq iy.r0 (.seq iy.r1 (.seq iy.r2 (.seq (.seq iy.r3 (.block 0 (.loop iy.l1))) (.seq iy.r13 .ret)))))⟩
def gX.r0:aj:=(.region none [oP 4 (.move (.c (.int .i64 0)))])
def gX.r1:aj:=(.region none [oP 11 (.build (List.replicate 16 (.bool false)) [(0,1,(.c (.bool true)))]),
oP 5 (.alloc (List.replicate 16 (.bool false))),
⟨none, .store 16 (.t 5) (.t 11),none⟩])
def gX.r2:aj:=(.region none [oP 12 (.buildSlice 1 1 [.int .u8 0] [(0,1,(.c (.int .u8 0)))]),
oM 6 12])
def gX.r3:aj:=(.region none [oP 7 (.move (.c (.int .i64 0)))])
def gX.r4:aj:=(.region none [oM 13 7,
oM 14 6,
oP 15 (.len (.t 14)),
oP 16 (.bin .lss (.t 13) (.t 15))])
def gX.r6:aj:=(.region none [oM 19 1,
oP 20 (.len (.t 19)),
oP 21 (.move (.c (.int .i64 0)))])
def gX.r7:aj:=(.region none [oP 22 (.bin .lss (.t 21) (.t 20))])
def gX.r8:aj:=(.region none [oP 23 (.indexAddr none 16 (.t 19) (.t 21)),
oP 24 (.load (some 16) (.t 23)),
oP 9 (.alloc (List.replicate 16 (.int .u8 0))),
⟨none, .store 16 (.t 9) (.t 24),none⟩])
def gX.r9:aj:=(.region none [oM 25 6,
oM 26 7,
oP 27 (.indexAddr none 1 (.t 25) (.t 26)),
oP 28 (.load none (.t 27)),
oP 29 (.indexAddr (some 16) 1 (.t 9) (.t 28)),
oP 30 (.load none (.t 29)),
oM 10 30])
def gX.r10:aj:=(.region none [oM 31 10,
oP 32 (.indexAddr (some 16) 1 (.t 5) (.t 31)),
oP 33 (.load none (.t 32)),
oP 34 (.not (.t 33))])
def gX.r11:aj:=(.region none [oM 35 10,
oP 36 (.indexAddr (some 16) 1 (.t 5) (.t 35)),
⟨none, .store 1 (.t 36) (.c (.bool true)),none⟩])
def gX.r12:aj:=(.region none [oM 37 6,
oM 38 10,
oP 39 (.buildSlice 1 1 [.int .u8 0] [(0,1, .t 38)]),
oP 40 (.append 1 1 (.t 37) (.t 39)),
oM 6 40])
def gX.r13:aj:=(.region none [oP 41 (.bin .add (.t 21) (.c (.int .i64 1))),
oM 21 41])
def gX.l0:aj:=(.seq gX.r7 (.seq (.cond (.t 22) .skip (.exit 2)) (.seq (.block 3 (.seq gX.r8 (.seq gX.r9 (.seq gX.r10 (.cond (.t 34) (.seq gX.r11 gX.r12) .skip))))) gX.r13)))
def gX.r5:aj:=(.region none [oM 17 7,
oP 18 (.bin .add (.t 17) (.c (.int .i64 1))),
oM 7 18])
def gX.l1:aj:=(.seq (.seq gX.r4 (.cond (.t 16) .skip (.exit 0))) (.seq (.block 1 (.seq gX.r6 (.block 2 (.loop gX.l0)))) gX.r5))
def gX.eP:aj:=(.region none [oM 42 6,
oP 43 (.len (.t 42)),
oM 4 43])
def gX:aZ:=⟨[.tmp 4],(.seq gX.r0 (.seq gX.r1 (.seq gX.r2 (.seq (.seq gX.r3 (.block 0 (.loop gX.l1))) (.seq gX.eP .ret)))))⟩
def sZ.r0:aj:=(.region none [oP 2 (.move (.c (.slice none 0 0)))])
def sZ.r1:aj:=(.region none [oM 3 0,
oP 4 (.eqn false (.t 3))])
def sZ.r2:aj:=(.region none [oP 2 (.move (.c (.slice none 0 0)))])
def sZ.r3:aj:=(.region none [oP 5 (.buildSlice 1 0 [.slice none 0 0] []),
oM 6 0,
oP 7 (.append 1 24 (.t 5) (.t 6)),
oM 2 7])
def sZ:aZ:=⟨[.tmp 2],(.seq sZ.r0 (.seq (.seq sZ.r1 (.cond (.t 4) (.seq sZ.r2 .ret) .skip)) (.seq sZ.r3 .ret)))⟩
def yE.r0:aj:=(.region none [oP 1 (.box (.t 0)),
oP 2 (.move (.c (.slice none 0 0)))])
def yE.r1:aj:=(.region (some 17) [oP 3 (.fieldAddr 1 (.t 1)),
oP 4 (.load (some 16) (.t 3)),
oP 5 (.fieldAddr 0 (.t 1)),
oP 6 (.load none (.t 5)),
oP 7 (.call 284 [.t 4, .t 6]),
oP 8 (.fieldAddr 17 (.t 1)),
oP 9 (.load (some 16) (.t 8)),
oP 10 (.fieldAddr 0 (.t 1)),
oP 11 (.load none (.t 10)),
oP 12 (.call 284 [.t 9, .t 11]),
oP 13 (.load (some 33) (.t 1)),
oP 14 (.call 192 [.t 13]),
oP 15 (.fieldAddr 0 (.t 1)),
oP 16 (.load none (.t 15)),
oP 17 (.call 284 [.t 14, .t 16]),
oP 18 (.buildSlice 1 3 [.slice none 0 0] [(0,1, .t 7),(1,1, .t 12),(2,1, .t 17)]),
oM 2 18])
def yE:aZ:=⟨[.tmp 2],(.seq yE.r0 (.seq yE.r1 .ret))⟩
def yF.r0:aj:=(.region none [oP 2 (.move (.c (.bool false)))])
def yF.r1:aj:=(.region none [oM 3 0,
oP 4 (.bin .geq (.t 3) (.c (.int .i64 1))),
oM 5 4,
⟨some 6, .move (.t 0),some (5,true)⟩,
⟨some 7, .bin .leq (.t 6) (.c (.int .i64 16)),some (5,true)⟩,
oP 8 (.pick (.t 5) (.t 7) (.c (.bool false))),
oM 2 8])
def yF:aZ:=⟨[.tmp 2],(.seq yF.r0 (.seq yF.r1 .ret))⟩
def jA.r0:aj:=(.region none [oP 8 (.move (.c (.slice none 0 0))),
oP 9 (.move (.c (.slice none 0 0)))])
def jA.r1:aj:=(.region none [oP 16 (.buildSlice 1 0 [.int .i64 0] []),
oM 17 2,
oP 18 (.buildSlice 1 1 [.int .i64 0] [(0,1, .t 17)]),
oM 10 16,
oM 11 18])
def jA.r2:aj:=(.region none [oM 19 0,
oM 20 2,
oP 21 (.indexAddr none 1 (.t 19) (.t 20)),
oP 22 (.load none (.t 21)),
oP 23 (.len (.t 22)),
oP 24 (.move (.c (.int .i64 0)))])
def jA.r3:aj:=(.region none [oP 25 (.bin .lss (.t 24) (.t 23))])
def jA.r4:aj:=(.region none [oP 26 (.indexAddr none 1 (.t 22) (.t 24)),
oP 27 (.load none (.t 26)),
oM 13 27])
def jA.r5:aj:=(.region none [oM 28 13,
oM 29 3,
oP 30 (.bin .eql (.t 28) (.t 29))])
def jA.r6:aj:=(.region (some 22) [oM 32 0,
oM 33 1,
oM 34 1,
oM 35 13,
oP 36 (.indexAddr none 2 (.t 34) (.t 35)),
oP 37 (.indexAddr (some 2) 1 (.t 36) (.c (.int .i64 0))),
oP 38 (.load none (.t 37)),
oM 39 1,
oM 40 13,
oP 41 (.indexAddr none 2 (.t 39) (.t 40)),
oP 42 (.indexAddr (some 2) 1 (.t 41) (.c (.int .i64 1))),
oP 43 (.load none (.t 42)),
oP 44 (.bin .add (.t 38) (.t 43)),
oM 45 2,
oP 46 (.bin .sub (.t 44) (.t 45)),
oM 47 13,
oP 48 (.call 361 [.t 32, .t 33, .t 46, .t 47]),
oM 31 48,
oP 49 (.extract (.t 31) 0),
oP 50 (.extract (.t 31) 1),
oM 14 49,
oM 15 50])
def jA.r7:aj:=(.region none [oM 51 14,
oP 52 (.len (.t 51)),
oP 53 (.bin .add (.t 52) (.c (.int .i64 1))),
oM 54 10,
oP 55 (.len (.t 54)),
oP 56 (.bin .gtr (.t 53) (.t 55))])
def jA.r8:aj:=(.region none [oM 57 13,
oP 58 (.buildSlice 1 1 [.int .i64 0] [(0,1, .t 57)]),
oM 59 14,
oP 60 (.append 1 8 (.t 58) (.t 59)),
oM 10 60])
def jA.r9:aj:=(.region none [oM 61 2,
oP 62 (.buildSlice 1 1 [.int .i64 0] [(0,1, .t 61)]),
oM 63 15,
oP 64 (.append 1 8 (.t 62) (.t 63)),
oM 11 64])
def jA.r10:aj:=(.region none [oP 65 (.bin .add (.t 24) (.c (.int .i64 1))),
oM 24 65])
def jA.l0:aj:=(.seq jA.r3 (.seq (.cond (.t 25) .skip (.exit 0)) (.seq (.block 1 (.seq jA.r4 (.seq (.seq jA.r5 (.cond (.t 30) (.exit 1) .skip)) (.seq jA.r6 (.seq jA.r7 (.cond (.t 56) (.seq jA.r8 jA.r9) .skip)))))) jA.r10)))
def jA.r11:aj:=(.region none [oM 66 10,
oM 67 11,
oM 8 66,
oM 9 67])
def jA:aZ:=⟨[.tmp 8, .tmp 9],(.seq jA.r0 (.seq jA.r1 (.seq (.seq jA.r2 (.block 0 (.loop jA.l0))) (.seq jA.r11 .ret))))⟩
def dU.r0:aj:=(.region none [oP 4 (.box (.t 0)),
oP 8 (.move (.c (.slice none 0 0)))])
def dU.r1:aj:=(.region none [oP 14 (.fieldAddr 1 (.t 4)),
oP 15 (.load (some 16) (.t 14)),
oP 16 (.buildSlice 1 0 [.int .i64 0] []),
oP 9 (.alloc (List.replicate 16 (.int .u8 0))),
⟨none, .store 16 (.t 9) (.t 15),none⟩,
oM 10 16])
def dU.r2:aj:=(.region none [oM 17 2])
def dU.r3:aj:=(.region none [oP 18 (.fieldAddr 17 (.t 4)),
oP 19 (.load (some 16) (.t 18)),
⟨none, .store 16 (.t 9) (.t 19),none⟩])
def dU.r4:aj:=(.region none [oM 20 1,
oP 21 (.indexAddr (some 16) 1 (.t 9) (.t 20)),
oP 22 (.load none (.t 21)),
oP 23 (.conv .i64 (.t 22)),
oM 11 23])
def dU.r5:aj:=(.region none [oP 12 (.move (.c (.int .i64 0)))])
def dU.r6:aj:=(.region none [oM 24 12,
oP 25 (.fieldAddr 0 (.t 4)),
oP 26 (.load none (.t 25)),
oP 27 (.bin .lss (.t 24) (.t 26))])
def dU.r8:aj:=(.region none [oM 30 11,
oM 31 1,
oP 32 (.bin .eql (.t 30) (.t 31)),
oM 33 32,
⟨some 34, .move (.t 3),some (33,true)⟩,
⟨some 35, .not (.t 34),some (33,true)⟩,
oP 36 (.pick (.t 33) (.t 35) (.c (.bool false)))])
def dU.r9:aj:=(.region none [oM 37 10,
oM 8 37])
def dU.r10:aj:=(.region none [oM 38 11,
oP 39 (.buildSlice 1 1 [.int .i64 0] [(0,1, .t 38)]),
oP 40 (.load (some 33) (.t 4)),
oM 41 11,
oM 42 2,
oP 43 (.not (.t 42)),
oP 44 (.call 360 [.t 40, .t 41, .t 43,(.c (.bool false))]),
oP 45 (.append 1 8 (.t 39) (.t 44)),
oM 13 45])
def dU.r11:aj:=(.region none [oM 46 13,
oP 47 (.len (.t 46)),
oM 48 10,
oP 49 (.len (.t 48)),
oP 50 (.bin .gtr (.t 47) (.t 49))])
def dU.r12:aj:=(.region none [oM 51 13,
oM 10 51])
def dU.r13:aj:=(.region none [oM 52 11,
oM 53 1,
oP 54 (.bin .eql (.t 52) (.t 53))])
def dU.eP:aj:=(.region none [oM 55 10,
oM 8 55])
def dU.gG:aj:=(.region none [oM 56 11,
oP 57 (.indexAddr (some 16) 1 (.t 9) (.t 56)),
oP 58 (.load none (.t 57)),
oP 59 (.conv .i64 (.t 58)),
oM 11 59])
def dU.r7:aj:=(.region none [oM 28 12,
oP 29 (.bin .add (.t 28) (.c (.int .i64 1))),
oM 12 29])
def dU.l0:aj:=(.seq (.seq dU.r6 (.cond (.t 27) .skip (.exit 0))) (.seq (.block 1 (.seq (.seq dU.r8 (.cond (.t 36) (.seq dU.r9 .ret) .skip)) (.seq dU.r10 (.seq (.seq dU.r11 (.cond (.t 50) dU.r12 .skip)) (.seq (.seq dU.r13 (.cond (.t 54) (.seq dU.eP .ret) .skip)) dU.gG))))) dU.r7))
def dU.r16:aj:=(.region none [oM 60 10,
oM 8 60])
def dU:aZ:=⟨[.tmp 8],(.seq dU.r0 (.seq dU.r1 (.seq (.seq dU.r2 (.cond (.t 17) dU.r3 .skip)) (.seq dU.r4 (.seq (.seq dU.r5 (.block 0 (.loop dU.l0))) (.seq dU.r16 .ret))))))⟩
def jF.r0:aj:=(.region none [oP 4 (.alloc (List.replicate 16 (.int .u8 0)))])
def jF.r1:aj:=(.region none [oM 9 1,
oP 10 (.call 364 [.t 9]),
oP 5 (.alloc (List.replicate 16 (.int .u8 0))),
⟨none, .store 16 (.t 5) (.t 10),none⟩])
def jF.r2:aj:=(.region none [oM 11 0,
oP 12 (.call 102 [.t 11,(.c (.int .i64 8))]),
oP 13 (.bin .eql (.t 12) (.c (.int .i64 0)))])
def jF.r3:aj:=(.region none [oP 14 (.load (some 16) (.t 5)),
⟨none, .store 16 (.t 4) (.t 14),none⟩])
def jF.r4:aj:=(.region none [oM 15 1,
oP 16 (.bin .sub (.t 15) (.c (.int .i64 1))),
oM 6 16])
def jF.r5:aj:=(.region none [oM 17 6,
oP 18 (.bin .gtr (.t 17) (.c (.int .i64 0)))])
def jF.r7:aj:=(.region none [oM 21 0,
oM 22 6,
oP 23 (.bin .add (.t 22) (.c (.int .i64 1))),
oP 24 (.call 102 [.t 21, .t 23]),
oM 7 24])
def jF.r8:aj:=(.region none [oM 25 6,
oP 26 (.indexAddr (some 16) 1 (.t 5) (.t 25)),
oP 27 (.load none (.t 26)),
oM 8 27])
def jF.r9:aj:=(.region none [oM 28 6,
oM 29 7,
oP 30 (.indexAddr (some 16) 1 (.t 5) (.t 29)),
oP 31 (.load none (.t 30)),
oP 32 (.indexAddr (some 16) 1 (.t 5) (.t 28)),
⟨none, .store 1 (.t 32) (.t 31),none⟩])
def jF.r10:aj:=(.region none [oM 33 7,
oM 34 8,
oP 35 (.indexAddr (some 16) 1 (.t 5) (.t 33)),
⟨none, .store 1 (.t 35) (.t 34),none⟩])
def jF.r6:aj:=(.region none [oM 19 6,
oP 20 (.bin .sub (.t 19) (.c (.int .i64 1))),
oM 6 20])
def jF.l0:aj:=(.seq (.seq jF.r5 (.cond (.t 18) .skip (.exit 0))) (.seq (.block 1 (.seq jF.r7 (.seq jF.r8 (.seq jF.r9 jF.r10)))) jF.r6))
def jF.r11:aj:=(.region none [oP 36 (.load (some 16) (.t 5)),
⟨none, .store 16 (.t 4) (.t 36),none⟩])
def jF:aZ:=⟨[.cell 4 (some 16)],(.seq jF.r0 (.seq jF.r1 (.seq (.seq jF.r2 (.cond (.t 13) (.seq jF.r3 .ret) .skip)) (.seq (.seq jF.r4 (.block 0 (.loop jF.l0))) (.seq jF.r11 .ret)))))⟩
def mV.r0:aj:=(.region none [oP 2 (.alloc (List.replicate 16 (.int .u8 0)))])
def mV.r1:aj:=(.region none [oP 5 (.build (List.replicate 16 (.int .u8 0)) []),
oP 3 (.alloc (List.replicate 16 (.int .u8 0))),
⟨none, .store 16 (.t 3) (.t 5),none⟩])
def mV.r2:aj:=(.region none [oP 4 (.move (.c (.int .i64 0)))])
def mV.r3:aj:=(.region none [oM 6 4,
oM 7 0,
oP 8 (.bin .lss (.t 6) (.t 7))])
def mV.r5:aj:=(.region none [oM 11 4,
oM 12 4,
oP 13 (.conv .u8 (.t 12)),
oP 14 (.indexAddr (some 16) 1 (.t 3) (.t 11)),
⟨none, .store 1 (.t 14) (.t 13),none⟩])
def mV.r4:aj:=(.region none [oM 9 4,
oP 10 (.bin .add (.t 9) (.c (.int .i64 1))),
oM 4 10])
def mV.l0:aj:=(.seq (.seq mV.r3 (.cond (.t 8) .skip (.exit 0))) (.seq (.block 1 mV.r5) mV.r4))
def mV.r6:aj:=(.region none [oP 15 (.load (some 16) (.t 3)),
⟨none, .store 16 (.t 2) (.t 15),none⟩])
def mV:aZ:=⟨[.cell 2 (some 16)],(.seq mV.r0 (.seq mV.r1 (.seq (.seq mV.r2 (.block 0 (.loop mV.l0))) (.seq mV.r6 .ret))))⟩
def tq.r0:aj:=(.region none [oP 2 (.move (.c (.slice none 0 0)))])
def tq.r1:aj:=(.region none [oM 3 0,
oP 4 (.call 224 [.t 3])])
def tq.r2:aj:=(.region none [oM 5 0,
oP 6 (.call 225 [.t 5])])
def tq.r3:aj:=(.region none [oM 7 0,
oM 2 7])
def tq:aZ:=⟨[.tmp 2],(.seq tq.r0 (.seq tq.r1 (.seq tq.r2 (.seq tq.r3 .ret))))⟩
def lS.r0:aj:=(.region none [oP 2 (.box (.t 0)),
oP 4 (.alloc (List.replicate 16 (.int .u8 0)))])
def lS.r1:aj:=(.region none [oP 7 (.build (List.replicate 16 (.int .u8 0)) []),
oP 5 (.alloc (List.replicate 16 (.int .u8 0))),
⟨none, .store 16 (.t 5) (.t 7),none⟩])
def lS.r2:aj:=(.region none [oM 8 1,
oP 9 (.move (.c (.int .i64 0)))])
def lS.r3:aj:=(.region none [oP 10 (.bin .lss (.t 9) (.t 8))])
def lS.r4:aj:=(.region none [oM 11 9,
oM 6 11])
def lS.r5:aj:=(.region none [oM 12 6,
oP 13 (.indexAddr (some 16) 1 (.t 2) (.t 12)),
oP 14 (.load none (.t 13)),
oM 15 6,
oP 16 (.conv .u8 (.t 15)),
oP 17 (.indexAddr (some 16) 1 (.t 5) (.t 14)),
⟨none, .store 1 (.t 17) (.t 16),none⟩])
def lS.r6:aj:=(.region none [oP 18 (.bin .add (.t 9) (.c (.int .i64 1))),
oM 9 18])
def lS.l0:aj:=(.seq lS.r3 (.seq (.cond (.t 10) .skip (.exit 0)) (.seq (.block 1 (.seq lS.r4 lS.r5)) lS.r6)))
def lS.r7:aj:=(.region none [oP 19 (.load (some 16) (.t 5)),
⟨none, .store 16 (.t 4) (.t 19),none⟩])
def lS:aZ:=⟨[.cell 4 (some 16)],(.seq lS.r0 (.seq lS.r1 (.seq (.seq lS.r2 (.block 0 (.loop lS.l0))) (.seq lS.r7 .ret))))⟩
def lT.r0:aj:=(.region none [oP 3 (.box (.t 0)),
oP 4 (.box (.t 1)),
oP 6 (.alloc (List.replicate 16 (.int .u8 0)))])
def lT.r1:aj:=(.region none [oP 9 (.build (List.replicate 16 (.int .u8 0)) []),
oP 7 (.alloc (List.replicate 16 (.int .u8 0))),
⟨none, .store 16 (.t 7) (.t 9),none⟩])
def lT.r2:aj:=(.region none [oM 10 2,
oP 11 (.move (.c (.int .i64 0)))])
def lT.r3:aj:=(.region none [oP 12 (.bin .lss (.t 11) (.t 10))])
def lT.r4:aj:=(.region none [oM 13 11,
oM 8 13])
def lT.r5:aj:=(.region none [oM 14 8,
oM 15 8,
oP 16 (.indexAddr (some 16) 1 (.t 3) (.t 15)),
oP 17 (.load none (.t 16)),
oP 18 (.indexAddr (some 16) 1 (.t 4) (.t 17)),
oP 19 (.load none (.t 18)),
oP 20 (.indexAddr (some 16) 1 (.t 7) (.t 14)),
⟨none, .store 1 (.t 20) (.t 19),none⟩])
def lT.r6:aj:=(.region none [oP 21 (.bin .add (.t 11) (.c (.int .i64 1))),
oM 11 21])
def lT.l0:aj:=(.seq lT.r3 (.seq (.cond (.t 12) .skip (.exit 0)) (.seq (.block 1 (.seq lT.r4 lT.r5)) lT.r6)))
def lT.r7:aj:=(.region none [oP 22 (.load (some 16) (.t 7)),
⟨none, .store 16 (.t 6) (.t 22),none⟩])
def lT:aZ:=⟨[.cell 6 (some 16)],(.seq lT.r0 (.seq lT.r1 (.seq (.seq lT.r2 (.block 0 (.loop lT.l0))) (.seq lT.r7 .ret))))⟩
def iJ.r0:aj:=(.region none [oP 4 (.box (.t 0)),
oP 5 (.box (.t 1)),
oP 8 (.move (.c (.string ⟨#[]⟩)))])
def iJ.r1:aj:=(.region none [oP 9 (.move (.c (.string ⟨#[]⟩)))])
def iJ.r2:aj:=(.region none [oM 12 2,
oM 10 12])
def iJ.r3:aj:=(.region none [oM 13 3,
oP 14 (.not (.t 13))])
def iJ.r4:aj:=(.region none [oM 15 2,
oP 16 (.indexAddr (some 16) 1 (.t 4) (.t 15)),
oP 17 (.load none (.t 16)),
oP 18 (.conv .i64 (.t 17)),
oM 10 18])
def iJ.r5:aj:=(.region none [oP 11 (.move (.c (.bool true)))])
def iJ.r6:aj:=(.region none [oM 19 11,
oM 20 19,
⟨some 21, .move (.t 3),some (20,true)⟩,
oP 22 (.pick (.t 20) (.t 21) (.c (.bool false))),
oM 23 22,
⟨some 24, .move (.t 10),some (23,false)⟩,
⟨some 25, .move (.t 2),some (23,false)⟩,
⟨some 26, .bin .neq (.t 24) (.t 25),some (23,false)⟩,
oP 27 (.pick (.t 23) (.c (.bool true)) (.t 26))])
def iJ.r8:aj:=(.region none [oM 28 9,
oP 29 (.load (some 16) (.t 5)),
oP 30 (.load (some 16) (.t 4)),
oM 31 10,
oP 32 (.call 283 [.t 29, .t 30, .t 31,(.c (.bool false))]),
oP 33 (.iL .add (.c (.string ⟨#[40]⟩)) (.t 32)),
oP 34 (.iL .add (.t 33) (.c (.string ⟨#[41]⟩))),
oP 35 (.iL .add (.t 28) (.t 34)),
oM 9 35])
def iJ.r9:aj:=(.region none [oM 36 10,
oP 37 (.indexAddr (some 16) 1 (.t 4) (.t 36)),
oP 38 (.load none (.t 37)),
oP 39 (.conv .i64 (.t 38)),
oM 10 39])
def iJ.r7:aj:=(.region none [oP 11 (.move (.c (.bool false)))])
def iJ.l0:aj:=(.seq (.seq iJ.r6 (.cond (.t 27) .skip (.exit 0))) (.seq (.block 1 (.seq iJ.r8 iJ.r9)) iJ.r7))
def iJ.r10:aj:=(.region none [oM 40 9,
oM 8 40])
def iJ:aZ:=⟨[.tmp 8],(.seq iJ.r0 (.seq iJ.r1 (.seq iJ.r2 (.seq (.seq iJ.r3 (.cond (.t 14) iJ.r4 .skip)) (.seq (.seq iJ.r5 (.block 0 (.loop iJ.l0))) (.seq iJ.r10 .ret))))))⟩
def lu.r0:aj:=(.region none [oM 8 1,
oP 9 (.bin .add (.t 8) (.c (.int .i64 1))),
oM 6 9])
def lu.r1:aj:=(.region none [oM 10 6,
oM 11 2,
oP 12 (.bin .lss (.t 10) (.t 11))])
def lu.r3:aj:=(.region none [oM 15 6,
oM 7 15])
def lu.r4:aj:=(.region (some 15) [oM 16 7,
oM 17 1,
oP 18 (.bin .gtr (.t 16) (.t 17)),
oM 19 18,
⟨some 20, .move (.t 0),some (19,true)⟩,
⟨some 21, .move (.t 7),some (19,true)⟩,
⟨some 22, .indexAddr none 1 (.t 20) (.t 21),some (19,true)⟩,
⟨some 23, .load none (.t 22),some (19,true)⟩,
⟨some 24, .move (.t 0),some (19,true)⟩,
⟨some 25, .move (.t 7),some (19,true)⟩,
⟨some 26, .bin .sub (.t 25) (.c (.int .i64 1)),some (19,true)⟩,
⟨some 27, .indexAddr none 1 (.t 24) (.t 26),some (19,true)⟩,
⟨some 28, .load none (.t 27),some (19,true)⟩,
⟨some 29, .call 384 [.t 23, .t 28],some (19,true)⟩,
oP 30 (.pick (.t 19) (.t 29) (.c (.bool false)))])
def lu.r6:aj:=(.region (some 15) [oM 33 0,
oM 34 7,
oM 35 0,
oM 36 7,
oP 37 (.bin .sub (.t 36) (.c (.int .i64 1))),
oM 38 0,
oM 39 7,
oP 40 (.bin .sub (.t 39) (.c (.int .i64 1))),
oP 41 (.indexAddr none 1 (.t 38) (.t 40)),
oP 42 (.load none (.t 41)),
oM 43 0,
oM 44 7,
oP 45 (.indexAddr none 1 (.t 43) (.t 44)),
oP 46 (.load none (.t 45)),
oP 47 (.indexAddr none 1 (.t 33) (.t 34)),
⟨none, .iw 1 (.t 47) (.t 42) [],none⟩,
oP 48 (.indexAddr none 1 (.t 35) (.t 37)),
⟨none, .store 1 (.t 48) (.t 46),none⟩])
def lu.r5:aj:=(.region none [oM 31 7,
oP 32 (.bin .sub (.t 31) (.c (.int .i64 1))),
oM 7 32])
def lu.l0:aj:=(.seq (.seq lu.r4 (.cond (.t 30) .skip (.exit 2))) (.seq (.block 3 lu.r6) lu.r5))
def lu.r2:aj:=(.region none [oM 13 6,
oP 14 (.bin .add (.t 13) (.c (.int .i64 1))),
oM 6 14])
def lu.l1:aj:=(.seq (.seq lu.r1 (.cond (.t 12) .skip (.exit 0))) (.seq (.block 1 (.seq lu.r3 (.block 2 (.loop lu.l0)))) lu.r2))
def lu:aZ:=⟨[],(.seq lu.r0 (.block 0 (.loop lu.l1)))⟩
def yG.r0:aj:=(.region none [oP 4 (.move (.c (.bool false)))])
def yG.r1:aj:=(.region none [oM 5 0,
oP 6 (.call 395 [.t 5]),
oM 7 6,
⟨some 8, .move (.t 1),some (7,true)⟩,
⟨some 9, .call 395 [.t 8],some (7,true)⟩,
⟨some 10, .not (.t 9),some (7,true)⟩,
oP 11 (.pick (.t 7) (.t 10) (.c (.bool false))),
oM 12 11,
⟨some 13, .move (.t 0),some (12,false)⟩,
⟨some 14, .move (.t 1),some (12,false)⟩,
⟨some 15, .iL .lss (.t 13) (.t 14),some (12,false)⟩,
oP 16 (.pick (.t 12) (.c (.bool true)) (.t 15)),
oM 4 16])
def yG:aZ:=⟨[.tmp 4],(.seq yG.r0 (.seq yG.r1 .ret))⟩
def kR.r0:aj:=(.region none [oP 2 (.move (.c (.int .i64 0)))])
def kR.r1:aj:=(.region none [oM 3 0,
oP 4 (.bin .geq (.t 3) (.c (.int .u64 4294967296)))])
def kR.r2:aj:=(.region none [oM 5 0,
oP 6 (.bin .shr (.t 5) (.c (.int .u64 32))),
oM 0 6])
def kR.r3:aj:=(.region none [oP 2 (.move (.c (.int .i64 32)))])
def kR.r4:aj:=(.region none [oM 7 0,
oP 8 (.bin .geq (.t 7) (.c (.int .u64 65536)))])
def kR.r5:aj:=(.region none [oM 9 0,
oP 10 (.bin .shr (.t 9) (.c (.int .u64 16))),
oM 0 10])
def kR.r6:aj:=(.region none [oM 11 2,
oP 12 (.bin .add (.t 11) (.c (.int .i64 16))),
oM 2 12])
def kR.r7:aj:=(.region none [oM 13 0,
oP 14 (.bin .geq (.t 13) (.c (.int .u64 256)))])
def kR.r8:aj:=(.region none [oM 15 0,
oP 16 (.bin .shr (.t 15) (.c (.int .u64 8))),
oM 0 16])
def kR.r9:aj:=(.region none [oM 17 2,
oP 18 (.bin .add (.t 17) (.c (.int .i64 8))),
oM 2 18])
def kR.r10:aj:=(.region none [oM 19 2,
oM 20 0,
oP 21 (.conv .u8 (.t 20)),
oP 22 (.indexStr (.c (.string ⟨#[0,1,2,2,3,3,3,3,4,4,4,4,4,4,4,4,5,5,5,5,5,5,5,5,5,5,5,5,5,5,5,5,6,6,6,6,6,6,6,6,6,6,6,6,6,6,6,6,6,6,6,6,6,6,6,6,6,6,6,6,6,6,6,6,7,7,7,7,7,7,7,7,7,7,7,7,7,7,7,7,7,7,7,7,7,7,7,7,7,7,7,7,7,7,7,7,7,7,7,7,7,7,7,7,7,7,7,7,7,7,7,7,7,7,7,7,7,7,7,7,7,7,7,7,7,7,7,7,8,8,8,8,8,8,8,8,8,8,8,8,8,8,8,8,8,8,8,8,8,8,8,8,8,8,8,8,8,8,8,8,8,8,8,8,8,8,8,8,8,8,8,8,8,8,8,8,8,8,8,8,8,8,8,8,8,8,8,8,8,8,8,8,8,8,8,8,8,8,8,8,8,8,8,8,8,8,8,8,8,8,8,8,8,8,8,8,8,8,8,8,8,8,8,8,8,8,8,8,8,8,8,8,8,8,8,8,8,8,8,8,8,8,8,8,8,8,8,8,8,8,8,8,8,8,8,8]⟩)) (.t 21)),
oP 23 (.conv .i64 (.t 22)),
oP 24 (.bin .add (.t 19) (.t 23)),
oM 2 24])
def kR:aZ:=⟨[.tmp 2],(.seq kR.r0 (.seq (.seq kR.r1 (.cond (.t 4) (.seq kR.r2 kR.r3) .skip)) (.seq (.seq kR.r4 (.cond (.t 8) (.seq kR.r5 kR.r6) .skip)) (.seq (.seq kR.r7 (.cond (.t 14) (.seq kR.r8 kR.r9) .skip)) (.seq kR.r10 .ret)))))⟩
def jL.r0:aj:=(.region none [oP 3 (.box (.t 0)),
oP 6 (.move (.c (.string ⟨#[]⟩)))])
def jL.r1:aj:=(.region none [oP 7 (.move (.c (.string ⟨#[]⟩)))])
def jL.r2:aj:=(.region none [oP 10 (.fieldAddr 1 (.t 3)),
oP 11 (.load (some 16) (.t 10)),
oP 8 (.alloc (List.replicate 16 (.int .u8 0))),
⟨none, .store 16 (.t 8) (.t 11),none⟩])
def jL.r3:aj:=(.region none [oM 12 2])
def jL.r4:aj:=(.region none [oP 13 (.fieldAddr 17 (.t 3)),
oP 14 (.load (some 16) (.t 13)),
⟨none, .store 16 (.t 8) (.t 14),none⟩])
def jL.r5:aj:=(.region none [oM 15 1,
oP 16 (.indexAddr (some 16) 1 (.t 8) (.t 15)),
oP 17 (.load none (.t 16)),
oP 18 (.conv .i64 (.t 17)),
oM 9 18])
def jL.r6:aj:=(.region none [oM 19 9,
oM 20 1,
oP 21 (.bin .neq (.t 19) (.t 20))])
def jL.r8:aj:=(.region none [oM 26 7,
oP 27 (.iL .add (.t 26) (.c (.string ⟨#[40]⟩))),
oP 28 (.load (some 33) (.t 3)),
oM 29 9,
oM 30 2,
oP 31 (.not (.t 30)),
oP 32 (.call 281 [.t 28, .t 29, .t 31]),
oP 33 (.iL .add (.t 27) (.t 32)),
oP 34 (.iL .add (.t 33) (.c (.string ⟨#[41]⟩))),
oM 7 34])
def jL.r7:aj:=(.region none [oM 22 9,
oP 23 (.indexAddr (some 16) 1 (.t 8) (.t 22)),
oP 24 (.load none (.t 23)),
oP 25 (.conv .i64 (.t 24)),
oM 9 25])
def jL.l0:aj:=(.seq (.seq jL.r6 (.cond (.t 21) .skip (.exit 0))) (.seq (.block 1 jL.r8) jL.r7))
def jL.r9:aj:=(.region none [oM 35 7,
oM 6 35])
def jL:aZ:=⟨[.tmp 6],(.seq jL.r0 (.seq jL.r1 (.seq jL.r2 (.seq (.seq jL.r3 (.cond (.t 12) jL.r4 .skip)) (.seq (.seq jL.r5 (.block 0 (.loop jL.l0))) (.seq jL.r9 .ret))))))⟩
def jT.r0:aj:=(.region none [oP 4 (.alloc ([.int .i64 0]++List.replicate 32 (.int .u8 0)))])
def jT.r1:aj:=(.region none [oM 9 0,
oM 10 1,
oP 11 (.call 102 [.t 9, .t 10]),
oP 12 (.bin .add (.c (.int .i64 1)) (.t 11)),
oM 5 12])
def jT.r2:aj:=(.region none [oP 6 (.move (.c (.int .i64 0)))])
def jT.r3:aj:=(.region none [oM 13 6,
oP 14 (.bin .lss (.t 13) (.c (.int .i64 8)))])
def jT.r5:aj:=(.region none [oM 17 5,
oM 18 0,
oM 19 5,
oM 20 0,
oM 21 5,
oP 22 (.buildSlice 1 4 [.int .i64 0] [(0,1,(.c (.int .i64 2))),(1,1,(.c (.int .i64 3))),(2,1,(.c (.int .i64 4))),(3,1, .t 21)]),
oP 23 (.call 98 [.t 20, .t 22]),
oP 24 (.call 387 [.t 18, .t 19, .t 23]),
oM 25 0,
oM 26 5,
oM 27 0,
oM 28 5,
oP 29 (.buildSlice 1 4 [.int .i64 0] [(0,1,(.c (.int .i64 2))),(1,1,(.c (.int .i64 2))),(2,1,(.c (.int .i64 3))),(3,1, .t 28)]),
oP 30 (.call 98 [.t 27, .t 29]),
oP 31 (.call 387 [.t 25, .t 26, .t 30]),
oP 32 (.build ([.int .i64 0]++List.replicate 32 (.int .u8 0)) [(0,1, .t 17),(1,16, .t 24),(17,16, .t 31)]),
oP 7 (.alloc ([.int .i64 0]++List.replicate 32 (.int .u8 0))),
⟨none, .store 33 (.t 7) (.t 32),none⟩])
def jT.r6:aj:=(.region none [oP 33 (.load (some 33) (.t 7)),
oP 34 (.call 184 [.t 33])])
def jT.r7:aj:=(.region none [oP 35 (.load (some 33) (.t 7)),
⟨none, .store 33 (.t 4) (.t 35),none⟩])
def jT.r4:aj:=(.region none [oM 15 6,
oP 16 (.bin .add (.t 15) (.c (.int .i64 1))),
oM 6 16])
def jT.l0:aj:=(.seq (.seq jT.r3 (.cond (.t 14) .skip (.exit 0))) (.seq (.block 1 (.seq jT.r5 (.seq jT.r6 (.cond (.t 34) (.seq jT.r7 .ret) .skip)))) jT.r4))
def jT.r8:aj:=(.region none [oM 36 5,
oP 37 (.call 388 [.t 36]),
oP 8 (.alloc ([.int .i64 0]++List.replicate 32 (.int .u8 0))),
⟨none, .store 33 (.t 8) (.t 37),none⟩])
def jT.r9:aj:=(.region none [oM 38 0,
oM 39 5,
oP 40 (.call 356 [.t 38, .t 39]),
oP 41 (.fieldAddr 17 (.t 8)),
⟨none, .store 16 (.t 41) (.t 40),none⟩])
def jT.r10:aj:=(.region none [oP 42 (.load (some 33) (.t 8)),
⟨none, .store 33 (.t 4) (.t 42),none⟩])
def jT:aZ:=⟨[.cell 4 (some 33)],(.seq jT.r0 (.seq jT.r1 (.seq (.seq jT.r2 (.block 0 (.loop jT.l0))) (.seq jT.r8 (.seq jT.r9 (.seq jT.r10 .ret))))))⟩
def lU.r0:aj:=(.region none [oP 2 (.box (.t 0)),
oP 3 (.box (.t 1)),
oP 4 (.alloc ([.int .i64 0]++List.replicate 32 (.int .u8 0)))])
def lU.r1:aj:=(.region none [oP 7 (.fieldAddr 0 (.t 2)),
oP 8 (.load none (.t 7)),
oP 9 (.build ([.int .i64 0]++List.replicate 32 (.int .u8 0)) [(0,1, .t 8)]),
oP 5 (.alloc ([.int .i64 0]++List.replicate 32 (.int .u8 0))),
⟨none, .store 33 (.t 5) (.t 9),none⟩])
def lU.r2:aj:=(.region none [oP 6 (.move (.c (.int .i64 0)))])
def lU.r3:aj:=(.region none [oM 10 6,
oP 11 (.fieldAddr 0 (.t 2)),
oP 12 (.load none (.t 11)),
oP 13 (.bin .lss (.t 10) (.t 12))])
def lU.r5:aj:=(.region (some 11) [oM 16 6,
oP 17 (.indexAddr (some 16) 1 (.t 3) (.t 16)),
oP 18 (.load none (.t 17)),
oM 19 6,
oP 20 (.fieldAddr 1 (.t 2)),
oP 21 (.indexAddr (some 16) 1 (.t 20) (.t 19)),
oP 22 (.load none (.t 21)),
oP 23 (.indexAddr (some 16) 1 (.t 3) (.t 22)),
oP 24 (.load none (.t 23)),
oP 25 (.fieldAddr 1 (.t 5)),
oP 26 (.indexAddr (some 16) 1 (.t 25) (.t 18)),
⟨none, .store 1 (.t 26) (.t 24),none⟩])
def lU.r6:aj:=(.region (some 11) [oM 27 6,
oP 28 (.indexAddr (some 16) 1 (.t 3) (.t 27)),
oP 29 (.load none (.t 28)),
oM 30 6,
oP 31 (.fieldAddr 17 (.t 2)),
oP 32 (.indexAddr (some 16) 1 (.t 31) (.t 30)),
oP 33 (.load none (.t 32)),
oP 34 (.indexAddr (some 16) 1 (.t 3) (.t 33)),
oP 35 (.load none (.t 34)),
oP 36 (.fieldAddr 17 (.t 5)),
oP 37 (.indexAddr (some 16) 1 (.t 36) (.t 29)),
⟨none, .store 1 (.t 37) (.t 35),none⟩])
def lU.r4:aj:=(.region none [oM 14 6,
oP 15 (.bin .add (.t 14) (.c (.int .i64 1))),
oM 6 15])
def lU.l0:aj:=(.seq (.seq lU.r3 (.cond (.t 13) .skip (.exit 0))) (.seq (.block 1 (.seq lU.r5 lU.r6)) lU.r4))
def lU.r7:aj:=(.region none [oP 38 (.load (some 33) (.t 5)),
⟨none, .store 33 (.t 4) (.t 38),none⟩])
def lU:aZ:=⟨[.cell 4 (some 33)],(.seq lU.r0 (.seq lU.r1 (.seq (.seq lU.r2 (.block 0 (.loop lU.l0))) (.seq lU.r7 .ret))))⟩
def mW.r0:aj:=(.region none [oP 2 (.alloc (List.replicate 16 (.int .u8 0)))])
def mW.r1:aj:=(.region none [oP 5 (.build (List.replicate 16 (.int .u8 0)) []),
oP 3 (.alloc (List.replicate 16 (.int .u8 0))),
⟨none, .store 16 (.t 3) (.t 5),none⟩])
def mW.r2:aj:=(.region none [oP 4 (.move (.c (.int .i64 0)))])
def mW.r3:aj:=(.region none [oM 6 4,
oM 7 0,
oP 8 (.bin .lss (.t 6) (.t 7))])
def mW.r5:aj:=(.region none [oM 11 4,
oM 12 4,
oP 13 (.bin .add (.t 12) (.c (.int .i64 1))),
oM 14 0,
oP 15 (.bin .rem (.t 13) (.t 14)),
oP 16 (.conv .u8 (.t 15)),
oP 17 (.indexAddr (some 16) 1 (.t 3) (.t 11)),
⟨none, .store 1 (.t 17) (.t 16),none⟩])
def mW.r4:aj:=(.region none [oM 9 4,
oP 10 (.bin .add (.t 9) (.c (.int .i64 1))),
oM 4 10])
def mW.l0:aj:=(.seq (.seq mW.r3 (.cond (.t 8) .skip (.exit 0))) (.seq (.block 1 mW.r5) mW.r4))
def mW.r6:aj:=(.region none [oP 18 (.load (some 16) (.t 3)),
⟨none, .store 16 (.t 2) (.t 18),none⟩])
def mW:aZ:=⟨[.cell 2 (some 16)],(.seq mW.r0 (.seq mW.r1 (.seq (.seq mW.r2 (.block 0 (.loop mW.l0))) (.seq mW.r6 .ret))))⟩
def yH.r0:aj:=(.region none [oP 1 (.box (.t 0)),
oP 2 (.alloc (List.replicate 16 (.int .u8 0)))])
def yH.r1:aj:=(.region (some 10) [oP 3 (.fieldAddr 1 (.t 1)),
oP 4 (.load (some 16) (.t 3)),
oP 5 (.fieldAddr 17 (.t 1)),
oP 6 (.load (some 16) (.t 5)),
oP 7 (.fieldAddr 0 (.t 1)),
oP 8 (.load none (.t 7)),
oP 9 (.call 212 [.t 4, .t 6, .t 8]),
oP 10 (.fieldAddr 0 (.t 1)),
oP 11 (.load none (.t 10)),
oP 12 (.call 208 [.t 9, .t 11]),
⟨none, .store 16 (.t 2) (.t 12),none⟩])
def yH:aZ:=⟨[.cell 2 (some 16)],(.seq yH.r0 (.seq yH.r1 .ret))⟩
def yI.r0:aj:=(.region none [oM 3 0,
oP 4 (.len (.t 3)),
oM 2 4])
def yI.r1:aj:=(.region none [oM 5 0,
oM 6 2,
oM 7 2,
oP 8 (.conv .u64 (.t 7)),
oP 9 (.call 227 [.t 8]),
oP 10 (.call 228 [.t 5,(.c (.int .i64 0)), .t 6, .t 9])])
def yI:aZ:=⟨[],(.seq yI.r0 yI.r1)⟩
def qF.r0:aj:=(.region none [oM 4 0,
oP 5 (.len (.t 4)),
oP 6 (.bin .sub (.t 5) (.c (.int .i64 1))),
oP 2 (.move (.c (.int .i64 0))),
oM 3 6])
def qF.r1:aj:=(.region none [oM 7 2,
oM 8 3,
oP 9 (.bin .lss (.t 7) (.t 8))])
def qF.r3:aj:=(.region (some 13) [oM 14 0,
oM 15 2,
oM 16 0,
oM 17 3,
oM 18 0,
oM 19 3,
oP 20 (.indexAddr none 1 (.t 18) (.t 19)),
oP 21 (.load none (.t 20)),
oM 22 0,
oM 23 2,
oP 24 (.indexAddr none 1 (.t 22) (.t 23)),
oP 25 (.load none (.t 24)),
oP 26 (.indexAddr none 1 (.t 14) (.t 15)),
⟨none, .iw 1 (.t 26) (.t 21) [],none⟩,
oP 27 (.indexAddr none 1 (.t 16) (.t 17)),
⟨none, .store 1 (.t 27) (.t 25),none⟩])
def qF.r2:aj:=(.region none [oM 10 2,
oP 11 (.bin .add (.t 10) (.c (.int .i64 1))),
oM 12 3,
oP 13 (.bin .sub (.t 12) (.c (.int .i64 1))),
oM 2 11,
oM 3 13])
def qF.l0:aj:=(.seq (.seq qF.r1 (.cond (.t 9) .skip (.exit 0))) (.seq (.block 1 qF.r3) qF.r2))
def qF:aZ:=⟨[],(.seq qF.r0 (.block 0 (.loop qF.l0)))⟩
def yJ.r0:aj:=(.region none [oP 2 (.move (.c (.int .u64 0)))])
def yJ.r1:aj:=(.region none [oM 3 0,
oP 4 (.conv .u64 (.t 3)),
oP 5 (.call 227 [.t 4]),
oP 6 (.bin .shl (.c (.int .u64 1)) (.t 5)),
oM 2 6])
def yJ:aZ:=⟨[.tmp 2],(.seq yJ.r0 (.seq yJ.r1 .ret))⟩
def qY.r0:aj:=(.region none [oP 2 (.move (.c (.int .u64 0)))])
def qY.r1:aj:=(.region (some 9) [oM 3 0,
oP 4 (.nilCheck (.t 3)),
oP 5 (.load none (.t 4)),
oM 6 0,
oP 7 (.nilCheck (.t 6)),
oP 8 (.load none (.t 7)),
oP 9 (.bin .shl (.t 8) (.c (.int .u64 13))),
oP 10 (.bin .xor (.t 5) (.t 9)),
oP 11 (.nilCheck (.t 3)),
⟨none, .store 1 (.t 11) (.t 10),none⟩])
def qY.r2:aj:=(.region (some 9) [oM 12 0,
oP 13 (.nilCheck (.t 12)),
oP 14 (.load none (.t 13)),
oM 15 0,
oP 16 (.nilCheck (.t 15)),
oP 17 (.load none (.t 16)),
oP 18 (.bin .shr (.t 17) (.c (.int .u64 7))),
oP 19 (.bin .xor (.t 14) (.t 18)),
oP 20 (.nilCheck (.t 12)),
⟨none, .store 1 (.t 20) (.t 19),none⟩])
def qY.r3:aj:=(.region (some 9) [oM 21 0,
oP 22 (.nilCheck (.t 21)),
oP 23 (.load none (.t 22)),
oM 24 0,
oP 25 (.nilCheck (.t 24)),
oP 26 (.load none (.t 25)),
oP 27 (.bin .shl (.t 26) (.c (.int .u64 17))),
oP 28 (.bin .xor (.t 23) (.t 27)),
oP 29 (.nilCheck (.t 21)),
⟨none, .store 1 (.t 29) (.t 28),none⟩])
def qY.r4:aj:=(.region none [oM 30 0,
oP 31 (.nilCheck (.t 30)),
oP 32 (.load none (.t 31)),
oM 2 32])
def qY:aZ:=⟨[.tmp 2],(.seq qY.r0 (.seq qY.r1 (.seq qY.r2 (.seq qY.r3 (.seq qY.r4 .ret)))))⟩
def yK.r0:aj:=(.region none [oP 2 (.move (.c (.bool false)))])
def yK.r1:aj:=(.region none [oM 3 0,
oM 4 0,
oP 5 (.iL .neq (.t 3) (.t 4)),
oM 2 5])
def yK:aZ:=⟨[.tmp 2],(.seq yK.r0 (.seq yK.r1 .ret))⟩
def mX.r0:aj:=(.region none [oP 2 (.box (.t 0)),
oP 4 (.alloc (List.replicate 16 (.int .u8 0)))])
def mX.r1:aj:=(.region none [oP 7 (.build (List.replicate 16 (.int .u8 0)) []),
oP 5 (.alloc (List.replicate 16 (.int .u8 0))),
⟨none, .store 16 (.t 5) (.t 7),none⟩])
def mX.r2:aj:=(.region none [oP 6 (.move (.c (.int .i64 0)))])
def mX.r3:aj:=(.region none [oM 8 6,
oM 9 1,
oP 10 (.bin .lss (.t 8) (.t 9))])
def mX.r5:aj:=(.region none [oM 13 6,
oP 14 (.indexAddr (some 16) 1 (.t 2) (.t 13)),
oP 15 (.load none (.t 14)),
oM 16 6,
oP 17 (.conv .u8 (.t 16)),
oP 18 (.indexAddr (some 16) 1 (.t 5) (.t 15)),
⟨none, .store 1 (.t 18) (.t 17),none⟩])
def mX.r4:aj:=(.region none [oM 11 6,
oP 12 (.bin .add (.t 11) (.c (.int .i64 1))),
oM 6 12])
def mX.l0:aj:=(.seq (.seq mX.r3 (.cond (.t 10) .skip (.exit 0))) (.seq (.block 1 mX.r5) mX.r4))
def mX.r6:aj:=(.region none [oP 19 (.load (some 16) (.t 5)),
⟨none, .store 16 (.t 4) (.t 19),none⟩])
def mX:aZ:=⟨[.cell 4 (some 16)],(.seq mX.r0 (.seq mX.r1 (.seq (.seq mX.r2 (.block 0 (.loop mX.l0))) (.seq mX.r6 .ret))))⟩
def mY.r0:aj:=(.region none [oP 3 (.box (.t 0)),
oP 4 (.box (.t 1)),
oP 6 (.alloc (List.replicate 16 (.int .u8 0)))])
def mY.r1:aj:=(.region none [oP 9 (.build (List.replicate 16 (.int .u8 0)) []),
oP 7 (.alloc (List.replicate 16 (.int .u8 0))),
⟨none, .store 16 (.t 7) (.t 9),none⟩])
def mY.r2:aj:=(.region none [oP 8 (.move (.c (.int .i64 0)))])
def mY.r3:aj:=(.region none [oM 10 8,
oM 11 2,
oP 12 (.bin .lss (.t 10) (.t 11))])
def mY.r5:aj:=(.region none [oM 15 8,
oM 16 8,
oP 17 (.indexAddr (some 16) 1 (.t 3) (.t 16)),
oP 18 (.load none (.t 17)),
oP 19 (.indexAddr (some 16) 1 (.t 4) (.t 18)),
oP 20 (.load none (.t 19)),
oP 21 (.indexAddr (some 16) 1 (.t 7) (.t 15)),
⟨none, .store 1 (.t 21) (.t 20),none⟩])
def mY.r4:aj:=(.region none [oM 13 8,
oP 14 (.bin .add (.t 13) (.c (.int .i64 1))),
oM 8 14])
def mY.l0:aj:=(.seq (.seq mY.r3 (.cond (.t 12) .skip (.exit 0))) (.seq (.block 1 mY.r5) mY.r4))
def mY.r6:aj:=(.region none [oP 22 (.load (some 16) (.t 7)),
⟨none, .store 16 (.t 6) (.t 22),none⟩])
def mY:aZ:=⟨[.cell 6 (some 16)],(.seq mY.r0 (.seq mY.r1 (.seq (.seq mY.r2 (.block 0 (.loop mY.l0))) (.seq mY.r6 .ret))))⟩
def dA.r0:aj:=(.region none [oP 8 (.move (.c (.bool true)))])
def dA.r1:aj:=(.region none [oP 9 (.move (.c (.bool true)))])
def dA.r2:aj:=(.region none [oM 19 2,
oM 20 1,
oP 21 (.bin .sub (.t 19) (.t 20)),
oM 10 21])
def dA.r3:aj:=(.region none [oM 22 10,
oP 23 (.bin .leq (.t 22) (.c (.int .i64 12)))])
def dA.r4:aj:=(.region none [oM 24 0,
oM 25 1,
oM 26 2,
oP 27 (.call 229 [.t 24, .t 25, .t 26])])
def dA.r5:aj:=(.region none [oM 28 3,
oP 29 (.bin .eql (.t 28) (.c (.int .i64 0)))])
def dA.r6:aj:=(.region none [oM 30 0,
oM 31 1,
oM 32 2,
oP 33 (.call 230 [.t 30, .t 31, .t 32])])
def dA.r7:aj:=(.region none [oM 34 8,
oP 35 (.not (.t 34))])
def dA.r8:aj:=(.region none [oM 36 0,
oM 37 1,
oM 38 2,
oP 39 (.call 231 [.t 36, .t 37, .t 38])])
def dA.r9:aj:=(.region none [oM 40 3,
oP 41 (.bin .sub (.t 40) (.c (.int .i64 1))),
oM 3 41])
def dA.r10:aj:=(.region none [oM 43 0,
oM 44 1,
oM 45 2,
oP 46 (.call 232 [.t 43, .t 44, .t 45]),
oM 42 46,
oP 47 (.extract (.t 42) 0),
oP 48 (.extract (.t 42) 1),
oM 11 47,
oM 12 48])
def dA.r11:aj:=(.region none [oM 49 12,
oP 50 (.bin .eql (.t 49) (.c (.int .i64 2)))])
def dA.r12:aj:=(.region none [oM 51 0,
oM 52 1,
oM 53 2,
oP 54 (.call 233 [.t 51, .t 52, .t 53])])
def dA.r13:aj:=(.region none [oM 55 2,
oP 56 (.bin .sub (.t 55) (.c (.int .i64 1))),
oM 57 11,
oM 58 1,
oP 59 (.bin .sub (.t 57) (.t 58)),
oP 60 (.bin .sub (.t 56) (.t 59)),
oM 11 60])
def dA.eP:aj:=(.region none [oP 12 (.move (.c (.int .i64 1)))])
def dA.gG:aj:=(.region none [oM 61 8,
oM 62 61,
⟨some 63, .move (.t 9),some (62,true)⟩,
oP 64 (.pick (.t 62) (.t 63) (.c (.bool false))),
oM 65 64,
⟨some 66, .move (.t 12),some (65,true)⟩,
⟨some 67, .bin .eql (.t 66) (.c (.int .i64 1)),some (65,true)⟩,
oP 68 (.pick (.t 65) (.t 67) (.c (.bool false)))])
def dA.r16:aj:=(.region none [oM 69 0,
oM 70 1,
oM 71 2,
oP 72 (.call 234 [.t 69, .t 70, .t 71])])
def dA.lC:aj:=(.region (some 15) [oM 73 1,
oP 74 (.bin .gtr (.t 73) (.c (.int .i64 0))),
oM 75 74,
⟨some 76, .move (.t 0),some (75,true)⟩,
⟨some 77, .move (.t 1),some (75,true)⟩,
⟨some 78, .bin .sub (.t 77) (.c (.int .i64 1)),some (75,true)⟩,
⟨some 79, .indexAddr none 1 (.t 76) (.t 78),some (75,true)⟩,
⟨some 80, .load none (.t 79),some (75,true)⟩,
⟨some 81, .move (.t 0),some (75,true)⟩,
⟨some 82, .move (.t 11),some (75,true)⟩,
⟨some 83, .indexAddr none 1 (.t 81) (.t 82),some (75,true)⟩,
⟨some 84, .load none (.t 83),some (75,true)⟩,
⟨some 85, .call 235 [.t 80, .t 84],some (75,true)⟩,
⟨some 86, .not (.t 85),some (75,true)⟩,
oP 87 (.pick (.t 75) (.t 86) (.c (.bool false)))])
def dA.nN:aj:=(.region none [oM 88 0,
oM 89 1,
oM 90 2,
oM 91 11,
oP 92 (.call 236 [.t 88, .t 89, .t 90, .t 91]),
oM 13 92])
def dA.nO:aj:=(.region none [oM 93 13,
oM 1 93])
def dA.nP:aj:=(.region none [oM 95 0,
oM 96 1,
oM 97 2,
oM 98 11,
oP 99 (.call 237 [.t 95, .t 96, .t 97, .t 98]),
oM 94 99,
oP 100 (.extract (.t 94) 0),
oP 101 (.extract (.t 94) 1),
oM 14 100,
oM 15 101])
def dA.nD:aj:=(.region none [oM 102 15,
oM 9 102])
def dA.r22:aj:=(.region none [oM 103 14,
oM 104 1,
oP 105 (.bin .sub (.t 103) (.t 104)),
oM 106 2,
oM 107 14,
oP 108 (.bin .sub (.t 106) (.t 107)),
oM 16 105,
oM 17 108])
def dA.pV:aj:=(.region none [oM 109 10,
oP 110 (.bin .quo (.t 109) (.c (.int .i64 8))),
oM 18 110])
def dA.pW:aj:=(.region none [oM 111 16,
oM 112 17,
oP 113 (.bin .lss (.t 111) (.t 112))])
def dA.r25:aj:=(.region none [oM 114 16,
oM 115 18,
oP 116 (.bin .geq (.t 114) (.t 115)),
oM 8 116])
def dA.qG:aj:=(.region none [oM 117 0,
oM 118 1,
oM 119 14,
oM 120 3,
oP 121 (.call 228 [.t 117, .t 118, .t 119, .t 120])])
def dA.r27:aj:=(.region none [oM 122 14,
oP 123 (.bin .add (.t 122) (.c (.int .i64 1))),
oM 1 123])
def dA.r28:aj:=(.region none [oM 124 17,
oM 125 18,
oP 126 (.bin .geq (.t 124) (.t 125)),
oM 8 126])
def dA.oV:aj:=(.region none [oM 127 0,
oM 128 14,
oP 129 (.bin .add (.t 128) (.c (.int .i64 1))),
oM 130 2,
oM 131 3,
oP 132 (.call 228 [.t 127, .t 129, .t 130, .t 131])])
def dA.pX:aj:=(.region none [oM 133 14,
oM 2 133])
def dA.l0:aj:=(.block 1 (.seq dA.r2 (.seq (.seq dA.r3 (.cond (.t 23) (.seq dA.r4 .ret) .skip)) (.seq (.seq dA.r5 (.cond (.t 29) (.seq dA.r6 .ret) .skip)) (.seq (.seq dA.r7 (.cond (.t 35) (.seq dA.r8 dA.r9) .skip)) (.seq dA.r10 (.seq (.seq dA.r11 (.cond (.t 50) (.seq dA.r12 (.seq dA.r13 dA.eP)) .skip)) (.seq (.seq dA.gG (.cond (.t 68) (.seq dA.r16 (.cond (.t 72) .ret .skip)) .skip)) (.seq (.seq dA.lC (.cond (.t 87) (.seq dA.nN (.seq dA.nO (.exit 1))) .skip)) (.seq dA.nP (.seq dA.nD (.seq dA.r22 (.seq dA.pV (.seq dA.pW (.cond (.t 113) (.seq dA.r25 (.seq dA.qG dA.r27)) (.seq dA.r28 (.seq dA.oV dA.pX)))))))))))))))))
def dA:aZ:=⟨[],(.seq dA.r0 (.seq dA.r1 (.block 0 (.loop dA.l0))))⟩
def kY.r0:aj:=(.region none [oM 8 1,
oP 9 (.bin .add (.t 8) (.c (.int .i64 1))),
oM 6 9])
def kY.r1:aj:=(.region none [oM 10 6,
oM 11 2,
oP 12 (.bin .lss (.t 10) (.t 11))])
def kY.r3:aj:=(.region none [oM 15 6,
oM 7 15])
def kY.r4:aj:=(.region (some 15) [oM 16 7,
oM 17 1,
oP 18 (.bin .gtr (.t 16) (.t 17)),
oM 19 18,
⟨some 20, .move (.t 0),some (19,true)⟩,
⟨some 21, .move (.t 7),some (19,true)⟩,
⟨some 22, .indexAddr none 1 (.t 20) (.t 21),some (19,true)⟩,
⟨some 23, .load none (.t 22),some (19,true)⟩,
⟨some 24, .move (.t 0),some (19,true)⟩,
⟨some 25, .move (.t 7),some (19,true)⟩,
⟨some 26, .bin .sub (.t 25) (.c (.int .i64 1)),some (19,true)⟩,
⟨some 27, .indexAddr none 1 (.t 24) (.t 26),some (19,true)⟩,
⟨some 28, .load none (.t 27),some (19,true)⟩,
⟨some 29, .call 235 [.t 23, .t 28],some (19,true)⟩,
oP 30 (.pick (.t 19) (.t 29) (.c (.bool false)))])
def kY.r6:aj:=(.region (some 15) [oM 33 0,
oM 34 7,
oM 35 0,
oM 36 7,
oP 37 (.bin .sub (.t 36) (.c (.int .i64 1))),
oM 38 0,
oM 39 7,
oP 40 (.bin .sub (.t 39) (.c (.int .i64 1))),
oP 41 (.indexAddr none 1 (.t 38) (.t 40)),
oP 42 (.load none (.t 41)),
oM 43 0,
oM 44 7,
oP 45 (.indexAddr none 1 (.t 43) (.t 44)),
oP 46 (.load none (.t 45)),
oP 47 (.indexAddr none 1 (.t 33) (.t 34)),
⟨none, .iw 1 (.t 47) (.t 42) [],none⟩,
oP 48 (.indexAddr none 1 (.t 35) (.t 37)),
⟨none, .store 1 (.t 48) (.t 46),none⟩])
def kY.r5:aj:=(.region none [oM 31 7,
oP 32 (.bin .sub (.t 31) (.c (.int .i64 1))),
oM 7 32])
def kY.l0:aj:=(.seq (.seq kY.r4 (.cond (.t 30) .skip (.exit 2))) (.seq (.block 3 kY.r6) kY.r5))
def kY.r2:aj:=(.region none [oM 13 6,
oP 14 (.bin .add (.t 13) (.c (.int .i64 1))),
oM 6 14])
def kY.l1:aj:=(.seq (.seq kY.r1 (.cond (.t 12) .skip (.exit 0))) (.seq (.block 1 (.seq kY.r3 (.block 2 (.loop kY.l0)))) kY.r2))
def kY:aZ:=⟨[],(.seq kY.r0 (.block 0 (.loop kY.l1)))⟩
def jG.r0:aj:=(.region none [oM 11 2,
oM 12 1,
oP 13 (.bin .sub (.t 11) (.t 12)),
oM 6 13])
def jG.r1:aj:=(.region none [oM 14 6,
oP 15 (.bin .geq (.t 14) (.c (.int .i64 8)))])
def jG.r2:aj:=(.region none [oM 16 6,
oP 17 (.conv .u64 (.t 16)),
oP 7 (.alloc [.int .u64 0]),
⟨none, .store 1 (.t 7) (.t 17),none⟩])
def jG.r3:aj:=(.region none [oM 18 6,
oP 19 (.call 240 [.t 18]),
oM 8 19])
def jG.r4:aj:=(.region none [oM 20 1,
oM 21 6,
oP 22 (.bin .quo (.t 21) (.c (.int .i64 4))),
oP 23 (.bin .mul (.t 22) (.c (.int .i64 2))),
oP 24 (.bin .add (.t 20) (.t 23)),
oP 25 (.bin .sub (.t 24) (.c (.int .i64 1))),
oM 9 25])
def jG.r5:aj:=(.region none [oM 26 9,
oM 27 1,
oM 28 6,
oP 29 (.bin .quo (.t 28) (.c (.int .i64 4))),
oP 30 (.bin .mul (.t 29) (.c (.int .i64 2))),
oP 31 (.bin .add (.t 27) (.t 30)),
oP 32 (.bin .add (.t 31) (.c (.int .i64 1))),
oP 33 (.bin .leq (.t 26) (.t 32))])
def jG.r7:aj:=(.region none [oP 36 (.call 241 [.t 7]),
oM 37 8,
oP 38 (.bin .sub (.t 37) (.c (.int .u64 1))),
oP 39 (.bin .and (.t 36) (.t 38)),
oP 40 (.conv .i64 (.t 39)),
oM 10 40])
def jG.r8:aj:=(.region none [oM 41 10,
oM 42 6,
oP 43 (.bin .geq (.t 41) (.t 42))])
def jG.r9:aj:=(.region none [oM 44 10,
oM 45 6,
oP 46 (.bin .sub (.t 44) (.t 45)),
oM 10 46])
def jG.r10:aj:=(.region (some 17) [oM 47 0,
oM 48 9,
oM 49 0,
oM 50 1,
oM 51 10,
oP 52 (.bin .add (.t 50) (.t 51)),
oM 53 0,
oM 54 1,
oM 55 10,
oP 56 (.bin .add (.t 54) (.t 55)),
oP 57 (.indexAddr none 1 (.t 53) (.t 56)),
oP 58 (.load none (.t 57)),
oM 59 0,
oM 60 9,
oP 61 (.indexAddr none 1 (.t 59) (.t 60)),
oP 62 (.load none (.t 61)),
oP 63 (.indexAddr none 1 (.t 47) (.t 48)),
⟨none, .iw 1 (.t 63) (.t 58) [],none⟩,
oP 64 (.indexAddr none 1 (.t 49) (.t 52)),
⟨none, .store 1 (.t 64) (.t 62),none⟩])
def jG.r6:aj:=(.region none [oM 34 9,
oP 35 (.bin .add (.t 34) (.c (.int .i64 1))),
oM 9 35])
def jG.l0:aj:=(.seq (.seq jG.r5 (.cond (.t 33) .skip (.exit 0))) (.seq (.block 1 (.seq jG.r7 (.seq (.seq jG.r8 (.cond (.t 43) jG.r9 .skip)) jG.r10))) jG.r6))
def jG:aZ:=⟨[],(.seq jG.r0 (.seq jG.r1 (.cond (.t 15) (.seq jG.r2 (.seq jG.r3 (.seq jG.r4 (.block 0 (.loop jG.l0))))) .skip)))⟩
def ig.r0:aj:=(.region none [oP 6 (.move (.c (.int .i64 0))),
oP 7 (.move (.c (.int .i64 0)))])
def ig.r1:aj:=(.region none [oM 13 2,
oM 14 1,
oP 15 (.bin .sub (.t 13) (.t 14)),
oM 8 15])
def ig.r2:aj:=(.region none [oP 9 (.alloc [.int .i64 0])])
def ig.r3:aj:=(.region none [oM 16 1,
oM 17 8,
oP 18 (.bin .quo (.t 17) (.c (.int .i64 4))),
oP 19 (.bin .mul (.t 18) (.c (.int .i64 1))),
oP 20 (.bin .add (.t 16) (.t 19)),
oM 10 20])
def ig.r4:aj:=(.region none [oM 21 1,
oM 22 8,
oP 23 (.bin .quo (.t 22) (.c (.int .i64 4))),
oP 24 (.bin .mul (.t 23) (.c (.int .i64 2))),
oP 25 (.bin .add (.t 21) (.t 24)),
oM 11 25])
def ig.r5:aj:=(.region none [oM 26 1,
oM 27 8,
oP 28 (.bin .quo (.t 27) (.c (.int .i64 4))),
oP 29 (.bin .mul (.t 28) (.c (.int .i64 3))),
oP 30 (.bin .add (.t 26) (.t 29)),
oM 12 30])
def ig.r6:aj:=(.region none [oM 31 8,
oP 32 (.bin .geq (.t 31) (.c (.int .i64 8)))])
def ig.r7:aj:=(.region none [oM 33 8,
oP 34 (.bin .geq (.t 33) (.c (.int .i64 50)))])
def ig.r8:aj:=(.region none [oM 35 0,
oM 36 10,
oP 37 (.call 242 [.t 35, .t 36, .t 9]),
oM 10 37])
def ig.r9:aj:=(.region none [oM 38 0,
oM 39 11,
oP 40 (.call 242 [.t 38, .t 39, .t 9]),
oM 11 40])
def ig.r10:aj:=(.region none [oM 41 0,
oM 42 12,
oP 43 (.call 242 [.t 41, .t 42, .t 9]),
oM 12 43])
def ig.r11:aj:=(.region none [oM 44 0,
oM 45 10,
oM 46 11,
oM 47 12,
oP 48 (.call 243 [.t 44, .t 45, .t 46, .t 47, .t 9]),
oM 11 48])
def ig.r12:aj:=(.region none [oP 49 (.load none (.t 9))])
def ig.eP:aj:=(.region none [oP 52 (.bin .eql (.t 49) (.c (.int .i64 0))),
oM 51 52])
def ig.gG:aj:=(.region none [oM 53 11,
oM 6 53,
oP 7 (.move (.c (.int .i64 1)))])
def ig.r16:aj:=(.region none [oP 55 (.bin .eql (.t 49) (.c (.int .i64 12))),
oM 54 55])
def ig.lC:aj:=(.region none [oM 56 11,
oM 6 56,
oP 7 (.move (.c (.int .i64 2)))])
def ig.r13:aj:=(.region none [oM 50 11,
oM 6 50,
oP 7 (.move (.c (.int .i64 0)))])
def ig:aZ:=⟨[.tmp 6, .tmp 7],(.seq ig.r0 (.seq ig.r1 (.seq ig.r2 (.seq ig.r3 (.seq ig.r4 (.seq ig.r5 (.seq (.seq ig.r6 (.cond (.t 32) (.seq (.seq ig.r7 (.cond (.t 34) (.seq ig.r8 (.seq ig.r9 ig.r10)) .skip)) ig.r11) .skip)) (.seq ig.r12 (.block 0 (.seq ig.eP (.cond (.t 51) (.seq ig.gG .ret) (.seq ig.r16 (.cond (.t 54) (.seq ig.lC .ret) (.seq ig.r13 .ret))))))))))))))⟩
def nM.r0:aj:=(.region none [oM 8 1,
oM 6 8])
def nM.r1:aj:=(.region none [oM 9 2,
oP 10 (.bin .sub (.t 9) (.c (.int .i64 1))),
oM 7 10])
def nM.r2:aj:=(.region none [oM 11 6,
oM 12 7,
oP 13 (.bin .lss (.t 11) (.t 12))])
def nM.r3:aj:=(.region (some 13) [oM 14 0,
oM 15 6,
oM 16 0,
oM 17 7,
oM 18 0,
oM 19 7,
oP 20 (.indexAddr none 1 (.t 18) (.t 19)),
oP 21 (.load none (.t 20)),
oM 22 0,
oM 23 6,
oP 24 (.indexAddr none 1 (.t 22) (.t 23)),
oP 25 (.load none (.t 24)),
oP 26 (.indexAddr none 1 (.t 14) (.t 15)),
⟨none, .iw 1 (.t 26) (.t 21) [],none⟩,
oP 27 (.indexAddr none 1 (.t 16) (.t 17)),
⟨none, .store 1 (.t 27) (.t 25),none⟩])
def nM.r4:aj:=(.region none [oM 28 6,
oP 29 (.bin .add (.t 28) (.c (.int .i64 1))),
oM 6 29])
def nM.r5:aj:=(.region none [oM 30 7,
oP 31 (.bin .sub (.t 30) (.c (.int .i64 1))),
oM 7 31])
def nM.l0:aj:=(.seq (.seq nM.r2 (.cond (.t 13) .skip (.exit 0))) (.block 1 (.seq nM.r3 (.seq nM.r4 nM.r5))))
def nM:aZ:=⟨[],(.seq nM.r0 (.seq nM.r1 (.block 0 (.loop nM.l0))))⟩
end Go.Am
