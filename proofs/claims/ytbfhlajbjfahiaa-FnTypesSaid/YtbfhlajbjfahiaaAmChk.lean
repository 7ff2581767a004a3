/- The program's functions are those of the table: by the translation, checked by reckoning. -/
import Derived.Test.YtbfhlajbjfahiaaProg
import Derived.KernelRfl
import Derived.Test.YtbfhlajbjfahiaaAmTab
import Derived.Test.YtbfhlajbjfahiaaAmSound
set_option linter.unusedVariables false
set_option maxRecDepth 100000
namespace Go.Am
open Go
def μs : List (Nat × Nat) := [(3, 398), (4, 248), (5, 307), (6, 129), (7, 130), (8, 404), (9, 301), (10, 320), (11, 295), (12, 298), (13, 41), (14, 399), (15, 330), (16, 400), (17, 401), (18, 47), (19, 48), (20, 158), (21, 328), (22, 402), (23, 151), (24, 43), (25, 403), (26, 145), (27, 179), (28, 137), (29, 249), (30, 250), (31, 142), (32, 308), (33, 309), (34, 310), (35, 311), (36, 312), (37, 313), (38, 51), (39, 314), (40, 315), (41, 316), (42, 23), (43, 22), (44, 317), (45, 318), (46, 319), (47, 42), (48, 17), (49, 16), (50, 2), (51, 1), (52, 15), (53, 14), (54, 44), (55, 28), (56, 27), (57, 45), (58, 11), (59, 10), (60, 30), (61, 29), (62, 46), (63, 9), (64, 8), (65, 49), (66, 34), (67, 33), (68, 32), (69, 31), (70, 50), (71, 36), (72, 35), (73, 38), (74, 37), (75, 52), (76, 5), (77, 4), (78, 53), (79, 19), (80, 18), (81, 54), (82, 26), (83, 25), (84, 55), (85, 13), (86, 405), (87, 406), (88, 407), (89, 408), (90, 409), (91, 302), (92, 0), (93, 303), (94, 304), (95, 3), (96, 6), (97, 305), (98, 306), (99, 321), (100, 322), (101, 323), (102, 324), (103, 325), (104, 326), (105, 327), (106, 329), (107, 20), (108, 296), (109, 21), (110, 297), (111, 24), (112, 299), (113, 300), (114, 374), (115, 97), (116, 187), (117, 280), (118, 184), (119, 279), (120, 198), (121, 410), (122, 411), (123, 193), (124, 412), (125, 200), (126, 134), (127, 182), (128, 266), (129, 267), (130, 268), (131, 269), (132, 189), (133, 350), (134, 102), (135, 98), (136, 68), (137, 106), (138, 220), (139, 351), (140, 58), (141, 352), (142, 353), (143, 80), (144, 78), (145, 81), (146, 79), (147, 354), (148, 338), (149, 96), (150, 75), (151, 71), (152, 74), (153, 57), (154, 56), (155, 73), (156, 72), (157, 99), (158, 85), (159, 100), (160, 63), (161, 62), (162, 87), (163, 86), (164, 101), (165, 61), (166, 90), (167, 91), (168, 88), (169, 89), (170, 94), (171, 95), (172, 92), (173, 93), (174, 60), (175, 59), (176, 76), (177, 83), (178, 84), (179, 82), (180, 67), (181, 69), (182, 70), (183, 413), (184, 414), (185, 64), (186, 343), (187, 344), (188, 284), (189, 276), (190, 345), (191, 277), (192, 346), (193, 347), (194, 348), (195, 349), (196, 355), (197, 356), (198, 209), (199, 216), (200, 206), (201, 357), (202, 282), (203, 215), (204, 358), (205, 359), (206, 77), (207, 335), (208, 336), (209, 337), (210, 339), (211, 341), (212, 340), (213, 342), (214, 369), (215, 372), (216, 364), (217, 210), (218, 218), (219, 207), (220, 192), (221, 217), (222, 415), (223, 211), (224, 213), (225, 278), (226, 111), (227, 105), (228, 103), (229, 104), (230, 110), (231, 108), (232, 109), (233, 107), (234, 416), (235, 363), (236, 366), (237, 368), (238, 420), (239, 421), (240, 370), (241, 285), (242, 272), (243, 274), (244, 371), (245, 227), (246, 373), (247, 221), (248, 375), (249, 365), (250, 367), (251, 387), (252, 388), (253, 223), (254, 219), (255, 208), (256, 212), (257, 222), (258, 417), (259, 418), (260, 419), (261, 112), (262, 391), (263, 377), (264, 422), (265, 281), (266, 283), (267, 378), (268, 379), (269, 380), (270, 381), (271, 382), (272, 383), (273, 384), (274, 385), (275, 386), (276, 244), (277, 245), (278, 389), (279, 376), (280, 396), (281, 224), (282, 225), (283, 226), (284, 423), (285, 392), (286, 240), (287, 241), (288, 393), (289, 394), (290, 395), (291, 390), (292, 228), (293, 238), (294, 424), (295, 425), (296, 426), (297, 427), (298, 428), (299, 429), (300, 430), (301, 431), (302, 397), (303, 229), (304, 230), (305, 231), (306, 232), (307, 233), (308, 234), (309, 235), (310, 236), (311, 237), (312, 432), (313, 433), (314, 434), (315, 239), (316, 242), (317, 243), (318, 247), (319, 435), (320, 246)]
def μ : Fun := fun q => (μs.find? fun p => p.1 == q).map (·.2)
def φ : Fun := fun g => (μs.find? fun p => p.2 == g).map (·.1)
theorem tr_laws_FnTypes : trFunc Go.Proofs.Try.prog μ φ 5 = some A_laws_FnTypes := by kernel_rfl
theorem tr_laws_big : trFunc Go.Proofs.Try.prog μ φ 13 = some A_laws_big := by kernel_rfl
theorem tr_laws_likeInts : trFunc Go.Proofs.Try.prog μ φ 24 = some A_laws_likeInts := by kernel_rfl
theorem tr_spec_DrawIsType : trFunc Go.Proofs.Try.prog μ φ 32 = some A_spec_DrawIsType := by kernel_rfl
theorem tr_impl_IsType : trFunc Go.Proofs.Try.prog μ φ 33 = some A_impl_IsType := by kernel_rfl
theorem tr_spec_IsType : trFunc Go.Proofs.Try.prog μ φ 34 = some A_spec_IsType := by kernel_rfl
theorem tr_spec_DrawTypesOf : trFunc Go.Proofs.Try.prog μ φ 35 = some A_spec_DrawTypesOf := by kernel_rfl
theorem tr_impl_TypesOf : trFunc Go.Proofs.Try.prog μ φ 36 = some A_impl_TypesOf := by kernel_rfl
theorem tr_spec_TypesOf : trFunc Go.Proofs.Try.prog μ φ 37 = some A_spec_TypesOf := by kernel_rfl
theorem tr_laws_lists9 : trFunc Go.Proofs.Try.prog μ φ 38 = some A_laws_lists9 := by kernel_rfl
theorem tr_spec_DrawIsPassport : trFunc Go.Proofs.Try.prog μ φ 39 = some A_spec_DrawIsPassport := by kernel_rfl
theorem tr_impl_IsPassport : trFunc Go.Proofs.Try.prog μ φ 40 = some A_impl_IsPassport := by kernel_rfl
theorem tr_spec_IsPassport : trFunc Go.Proofs.Try.prog μ φ 41 = some A_spec_IsPassport := by kernel_rfl
theorem tr_impl_EulerOfPassport : trFunc Go.Proofs.Try.prog μ φ 42 = some A_impl_EulerOfPassport := by kernel_rfl
theorem tr_spec_EulerOfPassport : trFunc Go.Proofs.Try.prog μ φ 43 = some A_spec_EulerOfPassport := by kernel_rfl
theorem tr_impl_CentraliserOf : trFunc Go.Proofs.Try.prog μ φ 44 = some A_impl_CentraliserOf := by kernel_rfl
theorem tr_spec_CentraliserOf : trFunc Go.Proofs.Try.prog μ φ 45 = some A_spec_CentraliserOf := by kernel_rfl
theorem tr_laws_factorial9 : trFunc Go.Proofs.Try.prog μ φ 46 = some A_laws_factorial9 := by kernel_rfl
theorem tr_spec_l01From : trFunc Go.Proofs.Try.prog μ φ 115 = some A_spec_l01From := by kernel_rfl
theorem tr_spec_l01Is : trFunc Go.Proofs.Try.prog μ φ 118 = some A_spec_l01Is := by kernel_rfl
theorem tr_spec_l04DrawType : trFunc Go.Proofs.Try.prog μ φ 133 = some A_spec_l04DrawType := by kernel_rfl
theorem tr_spec_l01Next : trFunc Go.Proofs.Try.prog μ φ 134 = some A_spec_l01Next := by kernel_rfl
theorem tr_spec_l01Pick : trFunc Go.Proofs.Try.prog μ φ 135 = some A_spec_l01Pick := by kernel_rfl
theorem tr_impl_sumOfType : trFunc Go.Proofs.Try.prog μ φ 136 = some A_impl_sumOfType := by kernel_rfl
theorem tr_spec_l04Type : trFunc Go.Proofs.Try.prog μ φ 137 = some A_spec_l04Type := by kernel_rfl
theorem tr_impl_isSize : trFunc Go.Proofs.Try.prog μ φ 138 = some A_impl_isSize := by kernel_rfl
theorem tr_impl_types : trFunc Go.Proofs.Try.prog μ φ 139 = some A_impl_types := by kernel_rfl
theorem tr_spec_l01In : trFunc Go.Proofs.Try.prog μ φ 140 = some A_spec_l01In := by kernel_rfl
theorem tr_spec_l04Types : trFunc Go.Proofs.Try.prog μ φ 141 = some A_spec_l04Types := by kernel_rfl
theorem tr_spec_l04Draw : trFunc Go.Proofs.Try.prog μ φ 142 = some A_spec_l04Draw := by kernel_rfl
theorem tr_impl_sumOfPassport : trFunc Go.Proofs.Try.prog μ φ 143 = some A_impl_sumOfPassport := by kernel_rfl
theorem tr_spec_l04Is : trFunc Go.Proofs.Try.prog μ φ 144 = some A_spec_l04Is := by kernel_rfl
theorem tr_impl_eulerOf : trFunc Go.Proofs.Try.prog μ φ 145 = some A_impl_eulerOf := by kernel_rfl
theorem tr_spec_l04Sum : trFunc Go.Proofs.Try.prog μ φ 146 = some A_spec_l04Sum := by kernel_rfl
theorem tr_impl_centraliser : trFunc Go.Proofs.Try.prog μ φ 147 = some A_impl_centraliser := by kernel_rfl
theorem tr_spec_l04Centraliser : trFunc Go.Proofs.Try.prog μ φ 148 = some A_spec_l04Centraliser := by kernel_rfl
theorem tr_impl_repeated : trFunc Go.Proofs.Try.prog μ φ 182 = some A_impl_repeated := by kernel_rfl
theorem tr_spec_l01Type : trFunc Go.Proofs.Try.prog μ φ 188 = some A_spec_l01Type := by kernel_rfl
theorem tr_spec_l01DrawPlaces : trFunc Go.Proofs.Try.prog μ φ 197 = some A_spec_l01DrawPlaces := by kernel_rfl
theorem tr_spec_l01Perm : trFunc Go.Proofs.Try.prog μ φ 200 = some A_spec_l01Perm := by kernel_rfl
theorem tr_spec_l01Draw : trFunc Go.Proofs.Try.prog μ φ 215 = some A_spec_l01Draw := by kernel_rfl
theorem tr_spec_l01Same : trFunc Go.Proofs.Try.prog μ φ 216 = some A_spec_l01Same := by kernel_rfl
theorem tr_spec_l01Connected : trFunc Go.Proofs.Try.prog μ φ 219 = some A_spec_l01Connected := by kernel_rfl
theorem tr_spec_l01Face : trFunc Go.Proofs.Try.prog μ φ 220 = some A_spec_l01Face := by kernel_rfl
theorem tr_spec_l01Own : trFunc Go.Proofs.Try.prog μ φ 226 = some A_spec_l01Own := by kernel_rfl
theorem tr_spec_l01Cycles : trFunc Go.Proofs.Try.prog μ φ 241 = some A_spec_l01Cycles := by kernel_rfl
theorem tr_spec_l01Pairs : trFunc Go.Proofs.Try.prog μ φ 251 = some A_spec_l01Pairs := by kernel_rfl
theorem tr_spec_l01Star : trFunc Go.Proofs.Try.prog μ φ 252 = some A_spec_l01Star := by kernel_rfl
theorem tr_spec_l01Back : trFunc Go.Proofs.Try.prog μ φ 255 = some A_spec_l01Back := by kernel_rfl
theorem tr_spec_l01Then : trFunc Go.Proofs.Try.prog μ φ 256 = some A_spec_l01Then := by kernel_rfl
theorem tr_spec_l01Turn : trFunc Go.Proofs.Try.prog μ φ 280 = some A_spec_l01Turn := by kernel_rfl
theorem hΓ : ∀ g fn q, Γ g = some fn → φ g = some q → trFunc Go.Proofs.Try.prog μ φ q = some fn := by
  intro g fn q h1 h2
  match g, h1, h2 with
  | 307, h1, h2 =>
    cases h1
    have h : φ 307 = some 5 := by kernel_rfl
    rw [h] at h2
    cases h2
    exact tr_laws_FnTypes
  | 41, h1, h2 =>
    cases h1
    have h : φ 41 = some 13 := by kernel_rfl
    rw [h] at h2
    cases h2
    exact tr_laws_big
  | 43, h1, h2 =>
    cases h1
    have h : φ 43 = some 24 := by kernel_rfl
    rw [h] at h2
    cases h2
    exact tr_laws_likeInts
  | 308, h1, h2 =>
    cases h1
    have h : φ 308 = some 32 := by kernel_rfl
    rw [h] at h2
    cases h2
    exact tr_spec_DrawIsType
  | 309, h1, h2 =>
    cases h1
    have h : φ 309 = some 33 := by kernel_rfl
    rw [h] at h2
    cases h2
    exact tr_impl_IsType
  | 310, h1, h2 =>
    cases h1
    have h : φ 310 = some 34 := by kernel_rfl
    rw [h] at h2
    cases h2
    exact tr_spec_IsType
  | 311, h1, h2 =>
    cases h1
    have h : φ 311 = some 35 := by kernel_rfl
    rw [h] at h2
    cases h2
    exact tr_spec_DrawTypesOf
  | 312, h1, h2 =>
    cases h1
    have h : φ 312 = some 36 := by kernel_rfl
    rw [h] at h2
    cases h2
    exact tr_impl_TypesOf
  | 313, h1, h2 =>
    cases h1
    have h : φ 313 = some 37 := by kernel_rfl
    rw [h] at h2
    cases h2
    exact tr_spec_TypesOf
  | 51, h1, h2 =>
    cases h1
    have h : φ 51 = some 38 := by kernel_rfl
    rw [h] at h2
    cases h2
    exact tr_laws_lists9
  | 314, h1, h2 =>
    cases h1
    have h : φ 314 = some 39 := by kernel_rfl
    rw [h] at h2
    cases h2
    exact tr_spec_DrawIsPassport
  | 315, h1, h2 =>
    cases h1
    have h : φ 315 = some 40 := by kernel_rfl
    rw [h] at h2
    cases h2
    exact tr_impl_IsPassport
  | 316, h1, h2 =>
    cases h1
    have h : φ 316 = some 41 := by kernel_rfl
    rw [h] at h2
    cases h2
    exact tr_spec_IsPassport
  | 23, h1, h2 =>
    cases h1
    have h : φ 23 = some 42 := by kernel_rfl
    rw [h] at h2
    cases h2
    exact tr_impl_EulerOfPassport
  | 22, h1, h2 =>
    cases h1
    have h : φ 22 = some 43 := by kernel_rfl
    rw [h] at h2
    cases h2
    exact tr_spec_EulerOfPassport
  | 317, h1, h2 =>
    cases h1
    have h : φ 317 = some 44 := by kernel_rfl
    rw [h] at h2
    cases h2
    exact tr_impl_CentraliserOf
  | 318, h1, h2 =>
    cases h1
    have h : φ 318 = some 45 := by kernel_rfl
    rw [h] at h2
    cases h2
    exact tr_spec_CentraliserOf
  | 319, h1, h2 =>
    cases h1
    have h : φ 319 = some 46 := by kernel_rfl
    rw [h] at h2
    cases h2
    exact tr_laws_factorial9
  | 97, h1, h2 =>
    cases h1
    have h : φ 97 = some 115 := by kernel_rfl
    rw [h] at h2
    cases h2
    exact tr_spec_l01From
  | 184, h1, h2 =>
    cases h1
    have h : φ 184 = some 118 := by kernel_rfl
    rw [h] at h2
    cases h2
    exact tr_spec_l01Is
  | 350, h1, h2 =>
    cases h1
    have h : φ 350 = some 133 := by kernel_rfl
    rw [h] at h2
    cases h2
    exact tr_spec_l04DrawType
  | 102, h1, h2 =>
    cases h1
    have h : φ 102 = some 134 := by kernel_rfl
    rw [h] at h2
    cases h2
    exact tr_spec_l01Next
  | 98, h1, h2 =>
    cases h1
    have h : φ 98 = some 135 := by kernel_rfl
    rw [h] at h2
    cases h2
    exact tr_spec_l01Pick
  | 68, h1, h2 =>
    cases h1
    have h : φ 68 = some 136 := by kernel_rfl
    rw [h] at h2
    cases h2
    exact tr_impl_sumOfType
  | 106, h1, h2 =>
    cases h1
    have h : φ 106 = some 137 := by kernel_rfl
    rw [h] at h2
    cases h2
    exact tr_spec_l04Type
  | 220, h1, h2 =>
    cases h1
    have h : φ 220 = some 138 := by kernel_rfl
    rw [h] at h2
    cases h2
    exact tr_impl_isSize
  | 351, h1, h2 =>
    cases h1
    have h : φ 351 = some 139 := by kernel_rfl
    rw [h] at h2
    cases h2
    exact tr_impl_types
  | 58, h1, h2 =>
    cases h1
    have h : φ 58 = some 140 := by kernel_rfl
    rw [h] at h2
    cases h2
    exact tr_spec_l01In
  | 352, h1, h2 =>
    cases h1
    have h : φ 352 = some 141 := by kernel_rfl
    rw [h] at h2
    cases h2
    exact tr_spec_l04Types
  | 353, h1, h2 =>
    cases h1
    have h : φ 353 = some 142 := by kernel_rfl
    rw [h] at h2
    cases h2
    exact tr_spec_l04Draw
  | 80, h1, h2 =>
    cases h1
    have h : φ 80 = some 143 := by kernel_rfl
    rw [h] at h2
    cases h2
    exact tr_impl_sumOfPassport
  | 78, h1, h2 =>
    cases h1
    have h : φ 78 = some 144 := by kernel_rfl
    rw [h] at h2
    cases h2
    exact tr_spec_l04Is
  | 81, h1, h2 =>
    cases h1
    have h : φ 81 = some 145 := by kernel_rfl
    rw [h] at h2
    cases h2
    exact tr_impl_eulerOf
  | 79, h1, h2 =>
    cases h1
    have h : φ 79 = some 146 := by kernel_rfl
    rw [h] at h2
    cases h2
    exact tr_spec_l04Sum
  | 354, h1, h2 =>
    cases h1
    have h : φ 354 = some 147 := by kernel_rfl
    rw [h] at h2
    cases h2
    exact tr_impl_centraliser
  | 338, h1, h2 =>
    cases h1
    have h : φ 338 = some 148 := by kernel_rfl
    rw [h] at h2
    cases h2
    exact tr_spec_l04Centraliser
  | 70, h1, h2 =>
    cases h1
    have h : φ 70 = some 182 := by kernel_rfl
    rw [h] at h2
    cases h2
    exact tr_impl_repeated
  | 284, h1, h2 =>
    cases h1
    have h : φ 284 = some 188 := by kernel_rfl
    rw [h] at h2
    cases h2
    exact tr_spec_l01Type
  | 356, h1, h2 =>
    cases h1
    have h : φ 356 = some 197 := by kernel_rfl
    rw [h] at h2
    cases h2
    exact tr_spec_l01DrawPlaces
  | 206, h1, h2 =>
    cases h1
    have h : φ 206 = some 200 := by kernel_rfl
    rw [h] at h2
    cases h2
    exact tr_spec_l01Perm
  | 372, h1, h2 =>
    cases h1
    have h : φ 372 = some 215 := by kernel_rfl
    rw [h] at h2
    cases h2
    exact tr_spec_l01Draw
  | 364, h1, h2 =>
    cases h1
    have h : φ 364 = some 216 := by kernel_rfl
    rw [h] at h2
    cases h2
    exact tr_spec_l01Same
  | 207, h1, h2 =>
    cases h1
    have h : φ 207 = some 219 := by kernel_rfl
    rw [h] at h2
    cases h2
    exact tr_spec_l01Connected
  | 192, h1, h2 =>
    cases h1
    have h : φ 192 = some 220 := by kernel_rfl
    rw [h] at h2
    cases h2
    exact tr_spec_l01Face
  | 111, h1, h2 =>
    cases h1
    have h : φ 111 = some 226 := by kernel_rfl
    rw [h] at h2
    cases h2
    exact tr_spec_l01Own
  | 285, h1, h2 =>
    cases h1
    have h : φ 285 = some 241 := by kernel_rfl
    rw [h] at h2
    cases h2
    exact tr_spec_l01Cycles
  | 387, h1, h2 =>
    cases h1
    have h : φ 387 = some 251 := by kernel_rfl
    rw [h] at h2
    cases h2
    exact tr_spec_l01Pairs
  | 388, h1, h2 =>
    cases h1
    have h : φ 388 = some 252 := by kernel_rfl
    rw [h] at h2
    cases h2
    exact tr_spec_l01Star
  | 208, h1, h2 =>
    cases h1
    have h : φ 208 = some 255 := by kernel_rfl
    rw [h] at h2
    cases h2
    exact tr_spec_l01Back
  | 212, h1, h2 =>
    cases h1
    have h : φ 212 = some 256 := by kernel_rfl
    rw [h] at h2
    cases h2
    exact tr_spec_l01Then
  | 396, h1, h2 =>
    cases h1
    have h : φ 396 = some 280 := by kernel_rfl
    rw [h] at h2
    cases h2
    exact tr_spec_l01Turn
end Go.Am
