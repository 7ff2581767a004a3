/- The program's functions are those of the table: by the translation, checked by reckoning. -/
import Derived.Test.YtbfhlajbjfahiaaProg
import Derived.KernelRfl
import Derived.Test.YtbfhlajbjfahiaaAmTab
import Derived.Test.YtbfhlajbjfahiaaAmSound
set_option linter.unusedVariables false
set_option maxRecDepth 100000
namespace Go.Am
open Go
def μs : List (Nat × Nat) := [(3, 398), (4, 248), (5, 307), (6, 129), (7, 130), (8, 404), (9, 301), (10, 320), (11, 295), (12, 298), (13, 41), (14, 399), (15, 330), (16, 400), (17, 401), (18, 47), (19, 48), (20, 158), (21, 328), (22, 402), (23, 151), (24, 43), (25, 403), (26, 145), (27, 179), (28, 137), (29, 249), (30, 250), (31, 142), (32, 308), (33, 309), (34, 310), (35, 311), (36, 312), (37, 313), (38, 51), (39, 314), (40, 315), (41, 316), (42, 23), (43, 22), (44, 317), (45, 318), (46, 319), (47, 42), (48, 17), (49, 16), (50, 2), (51, 1), (52, 15), (53, 14), (54, 44), (55, 28), (56, 27), (57, 45), (58, 11), (59, 10), (60, 30), (61, 29), (62, 46), (63, 9), (64, 8), (65, 49), (66, 34), (67, 33), (68, 32), (69, 31), (70, 50), (71, 36), (72, 35), (73, 38), (74, 37), (75, 52), (76, 5), (77, 4), (78, 53), (79, 19), (80, 18), (81, 54), (82, 26), (83, 25), (84, 55), (85, 13), (86, 405), (87, 406), (88, 407), (89, 408), (90, 409), (91, 302), (92, 0), (93, 303), (94, 304), (95, 3), (96, 6), (97, 305), (98, 306), (99, 321), (100, 322), (101, 323), (102, 324), (103, 325), (104, 326), (105, 327), (106, 329), (107, 20), (108, 296), (109, 21), (110, 297), (111, 24), (112, 299), (113, 300), (114, 374), (115, 97), (116, 187), (117, 280), (118, 184), (119, 279), (120, 198), (121, 410), (122, 411), (123, 193), (124, 412), (125, 200), (126, 134), (127, 182), (128, 266), (129, 267), (130, 268), (131, 269), (132, 189), (133, 350), (134, 102), (135, 98), (136, 68), (137, 106), (138, 220), (139, 351), (140, 58), (141, 352), (142, 353), (143, 80), (144, 78), (145, 81), (146, 79), (147, 354), (148, 338), (149, 96), (150, 75), (151, 71), (152, 74), (153, 57), (154, 56), (155, 73), (156, 72), (157, 99), (158, 85), (159, 100), (160, 63), (161, 62), (162, 87), (163, 86), (164, 101), (165, 61), (166, 90), (167, 91), (168, 88), (169, 89), (170, 94), (171, 95), (172, 92), (173, 93), (174, 60), (175, 59), (176, 76), (177, 83), (178, 84), (179, 82), (180, 67), (181, 69), (182, 70), (183, 413), (184, 414), (185, 64), (186, 343), (187, 344), (188, 284), (189, 276), (190, 345), (191, 277), (192, 346), (193, 347), (194, 348), (195, 349), (196, 355), (197, 356), (198, 209), (199, 216), (200, 206), (201, 357), (202, 282), (203, 215), (204, 358), (205, 359), (206, 77), (207, 335), (208, 336), (209, 337), (210, 339), (211, 341), (212, 340), (213, 342), (214, 369), (215, 372), (216, 364), (217, 210), (218, 218), (219, 207), (220, 192), (221, 217), (222, 415), (223, 211), (224, 213), (225, 278), (226, 111), (227, 105), (228, 103), (229, 104), (230, 110), (231, 108), (232, 109), (233, 107), (234, 416), (235, 363), (236, 366), (237, 368), (238, 420), (239, 421), (240, 370), (241, 285), (242, 272), (243, 274), (244, 371), (245, 227), (246, 373), (247, 221), (248, 375), (249, 365), (250, 367), (251, 387), (252, 388), (253, 223), (254, 219), (255, 208), (256, 212), (257, 222), (258, 417), (259, 418), (260, 419), (261, 112), (262, 391), (263, 377), (264, 422), (265, 281), (266, 283), (267, 378), (268, 379), (269, 380), (270, 381), (271, 382), (272, 383), (273, 384), (274, 385), (275, 386), (276, 244), (277, 245), (278, 389), (279, 376), (280, 396), (281, 224), (282, 225), (283, 226), (284, 423), (285, 392), (286, 240), (287, 241), (288, 393), (289, 394), (290, 395), (291, 390), (292, 228), (293, 238), (294, 424), (295, 425), (296, 426), (297, 427), (298, 428), (299, 429), (300, 430), (301, 431), (302, 397), (303, 229), (304, 230), (305, 231), (306, 232), (307, 233), (308, 234), (309, 235), (310, 236), (311, 237), (312, 432), (313, 433), (314, 434), (315, 239), (316, 242), (317, 243), (318, 247), (319, 435), (320, 246)]
def μ : Fun := fun q => (μs.find? fun p => p.1 == q).map (·.2)
def φ : Fun := fun g => (μs.find? fun p => p.2 == g).map (·.1)
theorem tr_laws_FnExactTreeOfWord : trFunc Go.Proofs.Try.prog μ φ 4 = some A_laws_FnExactTreeOfWord := by kernel_rfl
theorem tr_spec_TreeOfWord : trFunc Go.Proofs.Try.prog μ φ 29 = some A_spec_TreeOfWord := by kernel_rfl
theorem tr_impl_TreeOfWord : trFunc Go.Proofs.Try.prog μ φ 30 = some A_impl_TreeOfWord := by kernel_rfl
theorem tr_laws_eqDessin : trFunc Go.Proofs.Try.prog μ φ 31 = some A_laws_eqDessin := by kernel_rfl
theorem tr_spec_l05Word : trFunc Go.Proofs.Try.prog μ φ 128 = some A_spec_l05Word := by kernel_rfl
theorem tr_spec_l05Made : trFunc Go.Proofs.Try.prog μ φ 129 = some A_spec_l05Made := by kernel_rfl
theorem tr_impl_isBrackets : trFunc Go.Proofs.Try.prog μ φ 130 = some A_impl_isBrackets := by kernel_rfl
theorem tr_impl_treeOfWord : trFunc Go.Proofs.Try.prog μ φ 131 = some A_impl_treeOfWord := by kernel_rfl
theorem tr_laws_eqPlaces : trFunc Go.Proofs.Try.prog μ φ 132 = some A_laws_eqPlaces := by kernel_rfl
theorem tr_impl_treeOfWord_1 : trFunc Go.Proofs.Try.prog μ φ 225 = some A_impl_treeOfWord_1 := by kernel_rfl
theorem hΓ : ∀ g fn q, Γ g = some fn → φ g = some q → trFunc Go.Proofs.Try.prog μ φ q = some fn := by
  intro g fn q h1 h2
  match g, h1, h2 with
  | 248, h1, h2 =>
    cases h1
    have h : φ 248 = some 4 := by kernel_rfl
    rw [h] at h2
    cases h2
    exact tr_laws_FnExactTreeOfWord
  | 249, h1, h2 =>
    cases h1
    have h : φ 249 = some 29 := by kernel_rfl
    rw [h] at h2
    cases h2
    exact tr_spec_TreeOfWord
  | 250, h1, h2 =>
    cases h1
    have h : φ 250 = some 30 := by kernel_rfl
    rw [h] at h2
    cases h2
    exact tr_impl_TreeOfWord
  | 142, h1, h2 =>
    cases h1
    have h : φ 142 = some 31 := by kernel_rfl
    rw [h] at h2
    cases h2
    exact tr_laws_eqDessin
  | 266, h1, h2 =>
    cases h1
    have h : φ 266 = some 128 := by kernel_rfl
    rw [h] at h2
    cases h2
    exact tr_spec_l05Word
  | 267, h1, h2 =>
    cases h1
    have h : φ 267 = some 129 := by kernel_rfl
    rw [h] at h2
    cases h2
    exact tr_spec_l05Made
  | 268, h1, h2 =>
    cases h1
    have h : φ 268 = some 130 := by kernel_rfl
    rw [h] at h2
    cases h2
    exact tr_impl_isBrackets
  | 269, h1, h2 =>
    cases h1
    have h : φ 269 = some 131 := by kernel_rfl
    rw [h] at h2
    cases h2
    exact tr_impl_treeOfWord
  | 189, h1, h2 =>
    cases h1
    have h : φ 189 = some 132 := by kernel_rfl
    rw [h] at h2
    cases h2
    exact tr_laws_eqPlaces
  | 278, h1, h2 =>
    cases h1
    have h : φ 278 = some 225 := by kernel_rfl
    rw [h] at h2
    cases h2
    exact tr_impl_treeOfWord_1
end Go.Am
