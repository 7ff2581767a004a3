/- Facts of the whole program that each row asks for. -/
import Derived.Test.YtdadgoboeonoaaaAmB
import Derived.WalkKit
import Derived.ProofKit
import Derived.OpenShut
namespace Go.Am
open Go Go.RowKit
theorem j1 : (laidOutB Go.Proofs.Try.prog) = true := by kernel_rfl
theorem j2 : (mapsRowed Go.Proofs.Try.prog) = true := by kernel_rfl
theorem j6 : (Go.Proofs.Try.prog.stops == []) = true := by kernel_rfl
theorem j8 : (Go.Proofs.Try.prog.stopKnobs == []) = true := by kernel_rfl
theorem j24 : (Go.Proofs.Try.prog.stopsHeard) = true := by kernel_rfl
theorem wordsSigns_split (b : List Char) : ∀ a : List Char, (a.all fun c => !(c == Char.ofNat 32)) = true → wordsSigns (a ++ Char.ofNat 32 :: b) = a :: wordsSigns b
  | [], _ => by
    show wordsSigns (Char.ofNat 32 :: b) = _
    rw [wordsSigns]
  | c :: a, h => by
    simp only [List.all_cons, Bool.and_eq_true] at h
    have ih := wordsSigns_split b a h.2
    have hc : c ≠ Char.ofNat 32 := fun e => by rw [e] at h; simp at h
    show wordsSigns (c :: (a ++ Char.ofNat 32 :: b)) = _
    rw [wordsSigns]
    · rw [ih]
    · exact hc
theorem cut_words {P : Program} {s r cs : List Char} (h0 : P.initOrder = String.ofList cs) (h : cs = "harness".toList ++ Char.ofNat 32 :: (s ++ Char.ofNat 32 :: ("cut".toList ++ Char.ofNat 32 :: r))) (hs : isSumSigns s = true) (hns : (s.all fun c => !(c == Char.ofNat 32)) = true) :
    behindMainWord (wordsSigns P.initOrder.toList) = "cut".toList :: wordsSigns r := by
  have e : wordsSigns P.initOrder.toList = "harness".toList :: s :: "cut".toList :: wordsSigns r := by
    rw [h0, String.toList_ofList, h, wordsSigns_split _ _ (by decide), wordsSigns_split _ _ hns, wordsSigns_split _ _ (by decide)]
  rw [e]
  simp [behindMainWord, hs]
theorem strip_cut (w : List (List Char)) : stripLifts liftWords ("cut".toList :: w) = ([], "cut".toList :: w) := by simp [stripLifts, liftWords]
theorem mayEnter_cut {P : Program} {r : List Char} (h : behindMainWord (wordsSigns P.initOrder.toList) = "cut".toList :: wordsSigns r) (h1 : P.laysLater = false) (h2 : P.bearsReflect = false) (h3 : P.doorRows = []) : P.mayEnter = true := by
  unfold Program.mayEnter
  rw [h]
  simp only [strip_cut]
  simp [h1, h2, Program.doorFits, h3]
theorem liftsFinal_cut {P : Program} {r : List Char} (h : behindMainWord (wordsSigns P.initOrder.toList) = "cut".toList :: wordsSigns r) : P.liftsFinal = false := by
  unfold Program.liftsFinal Program.headLifts
  rw [h]
  simp only [strip_cut]
  simp
theorem make_cut {P : Program} {r : List Char} (h : behindMainWord (wordsSigns P.initOrder.toList) = "cut".toList :: wordsSigns r) : P.make = some .cut := by
  unfold Program.make
  rw [h]
  simp
def initSigns : List Char := [104, 97, 114, 110, 101, 115, 115, 32, 97, 48, 102, 101, 52, 57, 50, 99, 51, 57, 51, 49, 52, 51, 52, 51, 57, 102, 97, 100, 101, 53, 57, 57, 57, 101, 50, 56, 57, 52, 56, 100, 98, 97, 56, 100, 52, 99, 56, 57, 52, 55, 102, 99, 100, 55, 54, 57, 100, 48, 101, 56, 99, 50, 53, 52, 51, 102, 54, 52, 53, 48, 100, 50, 32, 99, 117, 116, 32, 97, 116, 32, 108, 111, 111, 112, 46, 101, 120, 97, 109, 112, 108, 101, 47, 103, 48, 49, 50, 48, 48, 47, 108, 97, 119, 115, 46, 70, 110, 69, 120, 97, 99, 116, 65, 114, 101, 70, 108, 97, 103, 115, 32, 108, 111, 111, 112, 46, 101, 120, 97, 109, 112, 108, 101, 47, 103, 48, 49, 50, 48, 48, 47, 108, 97, 119, 115, 46, 70, 110, 69, 120, 97, 99, 116, 69, 117, 108, 101, 114, 79, 102, 70, 108, 97, 103, 115, 32, 108, 111, 111, 112, 46, 101, 120, 97, 109, 112, 108, 101, 47, 103, 48, 49, 50, 48, 48, 47, 108, 97, 119, 115, 46, 70, 110, 69, 120, 97, 99, 116, 77, 105, 114, 114, 111, 114, 79, 102, 32, 108, 111, 111, 112, 46, 101, 120, 97, 109, 112, 108, 101, 47, 103, 48, 49, 50, 48, 48, 47, 108, 97, 119, 115, 46, 70, 110, 69, 120, 97, 99, 116, 83, 117, 98, 100, 105, 118, 105, 100, 101, 100, 79, 102, 32, 108, 111, 111, 112, 46, 101, 120, 97, 109, 112, 108, 101, 47, 103, 48, 49, 50, 48, 48, 47, 108, 97, 119, 115, 46, 70, 110, 69, 120, 97, 99, 116, 73, 115, 79, 114, 105, 101, 110, 116, 97, 98, 108, 101, 32, 108, 111, 111, 112, 46, 101, 120, 97, 109, 112, 108, 101, 47, 103, 48, 49, 50, 48, 48, 47, 108, 97, 119, 115, 46, 70, 110, 69, 120, 97, 99, 116, 69, 120, 99, 104, 97, 110, 103, 101, 79, 102, 32, 108, 111, 111, 112, 46, 101, 120, 97, 109, 112, 108, 101, 47, 103, 48, 49, 50, 48, 48, 47, 108, 97, 119, 115, 46, 70, 110, 69, 120, 97, 99, 116, 84, 117, 114, 110, 70, 108, 97, 103, 115, 32, 108, 111, 111, 112, 46, 101, 120, 97, 109, 112, 108, 101, 47, 103, 48, 49, 50, 48, 48, 47, 108, 97, 119, 115, 46, 70, 110, 69, 120, 97, 99, 116, 65, 114, 101, 65, 108, 105, 107, 101, 32, 108, 111, 111, 112, 46, 101, 120, 97, 109, 112, 108, 101, 47, 103, 48, 49, 50, 48, 48, 47, 108, 97, 119, 115, 46, 70, 110, 69, 120, 97, 99, 116, 73, 115, 67, 104, 105, 114, 97, 108, 32, 108, 111, 111, 112, 46, 101, 120, 97, 109, 112, 108, 101, 47, 103, 48, 49, 50, 48, 48, 47, 108, 97, 119, 115, 46, 70, 110, 69, 120, 97, 99, 116, 77, 97, 112, 79, 102, 70, 108, 97, 103, 115, 32, 108, 111, 111, 112, 46, 101, 120, 97, 109, 112, 108, 101, 47, 103, 48, 49, 50, 48, 48, 47, 108, 97, 119, 115, 46, 70, 110, 69, 120, 97, 99, 116, 73, 115, 67, 108, 101, 97, 110, 32, 108, 111, 111, 112, 46, 101, 120, 97, 109, 112, 108, 101, 47, 103, 48, 49, 50, 48, 48, 47, 108, 97, 119, 115, 46, 70, 110, 69, 120, 97, 99, 116, 70, 97, 99, 101, 68, 101, 103, 114, 101, 101, 115, 32, 108, 111, 111, 112, 46, 101, 120, 97, 109, 112, 108, 101, 47, 103, 48, 49, 50, 48, 48, 47, 108, 97, 119, 115, 46, 70, 110, 69, 120, 97, 99, 116, 86, 101, 114, 116, 101, 120, 68, 101, 103, 114, 101, 101, 115, 32, 108, 111, 111, 112, 46, 101, 120, 97, 109, 112, 108, 101, 47, 103, 48, 49, 50, 48, 48, 47, 108, 97, 119, 115, 46, 70, 110, 69, 120, 97, 99, 116, 90, 105, 103, 122, 97, 103, 68, 101, 103, 114, 101, 101, 115, 32, 108, 111, 111, 112, 46, 101, 120, 97, 109, 112, 108, 101, 47, 103, 48, 49, 50, 48, 48, 47, 108, 97, 119, 115, 46, 70, 110, 69, 120, 97, 99, 116, 70, 108, 97, 103, 115, 79, 102].map Char.ofNat
theorem initOrder_is : Go.Proofs.Try.prog.initOrder = String.ofList initSigns := by kernel_rfl
theorem initWords : behindMainWord (wordsSigns Go.Proofs.Try.prog.initOrder.toList) = "cut".toList :: wordsSigns (initSigns.drop 77) := cut_words (s := (initSigns.drop 8).take 64) initOrder_is (by kernel_rfl) (by kernel_rfl) (by kernel_rfl)
theorem j25 : (Go.Proofs.Try.prog.mayEnter) = true := mayEnter_cut initWords (by kernel_rfl) (by kernel_rfl) (by kernel_rfl)
theorem j26 : Go.Proofs.Try.prog.liftsFinal = false := liftsFinal_cut initWords
theorem j27 : Go.Proofs.Try.prog.make = some .cut := make_cut initWords
end Go.Am
