/- Facts of the whole program that each row asks for. -/
import Derived.Test.YteklchkdgpoedaaAmB
import Derived.WalkKit
import Derived.ProofKit
import Derived.OpenShut
namespace Go.Am
open Go Go.RowKit
theorem j1 : (laidOutB Go.Proofs.Try.prog) = true := by kernel_rfl
theorem j2 : (mapsRowed Go.Proofs.Try.prog) = true := by kernel_rfl
theorem j6 : (Go.Proofs.Try.prog.stops == []) = true := by kernel_rfl
theorem j8 : (Go.Proofs.Try.prog.stopKnobs == []) = true := by kernel_rfl
theorem j24 : (Go.Proofs.Try.prog.stopsHeard) = true := by kernel_rfl
theorem wordsSigns_split (b : List Char) : ∀ a : List Char, (a.all fun c => !(c == Char.ofNat 32)) = true → wordsSigns (a ++ Char.ofNat 32 :: b) = a :: wordsSigns b
  | [], _ => by
    show wordsSigns (Char.ofNat 32 :: b) = _
    rw [wordsSigns]
  | c :: a, h => by
    simp only [List.all_cons, Bool.and_eq_true] at h
    have ih := wordsSigns_split b a h.2
    have hc : c ≠ Char.ofNat 32 := fun e => by rw [e] at h; simp at h
    show wordsSigns (c :: (a ++ Char.ofNat 32 :: b)) = _
    rw [wordsSigns]
    · rw [ih]
    · exact hc
theorem cut_words {P : Program} {s r cs : List Char} (h0 : P.initOrder = String.ofList cs) (h : cs = "harness".toList ++ Char.ofNat 32 :: (s ++ Char.ofNat 32 :: ("cut".toList ++ Char.ofNat 32 :: r))) (hs : isSumSigns s = true) (hns : (s.all fun c => !(c == Char.ofNat 32)) = true) :
    behindMainWord (wordsSigns P.initOrder.toList) = "cut".toList :: wordsSigns r := by
  have e : wordsSigns P.initOrder.toList = "harness".toList :: s :: "cut".toList :: wordsSigns r := by
    rw [h0, String.toList_ofList, h, wordsSigns_split _ _ (by decide), wordsSigns_split _ _ hns, wordsSigns_split _ _ (by decide)]
  rw [e]
  simp [behindMainWord, hs]
theorem strip_cut (w : List (List Char)) : stripLifts liftWords ("cut".toList :: w) = ([], "cut".toList :: w) := by simp [stripLifts, liftWords]
theorem mayEnter_cut {P : Program} {r : List Char} (h : behindMainWord (wordsSigns P.initOrder.toList) = "cut".toList :: wordsSigns r) (h1 : P.laysLater = false) (h2 : P.bearsReflect = false) (h3 : P.doorRows = []) : P.mayEnter = true := by
  unfold Program.mayEnter
  rw [h]
  simp only [strip_cut]
  simp [h1, h2, Program.doorFits, h3]
theorem liftsFinal_cut {P : Program} {r : List Char} (h : behindMainWord (wordsSigns P.initOrder.toList) = "cut".toList :: wordsSigns r) : P.liftsFinal = false := by
  unfold Program.liftsFinal Program.headLifts
  rw [h]
  simp only [strip_cut]
  simp
theorem make_cut {P : Program} {r : List Char} (h : behindMainWord (wordsSigns P.initOrder.toList) = "cut".toList :: wordsSigns r) : P.make = some .cut := by
  unfold Program.make
  rw [h]
  simp
def initSigns : List Char := [104, 97, 114, 110, 101, 115, 115, 32, 102, 49, 55, 98, 52, 50, 48, 97, 98, 52, 98, 101, 99, 49, 55, 99, 102, 53, 57, 101, 97, 99, 48, 101, 56, 49, 100, 52, 98, 100, 97, 49, 52, 48, 98, 52, 53, 49, 101, 55, 48, 54, 97, 52, 100, 56, 52, 100, 49, 100, 101, 56, 101, 48, 98, 51, 55, 97, 98, 49, 56, 52, 55, 55, 32, 99, 117, 116, 32, 97, 116, 32, 108, 111, 111, 112, 46, 101, 120, 97, 109, 112, 108, 101, 47, 103, 48, 49, 50, 48, 48, 47, 108, 97, 119, 115, 46, 70, 110, 84, 111, 112, 32, 108, 111, 111, 112, 46, 101, 120, 97, 109, 112, 108, 101, 47, 103, 48, 49, 50, 48, 48, 47, 108, 97, 119, 115, 46, 70, 110, 70, 105, 101, 108, 100, 80, 111, 108, 121, 110, 111, 109, 105, 97, 108, 115, 32, 108, 111, 111, 112, 46, 101, 120, 97, 109, 112, 108, 101, 47, 103, 48, 49, 50, 48, 48, 47, 108, 97, 119, 115, 46, 70, 110, 83, 104, 97, 98, 97, 116, 115, 32, 108, 111, 111, 112, 46, 101, 120, 97, 109, 112, 108, 101, 47, 103, 48, 49, 50, 48, 48, 47, 108, 97, 119, 115, 46, 70, 110, 69, 120, 97, 99, 116, 84, 114, 101, 101, 115, 79, 102, 84, 121, 112, 101, 115].map Char.ofNat
theorem initOrder_is : Go.Proofs.Try.prog.initOrder = String.ofList initSigns := by kernel_rfl
theorem initWords : behindMainWord (wordsSigns Go.Proofs.Try.prog.initOrder.toList) = "cut".toList :: wordsSigns (initSigns.drop 77) := cut_words (s := (initSigns.drop 8).take 64) initOrder_is (by kernel_rfl) (by kernel_rfl) (by kernel_rfl)
theorem j25 : (Go.Proofs.Try.prog.mayEnter) = true := mayEnter_cut initWords (by kernel_rfl) (by kernel_rfl) (by kernel_rfl)
theorem j26 : Go.Proofs.Try.prog.liftsFinal = false := liftsFinal_cut initWords
theorem j27 : Go.Proofs.Try.prog.make = some .cut := make_cut initWords
end Go.Am
