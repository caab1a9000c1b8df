/- Texts that a proof of this claim uses, joined: Lw.Head. -/
import Derived.Test.YtpekfakljjogjaaRows
import Derived.Test.YtpekfakljjogjaaChecked
import Derived.JoinedOf
import Derived.KernelRfl
set_option linter.all false
/- What all claims of this seat use of the program's head. -/
namespace Go.Proofs.Ytpekfakljjogjaa
open Go

theorem strip_cut (r : List (List Char)) : stripLifts liftWords ("cut".toList :: r) = ([], "cut".toList :: r) := by kernel_rfl
theorem enter_of {Q : Program} {r : List (List Char)} (h : behindMainWord (wordsSigns Q.initOrder.toList) = "cut".toList :: r) (hd : Q.doorFits [] = true) (hl : Q.laysLater = false) (hb : Q.bearsReflect = false) : Q.mayEnter = true := by
  unfold Program.mayEnter
  rw [h]
  simp only [strip_cut, hd, hl, hb]
  rfl
theorem final_of {Q : Program} {r : List (List Char)} (h : behindMainWord (wordsSigns Q.initOrder.toList) = "cut".toList :: r) : Q.liftsFinal = false := by
  unfold Program.liftsFinal Program.headLifts
  rw [h]
  simp only [strip_cut]
  rfl
theorem make_of {Q : Program} {r : List (List Char)} (h : behindMainWord (wordsSigns Q.initOrder.toList) = "cut".toList :: r) : Q.make = some .cut := by
  unfold Program.make
  rw [h]
  simp
def headNums : List Nat := [104, 97, 114, 110, 101, 115, 115, 32, 97, 99, 54, 48, 97, 56, 50, 53, 100, 49, 57, 98, 51, 99, 98, 51, 52, 52, 51, 57, 97, 57, 52, 99, 52, 50, 99, 56, 50, 51, 56, 51, 57, 98, 50, 48, 98, 102, 100, 101, 48, 52, 57, 56, 97, 54, 55, 53, 100, 98, 50, 51, 50, 53, 53, 51, 48, 52, 98, 50, 98, 98, 102, 55, 32, 99, 117, 116, 32, 97, 116, 32, 111, 118, 101, 114, 102, 108, 105, 103, 104, 116, 47, 111, 118, 101, 114, 102, 108, 105, 103, 104, 116, 108, 97, 119, 52, 50, 46, 67, 97, 117, 115, 101, 115, 65, 100, 100, 32, 111, 118, 101, 114, 102, 108, 105, 103, 104, 116, 47, 111, 118, 101, 114, 102, 108, 105, 103, 104, 116, 108, 97, 119, 52, 50, 46, 67, 97, 117, 115, 101, 115, 83, 116, 101, 112, 115, 32, 111, 118, 101, 114, 102, 108, 105, 103, 104, 116, 47, 111, 118, 101, 114, 102, 108, 105, 103, 104, 116, 108, 97, 119, 52, 50, 46, 67, 97, 117, 115, 101, 115, 78, 111, 116, 104, 105, 110, 103, 32, 111, 118, 101, 114, 102, 108, 105, 103, 104, 116, 47, 111, 118, 101, 114, 102, 108, 105, 103, 104, 116, 108, 97, 119, 52, 50, 46, 67, 97, 117, 115, 101, 115, 78, 117, 109, 98, 101, 114, 115, 32, 111, 118, 101, 114, 102, 108, 105, 103, 104, 116, 47, 111, 118, 101, 114, 102, 108, 105, 103, 104, 116, 108, 97, 119, 52, 50, 46, 67, 97, 117, 115, 101, 115, 77, 111, 114, 101]
def headWords : List (List Nat) := [[97, 116], [111, 118, 101, 114, 102, 108, 105, 103, 104, 116, 47, 111, 118, 101, 114, 102, 108, 105, 103, 104, 116, 108, 97, 119, 52, 50, 46, 67, 97, 117, 115, 101, 115, 65, 100, 100], [111, 118, 101, 114, 102, 108, 105, 103, 104, 116, 47, 111, 118, 101, 114, 102, 108, 105, 103, 104, 116, 108, 97, 119, 52, 50, 46, 67, 97, 117, 115, 101, 115, 83, 116, 101, 112, 115], [111, 118, 101, 114, 102, 108, 105, 103, 104, 116, 47, 111, 118, 101, 114, 102, 108, 105, 103, 104, 116, 108, 97, 119, 52, 50, 46, 67, 97, 117, 115, 101, 115, 78, 111, 116, 104, 105, 110, 103], [111, 118, 101, 114, 102, 108, 105, 103, 104, 116, 47, 111, 118, 101, 114, 102, 108, 105, 103, 104, 116, 108, 97, 119, 52, 50, 46, 67, 97, 117, 115, 101, 115, 78, 117, 109, 98, 101, 114, 115], [111, 118, 101, 114, 102, 108, 105, 103, 104, 116, 47, 111, 118, 101, 114, 102, 108, 105, 103, 104, 116, 108, 97, 119, 52, 50, 46, 67, 97, 117, 115, 101, 115, 77, 111, 114, 101]]
theorem head_of : Try.prog.initOrder = String.ofList (headNums.map Char.ofNat) := by kernel_rfl
theorem head_chars : Try.prog.initOrder.toList = headNums.map Char.ofNat := by rw [head_of]; exact String.toList_ofList
theorem head_words : behindMainWord (wordsSigns Try.prog.initOrder.toList) = "cut".toList :: headWords.map (List.map Char.ofNat) := by
  rw [head_chars]; kernel_rfl
theorem enter : Try.prog.mayEnter = true := enter_of head_words (by kernel_rfl) (by kernel_rfl) (by kernel_rfl)
theorem final : Try.prog.liftsFinal = false := final_of head_words
theorem make : Try.prog.make = some .cut := make_of head_words

theorem andT {a b : Bool} (h : a = true) (h' : b = true) : (a && b) = true := by rw [h, h']; rfl
theorem own : ownKnob Try.prog.godebug = none := by kernel_rfl
theorem laidOut : laidOutB Try.prog = true := by kernel_rfl
end Go.Proofs.Ytpekfakljjogjaa
