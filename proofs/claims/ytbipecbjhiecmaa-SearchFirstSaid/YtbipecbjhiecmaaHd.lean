/- Texts that a proof of this claim uses, joined: Lw.Head. -/
import Derived.Test.YtbipecbjhiecmaaRows
import Derived.Test.YtbipecbjhiecmaaChecked
import Derived.JoinedOf
import Derived.KernelRfl
set_option linter.all false
/- What all claims of this seat use of the program's head. -/
namespace Go.Proofs.Ytbipecbjhiecmaa
open Go

theorem strip_cut (r : List (List Char)) : stripLifts liftWords ("cut".toList :: r) = ([], "cut".toList :: r) := by kernel_rfl
theorem enter_of {Q : Program} {r : List (List Char)} (h : behindMainWord (wordsSigns Q.initOrder.toList) = "cut".toList :: r) (hd : Q.doorFits [] = true) (hl : Q.laysLater = false) (hb : Q.bearsReflect = false) : Q.mayEnter = true := by
  unfold Program.mayEnter
  rw [h]
  simp only [strip_cut, hd, hl, hb]
  rfl
theorem final_of {Q : Program} {r : List (List Char)} (h : behindMainWord (wordsSigns Q.initOrder.toList) = "cut".toList :: r) : Q.liftsFinal = false := by
  unfold Program.liftsFinal Program.headLifts
  rw [h]
  simp only [strip_cut]
  rfl
theorem make_of {Q : Program} {r : List (List Char)} (h : behindMainWord (wordsSigns Q.initOrder.toList) = "cut".toList :: r) : Q.make = some .cut := by
  unfold Program.make
  rw [h]
  simp
def headNums : List Nat := [104, 97, 114, 110, 101, 115, 115, 32, 99, 54, 55, 98, 56, 55, 48, 100, 56, 51, 57, 48, 51, 98, 57, 100, 102, 57, 101, 56, 102, 56, 102, 49, 99, 57, 100, 53, 56, 50, 50, 51, 52, 98, 56, 99, 51, 100, 48, 51, 100, 48, 57, 56, 101, 53, 101, 99, 55, 98, 98, 48, 52, 97, 53, 55, 98, 57, 54, 56, 55, 53, 97, 54, 32, 99, 117, 116, 32, 97, 116, 32, 111, 118, 101, 114, 102, 108, 105, 103, 104, 116, 47, 111, 118, 101, 114, 102, 108, 105, 103, 104, 116, 108, 97, 119, 51, 48, 46, 83, 101, 97, 114, 99, 104, 83, 111, 108, 118, 101, 83, 112, 101, 99, 32, 111, 118, 101, 114, 102, 108, 105, 103, 104, 116, 47, 111, 118, 101, 114, 102, 108, 105, 103, 104, 116, 108, 97, 119, 51, 48, 46, 83, 101, 97, 114, 99, 104, 80, 105, 101, 99, 101, 115, 32, 111, 118, 101, 114, 102, 108, 105, 103, 104, 116, 47, 111, 118, 101, 114, 102, 108, 105, 103, 104, 116, 108, 97, 119, 51, 48, 46, 83, 101, 97, 114, 99, 104, 66, 101, 116, 116, 101, 114, 32, 111, 118, 101, 114, 102, 108, 105, 103, 104, 116, 47, 111, 118, 101, 114, 102, 108, 105, 103, 104, 116, 108, 97, 119, 51, 48, 46, 83, 101, 97, 114, 99, 104, 70, 101, 119, 101, 114, 32, 111, 118, 101, 114, 102, 108, 105, 103, 104, 116, 47, 111, 118, 101, 114, 102, 108, 105, 103, 104, 116, 108, 97, 119, 51, 48, 46, 83, 101, 97, 114, 99, 104, 82, 111, 111, 109, 32, 111, 118, 101, 114, 102, 108, 105, 103, 104, 116, 47, 111, 118, 101, 114, 102, 108, 105, 103, 104, 116, 108, 97, 119, 51, 48, 46, 83, 101, 97, 114, 99, 104, 70, 105, 114, 115, 116, 32, 111, 118, 101, 114, 102, 108, 105, 103, 104, 116, 47, 111, 118, 101, 114, 102, 108, 105, 103, 104, 116, 108, 97, 119, 51, 48, 46, 83, 101, 97, 114, 99, 104, 76, 101, 97, 118, 101, 115]
def headWords : List (List Nat) := [[97, 116], [111, 118, 101, 114, 102, 108, 105, 103, 104, 116, 47, 111, 118, 101, 114, 102, 108, 105, 103, 104, 116, 108, 97, 119, 51, 48, 46, 83, 101, 97, 114, 99, 104, 83, 111, 108, 118, 101, 83, 112, 101, 99], [111, 118, 101, 114, 102, 108, 105, 103, 104, 116, 47, 111, 118, 101, 114, 102, 108, 105, 103, 104, 116, 108, 97, 119, 51, 48, 46, 83, 101, 97, 114, 99, 104, 80, 105, 101, 99, 101, 115], [111, 118, 101, 114, 102, 108, 105, 103, 104, 116, 47, 111, 118, 101, 114, 102, 108, 105, 103, 104, 116, 108, 97, 119, 51, 48, 46, 83, 101, 97, 114, 99, 104, 66, 101, 116, 116, 101, 114], [111, 118, 101, 114, 102, 108, 105, 103, 104, 116, 47, 111, 118, 101, 114, 102, 108, 105, 103, 104, 116, 108, 97, 119, 51, 48, 46, 83, 101, 97, 114, 99, 104, 70, 101, 119, 101, 114], [111, 118, 101, 114, 102, 108, 105, 103, 104, 116, 47, 111, 118, 101, 114, 102, 108, 105, 103, 104, 116, 108, 97, 119, 51, 48, 46, 83, 101, 97, 114, 99, 104, 82, 111, 111, 109], [111, 118, 101, 114, 102, 108, 105, 103, 104, 116, 47, 111, 118, 101, 114, 102, 108, 105, 103, 104, 116, 108, 97, 119, 51, 48, 46, 83, 101, 97, 114, 99, 104, 70, 105, 114, 115, 116], [111, 118, 101, 114, 102, 108, 105, 103, 104, 116, 47, 111, 118, 101, 114, 102, 108, 105, 103, 104, 116, 108, 97, 119, 51, 48, 46, 83, 101, 97, 114, 99, 104, 76, 101, 97, 118, 101, 115]]
theorem head_of : Try.prog.initOrder = String.ofList (headNums.map Char.ofNat) := by kernel_rfl
theorem head_chars : Try.prog.initOrder.toList = headNums.map Char.ofNat := by rw [head_of]; exact String.toList_ofList
theorem head_words : behindMainWord (wordsSigns Try.prog.initOrder.toList) = "cut".toList :: headWords.map (List.map Char.ofNat) := by
  rw [head_chars]; kernel_rfl
theorem enter : Try.prog.mayEnter = true := enter_of head_words (by kernel_rfl) (by kernel_rfl) (by kernel_rfl)
theorem final : Try.prog.liftsFinal = false := final_of head_words
theorem make : Try.prog.make = some .cut := make_of head_words

theorem andT {a b : Bool} (h : a = true) (h' : b = true) : (a && b) = true := by rw [h, h']; rfl
theorem own : ownKnob Try.prog.godebug = none := by kernel_rfl
theorem laidOut : laidOutB Try.prog = true := by kernel_rfl
end Go.Proofs.Ytbipecbjhiecmaa
