/- Texts that a proof of this claim uses, joined: Lw.Head. -/
import Derived.Test.YtpekfakljjogjaaGreatRows
import Derived.Test.YtpekfakljjogjaaGreatChecked
import Derived.JoinedOf
import Derived.KernelRfl
set_option linter.all false
/- What all claims of this seat use of the program's head. -/
namespace Go.Proofs.YtpekfakljjogjaaGreat
open Go

theorem strip_cut (r : List (List Char)) : stripLifts liftWords ("cut".toList :: r) = ([], "cut".toList :: r) := by kernel_rfl
theorem enter_of {Q : Program} {r : List (List Char)} (h : behindMainWord (wordsSigns Q.initOrder.toList) = "cut".toList :: r) (hd : Q.doorFits [] = true) (hl : Q.laysLater = false) (hb : Q.bearsReflect = false) : Q.mayEnter = true := by
  unfold Program.mayEnter
  rw [h]
  simp only [strip_cut, hd, hl, hb]
  rfl
theorem final_of {Q : Program} {r : List (List Char)} (h : behindMainWord (wordsSigns Q.initOrder.toList) = "cut".toList :: r) : Q.liftsFinal = false := by
  unfold Program.liftsFinal Program.headLifts
  rw [h]
  simp only [strip_cut]
  rfl
theorem make_of {Q : Program} {r : List (List Char)} (h : behindMainWord (wordsSigns Q.initOrder.toList) = "cut".toList :: r) : Q.make = some .cut := by
  unfold Program.make
  rw [h]
  simp
def headNums : List Nat := [104, 97, 114, 110, 101, 115, 115, 32, 99, 52, 50, 55, 52, 57, 102, 53, 97, 52, 97, 56, 99, 54, 102, 102, 56, 48, 51, 98, 102, 101, 51, 54, 49, 98, 49, 50, 102, 101, 98, 101, 51, 53, 52, 101, 53, 50, 53, 99, 51, 51, 48, 48, 100, 102, 100, 49, 57, 54, 99, 99, 99, 102, 49, 97, 50, 51, 52, 99, 54, 49, 55, 55, 32, 99, 117, 116, 32, 97, 116, 32, 111, 118, 101, 114, 102, 108, 105, 103, 104, 116, 47, 111, 118, 101, 114, 102, 108, 105, 103, 104, 116, 108, 97, 119, 52, 50, 46, 67, 97, 117, 115, 101, 115, 83, 104, 97, 114, 101, 115, 83, 112, 101, 99]
def headWords : List (List Nat) := [[97, 116], [111, 118, 101, 114, 102, 108, 105, 103, 104, 116, 47, 111, 118, 101, 114, 102, 108, 105, 103, 104, 116, 108, 97, 119, 52, 50, 46, 67, 97, 117, 115, 101, 115, 83, 104, 97, 114, 101, 115, 83, 112, 101, 99]]
theorem head_of : Tryz.prog.initOrder = String.ofList (headNums.map Char.ofNat) := by kernel_rfl
theorem head_chars : Tryz.prog.initOrder.toList = headNums.map Char.ofNat := by rw [head_of]; exact String.toList_ofList
theorem head_words : behindMainWord (wordsSigns Tryz.prog.initOrder.toList) = "cut".toList :: headWords.map (List.map Char.ofNat) := by
  rw [head_chars]; kernel_rfl
theorem enter : Tryz.prog.mayEnter = true := enter_of head_words (by kernel_rfl) (by kernel_rfl) (by kernel_rfl)
theorem final : Tryz.prog.liftsFinal = false := final_of head_words
theorem make : Tryz.prog.make = some .cut := make_of head_words

theorem andT {a b : Bool} (h : a = true) (h' : b = true) : (a && b) = true := by rw [h, h']; rfl
theorem own : ownKnob Tryz.prog.godebug = none := by kernel_rfl
theorem laidOut : laidOutB Tryz.prog = true := by kernel_rfl
end Go.Proofs.YtpekfakljjogjaaGreat
