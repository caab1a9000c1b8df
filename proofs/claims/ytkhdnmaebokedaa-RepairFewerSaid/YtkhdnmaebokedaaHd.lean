/- Texts that a proof of this claim uses, joined: Lw.Head. -/
import Derived.Test.YtkhdnmaebokedaaRows
import Derived.Test.YtkhdnmaebokedaaChecked
import Derived.JoinedOf
import Derived.KernelRfl
set_option linter.all false
namespace Go.Proofs.Ytkhdnmaebokedaa
open Go

theorem strip_cut (r : List (List Char)) : stripLifts liftWords ("cut".toList :: r) = ([],"cut".toList :: r):=by kernel_rfl
theorem enter_of {Q : Program} {r : List (List Char)} (h : behindMainWord (wordsSigns Q.initOrder.toList) = "cut".toList :: r) (hd : Q.doorFits [] = true) (hl : Q.laysLater = false) (hb : Q.bearsReflect = false) : Q.mayEnter = true:=by
 unfold Program.mayEnter
 rw [h]
 simp only [strip_cut,hd,hl,hb]
 rfl
theorem final_of {Q : Program} {r : List (List Char)} (h : behindMainWord (wordsSigns Q.initOrder.toList) = "cut".toList :: r) : Q.liftsFinal = false:=by
 unfold Program.liftsFinal Program.headLifts
 rw [h]
 simp only [strip_cut]
 rfl
theorem make_of {Q : Program} {r : List (List Char)} (h : behindMainWord (wordsSigns Q.initOrder.toList) = "cut".toList :: r) : Q.make = some .cut:=by
 unfold Program.make
 rw [h]
 simp
def headNums : List Nat:=[104,97,114,110,101,115,115,32,98,56,50,51,48,53,56,98,48,102,54,55,48,55,49,56,49,52,97,100,49,51,102,54,48,100,56,52,56,98,55,51,55,100,56,49,55,54,54,53,98,97,57,53,99,53,51,100,57,56,97,98,101,51,56,98,99,56,53,57,54,56,99,50,32,99,117,116,32,97,116,32,111,118,101,114,102,108,105,103,104,116,47,111,118,101,114,102,108,105,103,104,116,108,97,119,51,51,46,82,101,112,97,105,114,70,105,114,115,116,32,111,118,101,114,102,108,105,103,104,116,47,111,118,101,114,102,108,105,103,104,116,108,97,119,51,51,46,82,101,112,97,105,114,66,97,99,107,32,111,118,101,114,102,108,105,103,104,116,47,111,118,101,114,102,108,105,103,104,116,108,97,119,51,51,46,82,101,112,97,105,114,70,101,119,101,114]
def headWords : List (List Nat):=[[97,116],[111,118,101,114,102,108,105,103,104,116,47,111,118,101,114,102,108,105,103,104,116,108,97,119,51,51,46,82,101,112,97,105,114,70,105,114,115,116],[111,118,101,114,102,108,105,103,104,116,47,111,118,101,114,102,108,105,103,104,116,108,97,119,51,51,46,82,101,112,97,105,114,66,97,99,107],[111,118,101,114,102,108,105,103,104,116,47,111,118,101,114,102,108,105,103,104,116,108,97,119,51,51,46,82,101,112,97,105,114,70,101,119,101,114]]
theorem head_of : Try.prog.initOrder = String.ofList (headNums.map Char.ofNat):=by kernel_rfl
theorem head_chars : Try.prog.initOrder.toList = headNums.map Char.ofNat:=by rw [head_of]; exact String.toList_ofList
theorem head_words : behindMainWord (wordsSigns Try.prog.initOrder.toList) = "cut".toList :: headWords.map (List.map Char.ofNat):=by
 rw [head_chars]; kernel_rfl
theorem enter : Try.prog.mayEnter = true:=enter_of head_words (by kernel_rfl) (by kernel_rfl) (by kernel_rfl)
theorem final : Try.prog.liftsFinal = false:=final_of head_words
theorem make : Try.prog.make = some .cut:=make_of head_words

theorem andT {a b : Bool} (h : a = true) (h' : b = true) : (a && b) = true:=by rw [h,h']; rfl
theorem own : ownKnob Try.prog.godebug = none:=by kernel_rfl
theorem laidOut : laidOutB Try.prog = true:=by kernel_rfl
end Go.Proofs.Ytkhdnmaebokedaa
