/- Texts that a proof of this claim uses, joined: Lw.Head. -/
import Derived.Test.YtkhdnmaebokedaaGreatRows
import Derived.Test.YtkhdnmaebokedaaGreatChecked
import Derived.JoinedOf
import Derived.KernelRfl
set_option linter.all false
namespace Go.Proofs.YtkhdnmaebokedaaGreat
open Go

theorem zb5 (r : List (List Char)) : stripLifts liftWords ("cut".toList :: r) = ([],"cut".toList :: r):=by kernel_rfl
theorem zno {Q : Program} {r : List (List Char)} (h : behindMainWord (wordsSigns Q.initOrder.toList) = "cut".toList :: r) (hd : Q.doorFits [] = true) (hl : Q.laysLater = false) (hb : Q.bearsReflect = false) : Q.mayEnter = true:=by
 unfold Program.mayEnter
 rw [h]
 simp only [zb5,hd,hl,hb]
 rfl
theorem znk {Q : Program} {r : List (List Char)} (h : behindMainWord (wordsSigns Q.initOrder.toList) = "cut".toList :: r) : Q.liftsFinal = false:=by
 unfold Program.liftsFinal Program.headLifts
 rw [h]
 simp only [zb5]
 rfl
theorem zq4 {Q : Program} {r : List (List Char)} (h : behindMainWord (wordsSigns Q.initOrder.toList) = "cut".toList :: r) : Q.make = some .cut:=by
 unfold Program.make
 rw [h]
 simp
def headNums : List Nat:=[104,97,114,110,101,115,115,32,48,50,55,101,52,99,52,101,102,48,56,101,50,98,97,55,51,98,56,54,57,53,53,52,53,99,55,99,50,98,49,50,57,51,55,57,97,54,50,100,101,53,102,49,101,51,53,53,102,52,99,52,57,100,50,52,54,50,55,53,53,53,48,53,32,99,117,116,32,97,116,32,111,118,101,114,102,108,105,103,104,116,47,111,118,101,114,102,108,105,103,104,116,108,97,119,51,49,46,67,101,114,116,105,102,105,99,97,116,101,67,111,118,101,114,115,83,112,101,99,32,111,118,101,114,102,108,105,103,104,116,47,111,118,101,114,102,108,105,103,104,116,108,97,119,51,49,46,67,101,114,116,105,102,105,99,97,116,101,67,111,100,101,83,112,101,99,32,111,118,101,114,102,108,105,103,104,116,47,111,118,101,114,102,108,105,103,104,116,108,97,119,51,49,46,67,101,114,116,105,102,105,99,97,116,101,80,114,111,118,101,115,32,111,118,101,114,102,108,105,103,104,116,47,111,118,101,114,102,108,105,103,104,116,108,97,119,51,49,46,67,101,114,116,105,102,105,99,97,116,101,85,110,105,113,117,101,32,111,118,101,114,102,108,105,103,104,116,47,111,118,101,114,102,108,105,103,104,116,108,97,119,51,49,46,67,101,114,116,105,102,105,99,97,116,101,68,105,118,105,100,101,115,32,111,118,101,114,102,108,105,103,104,116,47,111,118,101,114,102,108,105,103,104,116,108,97,119,51,49,46,67,101,114,116,105,102,105,99,97,116,101,76,101,115,115,32,111,118,101,114,102,108,105,103,104,116,47,111,118,101,114,102,108,105,103,104,116,108,97,119,51,51,46,82,101,112,97,105,114,83,101,97,114,99,104,32,111,118,101,114,102,108,105,103,104,116,47,111,118,101,114,102,108,105,103,104,116,108,97,119,51,51,46,82,101,112,97,105,114,75,101,101,112,115]
def headWords : List (List Nat):=[[97,116],[111,118,101,114,102,108,105,103,104,116,47,111,118,101,114,102,108,105,103,104,116,108,97,119,51,49,46,67,101,114,116,105,102,105,99,97,116,101,67,111,118,101,114,115,83,112,101,99],[111,118,101,114,102,108,105,103,104,116,47,111,118,101,114,102,108,105,103,104,116,108,97,119,51,49,46,67,101,114,116,105,102,105,99,97,116,101,67,111,100,101,83,112,101,99],[111,118,101,114,102,108,105,103,104,116,47,111,118,101,114,102,108,105,103,104,116,108,97,119,51,49,46,67,101,114,116,105,102,105,99,97,116,101,80,114,111,118,101,115],[111,118,101,114,102,108,105,103,104,116,47,111,118,101,114,102,108,105,103,104,116,108,97,119,51,49,46,67,101,114,116,105,102,105,99,97,116,101,85,110,105,113,117,101],[111,118,101,114,102,108,105,103,104,116,47,111,118,101,114,102,108,105,103,104,116,108,97,119,51,49,46,67,101,114,116,105,102,105,99,97,116,101,68,105,118,105,100,101,115],[111,118,101,114,102,108,105,103,104,116,47,111,118,101,114,102,108,105,103,104,116,108,97,119,51,49,46,67,101,114,116,105,102,105,99,97,116,101,76,101,115,115],[111,118,101,114,102,108,105,103,104,116,47,111,118,101,114,102,108,105,103,104,116,108,97,119,51,51,46,82,101,112,97,105,114,83,101,97,114,99,104],[111,118,101,114,102,108,105,103,104,116,47,111,118,101,114,102,108,105,103,104,116,108,97,119,51,51,46,82,101,112,97,105,114,75,101,101,112,115]]
theorem zqd : Tryz.prog.initOrder = String.ofList (headNums.map Char.ofNat):=by kernel_rfl
theorem zht : Tryz.prog.initOrder.toList = headNums.map Char.ofNat:=by rw [zqd]; exact String.toList_ofList
theorem z63 : behindMainWord (wordsSigns Tryz.prog.initOrder.toList) = "cut".toList :: headWords.map (List.map Char.ofNat):=by
 rw [zht]; kernel_rfl
theorem enter : Tryz.prog.mayEnter = true:=zno z63 (by kernel_rfl) (by kernel_rfl) (by kernel_rfl)
theorem final : Tryz.prog.liftsFinal = false:=znk z63
theorem make : Tryz.prog.make = some .cut:=zq4 z63

theorem andT {a b : Bool} (h : a = true) (h' : b = true) : (a && b) = true:=by rw [h,h']; rfl
theorem own : ownKnob Tryz.prog.godebug = none:=by kernel_rfl
theorem laidOut : laidOutB Tryz.prog = true:=by kernel_rfl
end Go.Proofs.YtkhdnmaebokedaaGreat
