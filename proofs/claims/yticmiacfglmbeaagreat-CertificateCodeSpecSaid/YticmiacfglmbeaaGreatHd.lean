/- Texts that a proof of this claim uses, joined: Lw.Head. -/
import Derived.Test.YticmiacfglmbeaaGreatRows
import Derived.Test.YticmiacfglmbeaaGreatChecked
import Derived.JoinedOf
import Derived.KernelRfl
set_option linter.all false
namespace Go.Proofs.YticmiacfglmbeaaGreat
open Go

theorem zbu (r:List (List Char)):stripLifts liftWords ("cut".toList::r)=([],"cut".toList::r):=by kernel_rfl
theorem znw {Q:Program} {r:List (List Char)} (h:behindMainWord (wordsSigns Q.initOrder.toList) = "cut".toList::r) (hd:Q.doorFits []=true) (hl:Q.laysLater=false) (hb:Q.bearsReflect=false):Q.mayEnter=true:=by
 unfold Program.mayEnter
 rw [h]
 simp only [zbu,hd,hl,hb]
 rfl
theorem znr {Q:Program} {r:List (List Char)} (h:behindMainWord (wordsSigns Q.initOrder.toList) = "cut".toList::r):Q.liftsFinal=false:=by
 unfold Program.liftsFinal Program.headLifts
 rw [h]
 simp only [zbu]
 rfl
theorem zqa {Q:Program} {r:List (List Char)} (h:behindMainWord (wordsSigns Q.initOrder.toList) = "cut".toList::r):Q.make=some .cut:=by
 unfold Program.make
 rw [h]
 simp
def headNums:List Nat:=[104,97,114,110,101,115,115,32,51,54,50,57,102,51,55,55,98,49,99,99,98,99,56,100,52,101,98,100,55,54,49,48,50,54,52,99,55,98,98,97,54,57,51,97,54,51,100,102,101,99,100,48,99,54,99,102,101,98,55,100,54,49,54,53,101,56,52,49,51,100,48,48,32,99,117,116,32,97,116,32,111,118,101,114,102,108,105,103,104,116,47,111,118,101,114,102,108,105,103,104,116,108,97,119,51,49,46,67,101,114,116,105,102,105,99,97,116,101,67,111,100,101,83,112,101,99]
def headWords:List (List Nat):=[[97,116],[111,118,101,114,102,108,105,103,104,116,47,111,118,101,114,102,108,105,103,104,116,108,97,119,51,49,46,67,101,114,116,105,102,105,99,97,116,101,67,111,100,101,83,112,101,99]]
theorem zqi:Tryz.prog.initOrder=String.ofList (headNums.map Char.ofNat):=by kernel_rfl
theorem zhp:Tryz.prog.initOrder.toList=headNums.map Char.ofNat:=by rw [zqi];exact String.toList_ofList
theorem z6z:behindMainWord (wordsSigns Tryz.prog.initOrder.toList) = "cut".toList::headWords.map (List.map Char.ofNat):=by
 rw [zhp];kernel_rfl
theorem enter:Tryz.prog.mayEnter=true:=znw z6z (by kernel_rfl) (by kernel_rfl) (by kernel_rfl)
theorem final:Tryz.prog.liftsFinal=false:=znr z6z
theorem make:Tryz.prog.make=some .cut:=zqa z6z

theorem andT {a b:Bool} (h:a=true) (h':b=true):(a && b)=true:=by rw [h,h'];rfl
theorem own:ownKnob Tryz.prog.godebug=none:=by kernel_rfl
theorem laidOut:laidOutB Tryz.prog=true:=by kernel_rfl
end Go.Proofs.YticmiacfglmbeaaGreat
