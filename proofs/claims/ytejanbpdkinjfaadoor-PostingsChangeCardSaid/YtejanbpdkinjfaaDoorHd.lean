/- Texts that a proof of this claim uses, joined: Lw.Head, Lw.HeadD. -/
import Derived.Test.YtejanbpdkinjfaaDoorRows
import Derived.Test.YtejanbpdkinjfaaDoorChecked
import Derived.JoinedOf
import Derived.KernelRfl
import Derived.Test.YtejanbpdkinjfaaDoorDva
import Derived.ProofKit
import Derived.LaidMore
import Derived.OpenShut
import Derived.LaidHandle
import Derived.Stop.Joined
set_option linter.all false
namespace Go.Proofs.YtejanbpdkinjfaaDoor
open Go

theorem zc6 (r : List (List Char)) : stripLifts liftWords ("cut".toList :: r) = ([],"cut".toList :: r):=by kernel_rfl
theorem zok {Q : Program} {r : List (List Char)} (h : behindMainWord (wordsSigns Q.initOrder.toList) = "cut".toList :: r) (hd : Q.doorFits [] = true) (hl : Q.laysLater = false) (hb : Q.bearsReflect = false) : Q.mayEnter = true:=by
 unfold Program.mayEnter
 rw [h]
 simp only [zc6,hd,hl,hb]
 rfl
theorem zof {Q : Program} {r : List (List Char)} (h : behindMainWord (wordsSigns Q.initOrder.toList) = "cut".toList :: r) : Q.liftsFinal = false:=by
 unfold Program.liftsFinal Program.headLifts
 rw [h]
 simp only [zc6]
 rfl
theorem zrq {Q : Program} {r : List (List Char)} (h : behindMainWord (wordsSigns Q.initOrder.toList) = "cut".toList :: r) : Q.make = some .cut:=by
 unfold Program.make
 rw [h]
 simp
def headNums : List Nat:=[104,97,114,110,101,115,115,32,55,100,54,52,99,97,54,53,53,101,48,48,55,99,52,49,53,100,97,56,97,99,97,55,54,98,99,55,49,53,56,52,102,97,49,97,56,52,48,55,57,101,55,51,102,57,101,57,53,100,57,57,51,56,51,54,50,54,101,57,99,54,48,102,32,99,117,116,32,97,116,32,111,118,101,114,102,108,105,103,104,116,47,111,118,101,114,102,108,105,103,104,116,108,97,119,52,49,46,80,111,115,116,105,110,103,115,67,104,97,110,103,101]
def headWords : List (List Nat):=[[97,116],[111,118,101,114,102,108,105,103,104,116,47,111,118,101,114,102,108,105,103,104,116,108,97,119,52,49,46,80,111,115,116,105,110,103,115,67,104,97,110,103,101]]
theorem zs1 : Tryd.prog.initOrder = String.ofList (headNums.map Char.ofNat):=by kernel_rfl
theorem zi2 : Tryd.prog.initOrder.toList = headNums.map Char.ofNat:=by rw [zs1]; exact String.toList_ofList
theorem z6o : behindMainWord (wordsSigns Tryd.prog.initOrder.toList) = "cut".toList :: headWords.map (List.map Char.ofNat):=by
 rw [zi2]; kernel_rfl
theorem enter : Tryd.prog.mayEnter = true:=zok z6o (by kernel_rfl) (by kernel_rfl) (by kernel_rfl)
theorem final : Tryd.prog.liftsFinal = false:=zof z6o
theorem make : Tryd.prog.make = some .cut:=zrq z6o

theorem andT {a b : Bool} (h : a = true) (h' : b = true) : (a && b) = true:=by rw [h,h']; rfl
theorem own : ownKnob Tryd.prog.godebug = none:=by kernel_rfl
theorem laidOut : laidOutB Tryd.prog = true:=by kernel_rfl
end Go.Proofs.YtejanbpdkinjfaaDoor

namespace Go.Proofs.YtejanbpdkinjfaaDoor
open Go Go.ChangeShapes Go.WideShapes Go.ChangeAt Go.RowKit

def laidOf : List (String × DataW Unit):=[("overflight/digest.start",Rows.laid_overflight_digest_start),("overflight/digest.numbers",Rows.laid_overflight_digest_numbers)]
theorem zco {W : World} {n : String} {g t e : Nat} {size : Nat} {cs : Array Value} {fuel : Nat} {L : List (IntKind × Int)} {p : List MemPlace} (hg : Tryd.prog.globalNamed n = some g) (hv : W.var? Tryd.prog n = some cs)
  (hu : Tryd.prog.underlying t = some (.array size e)) (hu2 : Tryd.prog.underlying e = some (.int .u32)) (hc : Tryd.prog.cellsOf e = 1) (hL : L.length = size)
  (h : DataW.trod (H:=Unit) (fun _=>()) Tryd.prog W 0 (fun _=>true) false fuel t cs.toList = some (.agg (L.map fun x=>.lit (.int x.1 x.2)),p)) (j : Nat) (k : IntKind) (z : Int) (hj : L[j]? = some (k,z)) :
  Dv.cellOf W.heap g j = some (.int k z):=by
 obtain ⟨xs,m,_,ex,_,hl,hel⟩:=DataW.trod_array hu h
 have hjl : j < L.length:=(List.getElem?_eq_some_iff.1 hj).1
 have hE:=hel j (by omega)
 rw [hc,Nat.mul_one,List.getElem?_eq_getElem (by omega)] at hE
 obtain ⟨y,e1,e2,_⟩:=DataW.trod_int hu2 hE
 have e3 : (xs.map (·.1)) = L.map fun x=>.lit (.int x.1 x.2):=(DataW.agg.inj (Prod.mk.inj ex).1).symm
 have e4 : (xs.map (·.1))[j]? = (L.map fun x=>(DataW.lit (.int x.1 x.2) : DataW Unit))[j]?:=by rw [e3]
 rw [List.getElem?_map,List.getElem?_map,List.getElem?_eq_getElem (by omega : j < xs.length),hj,e2] at e4
 simp only [Option.map_some,Option.some.injEq,DataW.lit.injEq,Lit.int.injEq] at e4
 obtain ⟨rfl,rfl⟩:=e4
 rw [<- Dv.cell?_eq,World.var?_cell hg hv j]
 have : cs.toList[j]? = some (.int .u32 y):=by
  have h0 : ((cs.toList.drop j).take 1)[0]? = some (.int .u32 y):=by rw [e1]; rfl
  simpa using h0
 simpa using this
theorem znx {W : World} (h : laidMetH Tryd.prog laidOf W) : ∀ g cs,Dv.glTab.lookup g = some cs -> ∀ (j : Nat) k n,cs[j]? = some (k,n) -> Dv.cellOf W.heap g j = some (.int k n):=by
 rw [MakeChecks.laidMetH_plain _ _ _ (by kernel_rfl)] at h
 obtain ⟨ps,⟨g0,t0,cs0,f0,p0,q0,hg0,ht0,hv0,hd0,⟨g1,t1,cs1,f1,p1,q1,hg1,ht1,hv1,hd1,_,_⟩,_⟩,_,_⟩:=h
 obtain rfl:=Option.some.inj ((show Tryd.prog.globalNamed "overflight/digest.start" = some 0 by kernel_rfl).symm.trans hg0)
 obtain rfl:=Option.some.inj ((show Tryd.prog.globalNamed "overflight/digest.numbers" = some 1 by kernel_rfl).symm.trans hg1)
 obtain rfl:=Option.some.inj ((show (Tryd.prog.globals[0]?).map (·.type) = some 87 by kernel_rfl).symm.trans ht0)
 obtain rfl:=Option.some.inj ((show (Tryd.prog.globals[1]?).map (·.type) = some 111 by kernel_rfl).symm.trans ht1)
 intro g cs hl j k n hj
 match g,hl with
 | 0,hl=>
  obtain rfl:=Option.some.inj ((rfl : Dv.glTab.lookup 0 = _).symm.trans hl)
  exact zco hg0 hv0 Tryd.underlying87 Tryd.underlying86 (by kernel_rfl) rfl hd0 j k n hj
 | 1,hl=>
  obtain rfl:=Option.some.inj ((rfl : Dv.glTab.lookup 1 = _).symm.trans hl)
  exact zco hg1 hv1 Tryd.underlying111 Tryd.underlying86 (by kernel_rfl) rfl hd1 j k n hj
 | (g + 2),hl=>exact absurd hl (by simp [Dv.glTab,List.lookup])
theorem zop (os : Os) (args : Array Value) : laidMetH Tryd.prog laidOf ((World.doorLaid Tryd.prog 19 os).forCall (fun _ _=>0) ⟨#[],args,[]⟩).memory:=
 laidMetH_of_parts3 (fuel:=8) (laidMet_of_run' 8 (by kernel_rfl) (by kernel_rfl)) (by kernel_rfl) (by kernel_rfl)
end Go.Proofs.YtejanbpdkinjfaaDoor
