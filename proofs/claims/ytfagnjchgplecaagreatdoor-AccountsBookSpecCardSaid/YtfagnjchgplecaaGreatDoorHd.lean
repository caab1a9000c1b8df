/- Texts that a proof of this claim uses, joined: Lw.Head, Lw.HeadD. -/
import Derived.Test.YtfagnjchgplecaaGreatDoorRows
import Derived.Test.YtfagnjchgplecaaGreatDoorChecked
import Derived.JoinedOf
import Derived.KernelRfl
import Derived.Test.YtfagnjchgplecaaGreatDoorDva
import Derived.ProofKit
import Derived.LaidMore
import Derived.OpenShut
import Derived.LaidHandle
import Derived.Stop.Joined
set_option linter.all false
open Char renaming ofNat->lh
open List renaming getElem?_eq_getElem->ae,getElem?_map->bK
open Option.some renaming inj->co,injEq->aa
namespace Go.Proofs.YtfagnjchgplecaaGreatDoor
open Go

theorem zer(r:List (List Char)):stripLifts liftWords ("cut".toList::r)=([],"cut".toList::r):=by kernel_rfl
theorem zti{Q:Program}{r:List (List Char)}(h:behindMainWord (wordsSigns Q.initOrder.toList) = "cut".toList::r)(hd:Q.doorFits []=true)(hl:Q.laysLater=false)(hb:Q.bearsReflect=false):Q.mayEnter=true:=by
 unfold Program.mayEnter
 rw[h]
 simp only[zer,hd,hl,hb]
 rfl
theorem ztd{Q:Program}{r:List (List Char)}(h:behindMainWord (wordsSigns Q.initOrder.toList) = "cut".toList::r):Q.liftsFinal=false:=by
 unfold Program.liftsFinal Program.headLifts
 rw[h]
 simp only[zer]
 rfl
theorem zww{Q:Program}{r:List (List Char)}(h:behindMainWord (wordsSigns Q.initOrder.toList) = "cut".toList::r):Q.make=some .cut:=by
 unfold Program.make
 rw[h]
 simp
def y8i:List Nat:=[104,97,114,110,101,115,115,32,55,53,102,99,51,99,56,101,54,54,100,51,50,54,53,100,102,55,51,48,51,57,52,55,100,98,56,50,97,53,100,48,98,100,101,52,53,98,50,48,53,102,99,100,52,101,101,53,57,97,55,50,99,98,53,99,99,51,52,54,57,48,101,49,32,99,117,116,32,97,116,32,111,118,101,114,102,108,105,103,104,116,47,111,118,101,114,102,108,105,103,104,116,116,111,112,46,84,111,112,77,111,110,101,121,32,111,118,101,114,102,108,105,103,104,116,47,111,118,101,114,102,108,105,103,104,116,108,97,119,52,51,46,65,99,99,111,117,110,116,115,66,111,111,107,83,112,101,99,32,111,118,101,114,102,108,105,103,104,116,47,111,118,101,114,102,108,105,103,104,116,108,97,119,52,51,46,65,99,99,111,117,110,116,115,83,116,97,116,101,109,101,110,116,83,112,101,99,32,111,118,101,114,102,108,105,103,104,116,47,111,118,101,114,102,108,105,103,104,116,108,97,119,52,51,46,65,99,99,111,117,110,116,115,83,104,97,114,101,115]
def y9i:List (List Nat):=[[97,116],[111,118,101,114,102,108,105,103,104,116,47,111,118,101,114,102,108,105,103,104,116,116,111,112,46,84,111,112,77,111,110,101,121],[111,118,101,114,102,108,105,103,104,116,47,111,118,101,114,102,108,105,103,104,116,108,97,119,52,51,46,65,99,99,111,117,110,116,115,66,111,111,107,83,112,101,99],[111,118,101,114,102,108,105,103,104,116,47,111,118,101,114,102,108,105,103,104,116,108,97,119,52,51,46,65,99,99,111,117,110,116,115,83,116,97,116,101,109,101,110,116,83,112,101,99],[111,118,101,114,102,108,105,103,104,116,47,111,118,101,114,102,108,105,103,104,116,108,97,119,52,51,46,65,99,99,111,117,110,116,115,83,104,97,114,101,115]]
theorem zxa:Tryz.prog.initOrder=String.ofList (y8i.map lh):=by kernel_rfl
theorem zm8:Tryz.prog.initOrder.toList=y8i.map lh:=by rw[zxa];exact String.toList_ofList
theorem z82:behindMainWord (wordsSigns Tryz.prog.initOrder.toList) = "cut".toList::y9i.map (List.map lh):=by
 rw[zm8];kernel_rfl
theorem enter:Tryz.prog.mayEnter=true:=zti z82 (by kernel_rfl) (by kernel_rfl) (by kernel_rfl)
theorem final:Tryz.prog.liftsFinal=false:=ztd z82
theorem make:Tryz.prog.make=some .cut:=zww z82

theorem andT{a b:Bool}(h:a=true)(h':b=true):(a && b)=true:=by rw[h,h'];rfl
theorem own:ownKnob Tryz.prog.godebug=none:=by kernel_rfl
theorem laidOut:laidOutB Tryz.prog=true:=by kernel_rfl
end Go.Proofs.YtfagnjchgplecaaGreatDoor

namespace Go.Proofs.YtfagnjchgplecaaGreatDoor
open Go Go.ChangeShapes Go.WideShapes Go.ChangeAt Go.RowKit

def laidOf:List (String × DataW Unit):=[("overflight/digest.start",Rows.laid_overflight_digest_start),("overflight/digest.numbers",Rows.laid_overflight_digest_numbers)]
theorem zfb{W:World}{n:String}{g t e:Nat}{size:Nat}{cs:Array Value}{fuel:Nat}{L:List (IntKind × Int)}{p:List MemPlace}(hg:Tryz.prog.globalNamed n=some g)(hv:W.var? Tryz.prog n=some cs)
  (hu:Tryz.prog.underlying t=some (.array size e)) (hu2:Tryz.prog.underlying e=some (.int .u32)) (hc:Tryz.prog.cellsOf e=1) (hL:L.length=size)
  (h:DataW.trod (H:=Unit) (fun _=>()) Tryz.prog W 0 (fun _=>true) false fuel t cs.toList=some (.agg (L.map fun x=>.lit (.int x.1 x.2)),p)) (j:Nat) (k:IntKind) (z:Int) (hj:L[j]? = some (k,z)) :
  Dv.cellOf W.heap g j=some (.int k z):=by
 obtain⟨xs,m,_,ex,_,hl,hel⟩:=DataW.trod_array hu h
 have hjl:j<L.length:=(List.getElem?_eq_some_iff.1 hj).1
 have hE:=hel j (by omega)
 rw[hc,Nat.mul_one,ae (by omega)] at hE
 obtain⟨y,e1,e2,_⟩:=DataW.trod_int hu2 hE
 have e3:(xs.map (·.1))=L.map fun x=>.lit (.int x.1 x.2):=(DataW.agg.inj (Prod.mk.inj ex).1).symm
 have e4:(xs.map (·.1))[j]? = (L.map fun x=>(DataW.lit (.int x.1 x.2):DataW Unit))[j]?:=by rw[e3]
 rw[bK,bK,ae (by omega:j<xs.length),hj,e2] at e4
 simp only[Option.map_some,aa,DataW.lit.injEq,Lit.int.injEq] at e4
 obtain⟨rfl,rfl⟩:=e4
 rw[<- Dv.cell?_eq,World.var?_cell hg hv j]
 have:cs.toList[j]? = some (.int .u32 y):=by
  have h0:((cs.toList.drop j).take 1)[0]? = some (.int .u32 y):=by rw[e1];rfl
  simpa using h0
 simpa using this
theorem zjf{W:World}(h:laidMetH Tryz.prog laidOf W):∀ g cs,Dv.glTab.lookup g=some cs->∀(j:Nat) k n,cs[j]? = some (k,n)->Dv.cellOf W.heap g j=some (.int k n):=by
 rw[MakeChecks.laidMetH_plain _ _ _ (by kernel_rfl)] at h
 obtain⟨ps,⟨g0,t0,cs0,f0,p0,q0,hg0,ht0,hv0,hd0,⟨g1,t1,cs1,f1,p1,q1,hg1,ht1,hv1,hd1,_,_⟩,_⟩,_,_⟩:=h
 obtain rfl:=co ((show Tryz.prog.globalNamed "overflight/digest.start" = some 0 by kernel_rfl).symm.trans hg0)
 obtain rfl:=co ((show Tryz.prog.globalNamed "overflight/digest.numbers" = some 1 by kernel_rfl).symm.trans hg1)
 obtain rfl:=co ((show(Tryz.prog.globals[0]?).map (·.type)=some 225 by kernel_rfl).symm.trans ht0)
 obtain rfl:=co ((show(Tryz.prog.globals[1]?).map (·.type)=some 253 by kernel_rfl).symm.trans ht1)
 intro g cs hl j k n hj
 match g,hl with
 | 0,hl=>
  obtain rfl:=co ((rfl:Dv.glTab.lookup 0=_).symm.trans hl)
  exact zfb hg0 hv0 Tryz.underlying225 Tryz.underlying222 (by kernel_rfl) rfl hd0 j k n hj
 | 1,hl=>
  obtain rfl:=co ((rfl:Dv.glTab.lookup 1=_).symm.trans hl)
  exact zfb hg1 hv1 Tryz.underlying253 Tryz.underlying222 (by kernel_rfl) rfl hd1 j k n hj
 |(g+2),hl=>exact absurd hl (by simp[Dv.glTab,List.lookup])
theorem zjx(os:Os)(args:Array Value):laidMetH Tryz.prog laidOf ((World.doorLaid Tryz.prog 19 os).forCall (fun _ _=>0) ⟨#[],args,[]⟩).memory:=
 laidMetH_of_parts3 (fuel:=8) (laidMet_of_run' 8 (by kernel_rfl) (by kernel_rfl)) (by kernel_rfl) (by kernel_rfl)
end Go.Proofs.YtfagnjchgplecaaGreatDoor
