/- Texts that a proof of this claim uses, joined: Lw.Head, Lw.HeadD. -/
import Derived.Test.YthcmaiplkbbioaaGreatDoorRows
import Derived.Test.YthcmaiplkbbioaaGreatDoorChecked
import Derived.JoinedOf
import Derived.KernelRfl
import Derived.Test.YthcmaiplkbbioaaGreatDoorDva
import Derived.ProofKit
import Derived.LaidMore
import Derived.OpenShut
import Derived.LaidHandle
import Derived.Stop.Joined
set_option linter.all false
open Char renaming ofNat->mX
open List renaming getElem?_eq_getElem->ac,getElem?_map->ch
open Option.some renaming inj->cr,injEq->aa
namespace Go.Proofs.YthcmaiplkbbioaaGreatDoor
open Go
theorem zfy(r:List (List Char)):stripLifts liftWords ("cut".toList::r)=([],"cut".toList::r):=by kernel_rfl
theorem zxg{Q:Program}{r:List (List Char)}(h:behindMainWord (wordsSigns Q.initOrder.toList) = "cut".toList::r)(hd:Q.doorFits []=true)(hl:Q.laysLater=false)(hb:Q.bearsReflect=false):Q.mayEnter=true:=by
 unfold Program.mayEnter;rw[h];simp only[zfy,hd,hl,hb]
 rfl
theorem zxb{Q:Program}{r:List (List Char)}(h:behindMainWord (wordsSigns Q.initOrder.toList) = "cut".toList::r):Q.liftsFinal=false:=by
 unfold Program.liftsFinal Program.headLifts;rw[h];simp only[zfy]
 rfl
theorem yei{Q:Program}{r:List (List Char)}(h:behindMainWord (wordsSigns Q.initOrder.toList) = "cut".toList::r):Q.make=some .cut:=by unfold Program.make;rw[h];simp
def y9p:List Nat:=[104,97,114,110,101,115,115,32,100,49,97,48,57,101,53,57,49,99,56,49,51,50,52,98,57,97,49,54,100,101,99,49,57,53,55,54,97,101,51,97,56,97,102,55,53,55,51,52,101,102,102,54,102,51,56,57,48,101,50,54,51,52,54,56,49,100,50,57,52,52,53,100,32,99,117,116,32,97,116,32,111,118,101,114,102,108,105,103,104,116,47,111,118,101,114,102,108,105,103,104,116,116,111,112,46,84,111,112,77,111,110,101,121,32,111,118,101,114,102,108,105,103,104,116,47,111,118,101,114,102,108,105,103,104,116,108,97,119,52,51,46,65,99,99,111,117,110,116,115,83,104,97,114,101,115]
def yaw:List (List Nat):=[[97,116],[111,118,101,114,102,108,105,103,104,116,47,111,118,101,114,102,108,105,103,104,116,116,111,112,46,84,111,112,77,111,110,101,121],[111,118,101,114,102,108,105,103,104,116,47,111,118,101,114,102,108,105,103,104,116,108,97,119,52,51,46,65,99,99,111,117,110,116,115,83,104,97,114,101,115]]
theorem yf5:Tryz.prog.initOrder=String.ofList (y9p.map mX):=by kernel_rfl
theorem zoc:Tryz.prog.initOrder.toList=y9p.map mX:=by rw[yf5];exact String.toList_ofList
theorem z8m:behindMainWord (wordsSigns Tryz.prog.initOrder.toList) = "cut".toList::yaw.map (List.map mX):=by rw[zoc];kernel_rfl
theorem enter:Tryz.prog.mayEnter=true:=zxg z8m (by kernel_rfl) (by kernel_rfl) (by kernel_rfl)
theorem final:Tryz.prog.liftsFinal=false:=zxb z8m
theorem make:Tryz.prog.make=some .cut:=yei z8m
theorem andT{a b:Bool}(h:a=true)(h':b=true):(a && b)=true:=by rw[h,h'];rfl
theorem own:ownKnob Tryz.prog.godebug=none:=by kernel_rfl
theorem laidOut:laidOutB Tryz.prog=true:=by kernel_rfl
end Go.Proofs.YthcmaiplkbbioaaGreatDoor
namespace Go.Proofs.YthcmaiplkbbioaaGreatDoor
open Go Go.ChangeShapes Go.WideShapes Go.ChangeAt Go.RowKit
def laidOf:List (String × DataW Unit):=[("overflight/digest.start",Rows.laid_overflight_digest_start),("overflight/digest.numbers",Rows.laid_overflight_digest_numbers)]
theorem zgk{W:World}{n:String}{g t e:Nat}{size:Nat}{cs:Array Value}{fuel:Nat}{L:List (IntKind × Int)}{p:List MemPlace}(hg:Tryz.prog.globalNamed n=some g)(hv:W.var? Tryz.prog n=some cs)
  (hu:Tryz.prog.underlying t=some (.array size e)) (hu2:Tryz.prog.underlying e=some (.int .u32)) (hc:Tryz.prog.cellsOf e=1) (hL:L.length=size)
  (h:DataW.trod (H:=Unit) (fun _=>()) Tryz.prog W 0 (fun _=>true) false fuel t cs.toList=some (.agg (L.map fun x=>.lit (.int x.1 x.2)),p)) (j:Nat) (k:IntKind) (z:Int) (hj:L[j]? = some (k,z)) :
  Dv.cellOf W.heap g j=some (.int k z):=by
 obtain⟨xs,m,_,ex,_,hl,hel⟩:=DataW.trod_array hu h;have hjl:j<L.length:=(List.getElem?_eq_some_iff.1 hj).1;have hE:=hel j (by omega)
 rw[hc,Nat.mul_one,ac (by omega)]at hE
 obtain⟨y,e1,e2,_⟩:=DataW.trod_int hu2 hE;have e3:(xs.map (·.1))=L.map fun x=>.lit (.int x.1 x.2):=(DataW.agg.inj (Prod.mk.inj ex).1).symm
 have e4:(xs.map (·.1))[j]? = (L.map fun x=>(DataW.lit (.int x.1 x.2):DataW Unit))[j]?:=by rw[e3]
 rw[ch,ch,ac (by omega:j<xs.length),hj,e2]at e4
 simp only[Option.map_some,aa,DataW.lit.injEq,Lit.int.injEq]at e4;obtain⟨rfl,rfl⟩:=e4;rw[<- Dv.cell?_eq,World.var?_cell hg hv j];have:cs.toList[j]? = some (.int .u32 y):=by
  have h0:((cs.toList.drop j).take 1)[0]? = some (.int .u32 y):=by rw[e1];rfl
  simpa using h0
 simpa using this
theorem zwn{W:World}(h:laidMetH Tryz.prog laidOf W):∀ g cs,Dv.glTab.lookup g=some cs->∀(j:Nat) k n,cs[j]? = some (k,n)->Dv.cellOf W.heap g j=some (.int k n):=by
 rw[MakeChecks.laidMetH_plain _ _ _ (by kernel_rfl)]at h
 obtain⟨ps,⟨g0,t0,cs0,f0,p0,q0,hg0,ht0,hv0,hd0,⟨g1,t1,cs1,f1,p1,q1,hg1,ht1,hv1,hd1,_,_⟩,_⟩,_,_⟩:=h;obtain rfl:=cr ((show Tryz.prog.globalNamed "overflight/digest.start" = some 0 by kernel_rfl).symm.trans hg0)
 obtain rfl:=cr ((show Tryz.prog.globalNamed "overflight/digest.numbers" = some 1 by kernel_rfl).symm.trans hg1)
 obtain rfl:=cr ((show(Tryz.prog.globals[0]?).map (·.type)=some 213 by kernel_rfl).symm.trans ht0)
 obtain rfl:=cr ((show(Tryz.prog.globals[1]?).map (·.type)=some 238 by kernel_rfl).symm.trans ht1)
 intro g cs hl j k n hj
 match g,hl with
 | 0,hl=>obtain rfl:=cr ((rfl:Dv.glTab.lookup 0=_).symm.trans hl);exact zgk hg0 hv0 Tryz.underlying213 Tryz.underlying210 (by kernel_rfl) rfl hd0 j k n hj
 | 1,hl=>obtain rfl:=cr ((rfl:Dv.glTab.lookup 1=_).symm.trans hl);exact zgk hg1 hv1 Tryz.underlying238 Tryz.underlying210 (by kernel_rfl) rfl hd1 j k n hj
 |(g+2),hl=>exact absurd hl (by simp[Dv.glTab,List.lookup])
theorem zxo(os:Os)(args:Array Value):laidMetH Tryz.prog laidOf ((World.doorLaid Tryz.prog 19 os).forCall (fun _ _=>0) ⟨#[],args,[]⟩).memory:=
 laidMetH_of_parts3 (fuel:=8) (laidMet_of_run' 8 (by kernel_rfl) (by kernel_rfl)) (by kernel_rfl) (by kernel_rfl)
end Go.Proofs.YthcmaiplkbbioaaGreatDoor
