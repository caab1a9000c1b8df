/- Texts that a proof of this claim uses, joined: Dv.LinkTryd. -/
import Derived.Test.YtfagnjchgplecaaDoorDvd
import Derived.Test.YtfagnjchgplecaaDoorCode
import Derived.WalkKit
import Derived.RecoverIn
import Derived.Lib.Walk
import Derived.Lib.SliceRun
import Derived.Lib.AppendZerosOnto
import Derived.Test.YtfagnjchgplecaaDoorSh
import Derived.Test.YtfagnjchgplecaaDoorWa
import Derived.Test.YtfagnjchgplecaaDoorChecked
import Derived.KernelRfl
set_option linter.all false
open Array renaming getElem?_eq_some_iff->aC,length_toList->cx,replicate_succ->dN,replicate_zero->fE
open Bool renaming false_or->gD,not_true->jV
open Go renaming Value->nc,YieldAt->lp,callFunc->io,callsIn_of_wp->i9,callsIn_wide->dO,grownBy_keeps->ja,maxLen->fx,run_makeInterface->fB,undef->aB
open Go.Builtin renaming zeroCells->bU
open Go.Oper renaming semAt_eq->cr
open Go.Proofs.AnyF renaming slices_SortFunc_none->gg
open Go.Proofs.SlLaysF0 renaming n6->jL
open Go.Proofs.Tryd renaming f145->fM,f48->ku,func100->n7,func101->n8,func102->n9,func103->jp,func104->ph,func105->oa,func11->pH,func114->ov,func115->ow,func116->oz,func117->oC,func118->oG,func119->oH,func12->pI,func120->oJ,func121->oK,func122->oP,func123->oQ,func124->jq,func125->oc,func126->od,func127->og,func128->oh,func129->ol,func13->pJ,func130->om,func131->oq,func132->ot,func133->ou,func134->pg,func135->gz,func140->oT,func141->oU,func142->oV,func143->oW,func144->oY,func145->pe,func150->oZ,func16->pK,func18->pL,func23->pM,func24->pN,func27->pO,func29->pP,func30->pQ,func33->pR,func35->pS,func37->pT,func38->pU,func39->pV,func40->pW,func41->pX,func42->pY,func43->pZ,func44->p5,func46->p6,func47->p7,func48->qG,func51->p8,func53->qx,func54->jH,func55->p9,func56->qa,func57->qb,func58->qc,func59->qd,func64->qe,func65->qf,func66->qg,func67->qh,func68->qi,func69->qj,func75->qk,func80->ql,func81->qy,func82->qz,func83->jI,func84->jJ,func85->qm,func86->qn,func87->jK,func88->qo,func89->qp,func94->qq,func95->qr,func96->qs,func97->qu,func98->qv,func99->qw,isAgg0->qA,isAgg139->nA,isAgg142->nE,isAgg147->nF,isAgg180->nB,isAgg181->nC,isAgg185->nD,isAgg202->nG,isAgg205->nH,isAgg212->nI,isAgg213->nJ,isAgg25->gA,isAgg3->qB,isAgg39->pb,isAgg4->qC,isAgg5->qD,isAgg9->qF,isAgg99->pd,ntmps104->nN,ntmps134->nM,ntmps135->nK,ntmps145->nL,ntmps87->jr,prog->aU,sizeOf0->o5,sizeOf139->ng,sizeOf142->nk,sizeOf147->nl,sizeOf180->nh,sizeOf181->ni,sizeOf185->nj,sizeOf202->nn,sizeOf205->np,sizeOf212->nq,sizeOf213->nr,sizeOf25->gn,sizeOf3->o6,sizeOf39->ny,sizeOf4->o7,sizeOf5->o8,sizeOf9->o9,sizeOf99->nz,underlying0->mw,underlying124->lQ,underlying139->lG,underlying142->lK,underlying147->lL,underlying180->lH,underlying181->lI,underlying185->lJ,underlying202->lM,underlying205->lN,underlying212->lO,underlying213->lP,underlying3->my,underlying39->iA,underlying4->mz,underlying5->mA,underlying9->mB,underlying99->lV,zeroValue0->mI,zeroValue139->lW,zeroValue142->l4,zeroValue147->l5,zeroValue180->lX,zeroValue181->lY,zeroValue185->lZ,zeroValue202->l6,zeroValue205->l7,zeroValue212->l8,zeroValue213->l9,zeroValue3->mJ,zeroValue39->mC,zeroValue4->mK,zeroValue5->mL,zeroValue9->mM,zeroValue99->mD
open List renaming all_eq_true->ay,append_toArray->fK,cons_append->aO,length_cons->az,length_nil->aY,nil_append->bj,push_toArray->gu,size_toArray->bB
open Nat renaming le_refl->ah,le_trans->aG,reduceAdd->gE,reduceSub->iG
open Option renaming getD_some->ci
open Option.some renaming injEq->aa
set_option maxHeartbeats 16000000
namespace Dv.Tryd
open Go (Program)

open Go.RowKit
open Go (Value World Act Oper Operand Code Ending Exit MapEntry Fence CallsIn KeepsWalks)
noncomputable abbrev P:Program:=aU

def tl:List (Nat × Nat):=[(3,2),(4,7),(5,13),(9,53),(22,70),(23,66),(25,65),(28,3),(35,69),(39,67),(43,68),(46,73),(48,71),(50,72),(51,6),(57,30),(61,54),(68,56),(70,55),(73,10),(74,9),(75,14),(77,0),(78,36),(107,60),(110,18),(112,17),(113,16),(115,15),(117,37),(124,75),(139,12),(142,78),(143,76),(144,77),(147,63),(148,74),(151,59),(153,58),(154,62),(162,20),(164,21),(168,19),(180,79),(189,80),(193,81),(196,57),(202,82),(207,64)]

def fl:List (Nat × Nat):=[(11,343),(12,349),(13,351),(16,316),(18,318),(23,324),(24,325),(27,331),(29,334),(30,335),(33,339),(35,340),(37,342),(38,344),(39,345),(40,346),(41,347),(42,348),(43,350),(44,352),(46,354),(47,355),(48,356),(51,359),(53,361),(54,362),(55,363),(56,364),(57,365),(58,366),(59,264),(64,15),(65,367),(66,368),(67,71),(68,369),(69,370),(75,375),(80,380),(83,105),(84,74),(85,404),(86,383),(87,384),(88,281),(89,282),(94,67),(95,69),(96,70),(97,72),(98,73),(99,75),(100,76),(101,106),(102,385),(103,386),(104,388),(105,387),(124,107),(125,405),(126,406),(127,407),(128,297),(129,298),(130,312),(131,311),(132,299),(133,300),(135,409)]

def T:Phi:=look tl
def F:Phi:=look fl

theorem types:TAll P E T:=zv0 (by kernel_rfl)
theorem mixed:P.follows .mixedOrders=true:=by kernel_rfl
theorem fnsOk:FnsOk P F:=ziw (by kernel_rfl)

theorem pt1:P.concrete (28,0).1=true:=by kernel_rfl
theorem pt2:P.concrete (28,0).2=true:=by kernel_rfl
theorem l11:FnL P T F 11 f343:=ze pH (by kernel_rfl) (by kernel_rfl)
theorem l12:FnL P T F 12 f349:=ze pI (by kernel_rfl) (by kernel_rfl)
theorem l13:FnL P T F 13 f351:=ze pJ (by kernel_rfl) (by kernel_rfl)
theorem l16:FnL P T F 16 f316:=ze pK (by kernel_rfl) (by kernel_rfl)
theorem l18:FnL P T F 18 f318:=ze pL (by kernel_rfl) (by kernel_rfl)
theorem l23:FnL P T F 23 f324:=ze pM (by kernel_rfl) (by kernel_rfl)
theorem l24:FnL P T F 24 f325:=ze pN (by kernel_rfl) (by kernel_rfl)
theorem l27:FnL P T F 27 f331:=ze pO (by kernel_rfl) (by kernel_rfl)
theorem l29:FnL P T F 29 f334:=ze pP (by kernel_rfl) (by kernel_rfl)
theorem l30:FnL P T F 30 f335:=ze pQ (by kernel_rfl) (by kernel_rfl)
theorem l33:FnL P T F 33 f339:=ze pR (by kernel_rfl) (by kernel_rfl)
theorem l35:FnL P T F 35 f340:=ze pS (by kernel_rfl) (by kernel_rfl)
theorem l37:FnL P T F 37 f342:=ze pT (by kernel_rfl) (by kernel_rfl)
theorem l38:FnL P T F 38 f344:=ze pU (by kernel_rfl) (by kernel_rfl)
theorem l39:FnL P T F 39 f345:=ze pV (by kernel_rfl) (by kernel_rfl)
theorem l40:FnL P T F 40 f346:=ze pW (by kernel_rfl) (by kernel_rfl)
theorem l41:FnL P T F 41 f347:=ze pX (by kernel_rfl) (by kernel_rfl)
theorem l42:FnL P T F 42 f348:=ze pY (by kernel_rfl) (by kernel_rfl)
theorem l43:FnL P T F 43 f350:=ze pZ (by kernel_rfl) (by kernel_rfl)
theorem l44:FnL P T F 44 f352:=ze p5 (by kernel_rfl) (by kernel_rfl)
theorem l46:FnL P T F 46 f354:=ze p6 (by kernel_rfl) (by kernel_rfl)
theorem l47:FnL P T F 47 f355:=ze p7 (by kernel_rfl) (by kernel_rfl)
theorem l51:FnL P T F 51 f359:=ze p8 (by kernel_rfl) (by kernel_rfl)
theorem l54:FnL P T F 54 f362:=ze jH (by kernel_rfl) (by kernel_rfl)
theorem l55:FnL P T F 55 f363:=ze p9 (by kernel_rfl) (by kernel_rfl)
theorem l56:FnL P T F 56 f364:=ze qa (by kernel_rfl) (by kernel_rfl)
theorem l57:FnL P T F 57 f365:=ze qb (by kernel_rfl) (by kernel_rfl)
theorem l58:FnL P T F 58 f366:=ze qc (by kernel_rfl) (by kernel_rfl)
theorem l59:FnL P T F 59 f264:=ze qd (by kernel_rfl) (by kernel_rfl)
theorem l64:FnL P T F 64 f15:=ze qe (by kernel_rfl) (by kernel_rfl)
theorem l65:FnL P T F 65 f367:=ze qf (by kernel_rfl) (by kernel_rfl)
theorem l66:FnL P T F 66 f368:=ze qg (by kernel_rfl) (by kernel_rfl)
theorem l67:FnL P T F 67 f71:=ze qh (by kernel_rfl) (by kernel_rfl)
theorem l68:FnL P T F 68 f369:=ze qi (by kernel_rfl) (by kernel_rfl)
theorem l69:FnL P T F 69 f370:=ze qj (by kernel_rfl) (by kernel_rfl)
theorem l75:FnL P T F 75 f375:=ze qk (by kernel_rfl) (by kernel_rfl)
theorem l80:FnL P T F 80 f380:=ze ql (by kernel_rfl) (by kernel_rfl)
theorem l83:FnL P T F 83 f105:=ze jI (by kernel_rfl) (by kernel_rfl)
theorem l84:FnL P T F 84 f74:=ze jJ (by kernel_rfl) (by kernel_rfl)
theorem l85:FnL P T F 85 f404:=ze qm (by kernel_rfl) (by kernel_rfl)
theorem l86:FnL P T F 86 f383:=ze qn (by kernel_rfl) (by kernel_rfl)
theorem l88:FnL P T F 88 f281:=ze qo (by kernel_rfl) (by kernel_rfl)
theorem l89:FnL P T F 89 f282:=ze qp (by kernel_rfl) (by kernel_rfl)
theorem l94:FnL P T F 94 f67:=ze qq (by kernel_rfl) (by kernel_rfl)
theorem l95:FnL P T F 95 f69:=ze qr (by kernel_rfl) (by kernel_rfl)
theorem l96:FnL P T F 96 f70:=ze qs (by kernel_rfl) (by kernel_rfl)
theorem l97:FnL P T F 97 f72:=ze qu (by kernel_rfl) (by kernel_rfl)
theorem l98:FnL P T F 98 f73:=ze qv (by kernel_rfl) (by kernel_rfl)
theorem l99:FnL P T F 99 f75:=ze qw (by kernel_rfl) (by kernel_rfl)
theorem l100:FnL P T F 100 f76:=ze n7 (by kernel_rfl) (by kernel_rfl)
theorem l101:FnL P T F 101 f106:=ze n8 (by kernel_rfl) (by kernel_rfl)
theorem l102:FnL P T F 102 f385:=ze n9 (by kernel_rfl) (by kernel_rfl)
theorem l103:FnL P T F 103 f386:=ze jp (by kernel_rfl) (by kernel_rfl)
theorem l105:FnL P T F 105 f387:=ze oa (by kernel_rfl) (by kernel_rfl)
theorem l124:FnL P T F 124 f107:=ze jq (by kernel_rfl) (by kernel_rfl)
theorem l125:FnL P T F 125 f405:=ze oc (by kernel_rfl) (by kernel_rfl)
theorem l126:FnL P T F 126 f406:=ze od (by kernel_rfl) (by kernel_rfl)
theorem l127:FnL P T F 127 f407:=ze og (by kernel_rfl) (by kernel_rfl)
theorem l128:FnL P T F 128 f297:=ze oh (by kernel_rfl) (by kernel_rfl)
theorem l129:FnL P T F 129 f298:=ze ol (by kernel_rfl) (by kernel_rfl)
theorem l130:FnL P T F 130 f312:=ze om (by kernel_rfl) (by kernel_rfl)
theorem l131:FnL P T F 131 f311:=ze oq (by kernel_rfl) (by kernel_rfl)
theorem l132:FnL P T F 132 f299:=ze ot (by kernel_rfl) (by kernel_rfl)
theorem l133:FnL P T F 133 f300:=ze ou (by kernel_rfl) (by kernel_rfl)
theorem l135:FnL P T F 135 f409:=ze gz (by kernel_rfl) (by kernel_rfl)

theorem hmk (b:Bool) (v:nc) (w:Go.World):(Go.Instr.makeInterface (if b=true then ((28,0):Nat × Nat).2 else ((28,0):Nat × Nat).1) v).run P w=.ok (.iface (if b=true then ((28,0):Nat × Nat).2 else ((28,0):Nat × Nat).1) v) w:=by
 cases b
 ·exact fB w _ v pt1
 ·exact fB w _ v pt2


section
open Go Go.Proofs Go.RowKit
set_option maxRecDepth 100000 in
theorem zoe (base:Option Addr) (w:World):Calls aU 87 #[.slice base 0 0,.int .i64 0] w fun e w'=>e=.returned (.slice base 0 0)/\w'=w:=by
 go_enter jK,jr
 go_wp2
 go_ret
 exact ⟨rfl,rfl⟩

set_option maxRecDepth 100000 in
theorem zof (i0:TypeInfo) (z:Value) (hi0:aU.info? 5=some i0) (hz0:i0.zero=some z) (hs0:0<i0.size) (base:Option Addr) (n:Nat) (w:World) (hroom:0<n) (hbig:n*i0.bytes<=140737488355328) (h63:n<=4611686018427387904) :
  Calls aU 87 #[.slice base 0 0,.int .i64 n] w fun e w'=>e=.returned (.slice (some ⟨w.heap.size,0,none⟩) 0 (grownCap w n 0 5)) /\
   w'=w.drew.alloc (.cells (Builtin.zeroCells z.cells n++Builtin.zeroCells z.cells (grownCap w n 0 5 - n)) 5):=by
 have h1 : ¬ ((n:Int)<0):=by omega
 have h4:(n:Int) > 0:=by omega
 have hw0:wrap64 (n:Int)=(n:Int):=by unfold wrap64;omega
 have hrz:∀ ty,(Builtin.append_ #[57,3] ty #[.slice base 0 0,.int .i64 (n:Int)]).run aU w =
   .ok (.slice (some ⟨w.heap.size,0,none⟩) n (grownCap w n 0 5)) (w.drew.alloc (.cells (Builtin.zeroCells z.cells n++Builtin.zeroCells z.cells (grownCap w n 0 5 - n)) 5)):=fun ty=>by
  have hold:(Builtin.firstCells i0.size 0 (.slice base 0 0)).run aU w.drew=.ok ([]:List Value).toArray w.drew:=by
   cases base with
   | none=>exact run_firstCells_none w.drew i0.size 0 0 0
   | some a=>exact run_firstCells_some w.drew i0.size 0 a 0 0 [] (by simp) (fun j v hj=>by simp at hj)
  have h:=Lib.run_append_grow_zeros w 57 3 ty 5 i0 z .i64 .i64 (by kernel_rfl) (by kernel_rfl) hi0 hz0 base 0 0 [] hold n (by omega) hs0 (by omega) (by omega)
   (by omega) (by rw [Nat.zero_add];exact growslice_fits hroom hbig)
  simpa using h
 go_enter jK,jr
 go_wp2_with (at_builtin;refine Lib.wpList_append_run _ rfl _ _ _ _ rfl _ _ rfl rfl _ _ (hrz _) ?_)
 all_goals (go_ret;exact ⟨rfl,rfl⟩)
end

theorem zb1 (z:Array nc) (n:Nat):(bU z n).size=n*z.size:=by simp [bU]

theorem z6v:∀ {l:List nc} {ds:List D},ofClosedL l=some ds->l.length=ds.length
 | [],ds,h=>by simp [ofClosedL] at h;subst h;rfl
 | v::l,ds,h=>by
  simp only [ofClosedL] at h
  split at h
  ·rename_i d r h1 h2
   simp only [aa] at h;subst h
   simp [z6v h2]
  ·simp at h

theorem growOk:GrowOk P 87 (E.ty 13).bytes (E.ty 13).size:=by
 obtain ⟨i0,hi0,hsz,hby,hz⟩:=(types 5 13 rfl).info
 obtain ⟨z,hz0,hzl,_⟩:=hz (by decide) (by decide)
 have hzs:z.cells.size=(E.ty 13).size:=by
  have:=z6v hzl
  rw [cx] at this
  rw [this];decide
 have hpos:0<i0.size:=by rw [hsz];decide
 rw [<- hsz,<- hby]
 constructor
 ·intro base w
  exact zoe base w
 ·intro base n w hn hb hn2
  have:=zof i0 z hi0 hz0 hpos base n w hn hb hn2
  have hG:=Go.grownCap_ge w n 0 5
  generalize Go.grownCap w n 0 5=G at this hG
  refine this.mono ?_
  rintro e w' ⟨rfl,rfl⟩
  refine ⟨G,5,_,?_,rfl,rfl,⟨rfl,rfl,rfl,Nat.le_succ _⟩⟩
  simp only [Array.size_append,zb1,hzs,hsz]
  rw [<- Nat.add_mul,show n+(G - n)=G from by omega]

theorem l87:Hatch P E T F (28,0) 87 384:=zl9 (c:=30) (i:=2) (e:=13) (G:=f384) rfl rfl rfl rfl growOk


def sortRen:Go.Shelf.Ren:={ f:=fun | 6=>53 | 15=>82 | 14=>81 | 28=>122 | 29=>123 | 20=>114 | 21=>115 | 22=>116 | 23=>117 | 24=>118 | 25=>119 | 26=>120 | 27=>121 | 46=>140 | 47=>141 | 48=>142 | 49=>143 | 50=>144 | 57=>150 | n=>n,t:=fun | 22=>39 | 24=>25 | 25=>99 | 3=>3 | 39=>139 | 0=>0 | 53=>142 | 55=>147 | 4=>4 | 46=>181 | 45=>180 | 50=>185 | 5=>5 | 9=>9 | 66=>202 | 70=>205 | 76=>212 | 77=>213 | n=>n,g:=fun n=>n }
set_option maxRecDepth 100000 in
theorem sortL:jL P sortRen where
 mixed:=mixed
 f6:=⟨ "slices.SortFunc[[]overflight/api.Account,overflight/api.Account]",by decide,qx.trans (congrArg some (by kernel_rfl))⟩
 f14:=⟨ "slices.pdqsortCmpFunc[overflight/api.Account]",by decide,qy.trans (congrArg some (by kernel_rfl))⟩
 f15:=qz.trans (congrArg some (by kernel_rfl))
 f20:=⟨ "slices.insertionSortCmpFunc[overflight/api.Account]",by decide,ov.trans (congrArg some (by kernel_rfl))⟩
 f21:=⟨ "slices.heapSortCmpFunc[overflight/api.Account]",by decide,ow.trans (congrArg some (by kernel_rfl))⟩
 f22:=⟨ "slices.breakPatternsCmpFunc[overflight/api.Account]",by decide,oz.trans (congrArg some (by kernel_rfl))⟩
 f23:=⟨ "slices.choosePivotCmpFunc[overflight/api.Account]",by decide,oC.trans (congrArg some (by kernel_rfl))⟩
 f24:=⟨ "slices.reverseRangeCmpFunc[overflight/api.Account]",by decide,oG.trans (congrArg some (by kernel_rfl))⟩
 f25:=⟨ "slices.partialInsertionSortCmpFunc[overflight/api.Account]",by decide,oH.trans (congrArg some (by kernel_rfl))⟩
 f26:=⟨ "slices.partitionEqualCmpFunc[overflight/api.Account]",by decide,oJ.trans (congrArg some (by kernel_rfl))⟩
 f27:=⟨ "slices.partitionCmpFunc[overflight/api.Account]",by decide,oK.trans (congrArg some (by kernel_rfl))⟩
 f28:=oP.trans (congrArg some (by kernel_rfl))
 f29:=oQ.trans (congrArg some (by kernel_rfl))
 f46:=⟨ "slices.siftDownCmpFunc[overflight/api.Account]",by decide,oT.trans (congrArg some (by kernel_rfl))⟩
 f47:=oU.trans (congrArg some (by kernel_rfl))
 f48:=oV.trans (congrArg some (by kernel_rfl))
 f49:=⟨ "slices.medianAdjacentCmpFunc[overflight/api.Account]",by decide,oW.trans (congrArg some (by kernel_rfl))⟩
 f50:=⟨ "slices.medianCmpFunc[overflight/api.Account]",by decide,oY.trans (congrArg some (by kernel_rfl))⟩
 f57:=⟨ "slices.order2CmpFunc[overflight/api.Account]",by decide,oZ.trans (congrArg some (by kernel_rfl))⟩
 t0:=mw
 a0:=qA
 z0:=o5
 v0:=mI
 t3:=my
 a3:=qB
 z3:=o6
 v3:=mJ
 t4:=mz
 a4:=qC
 z4:=o7
 v4:=mK
 t5:=mA
 a5:=qD
 z5:=o8
 v5:=mL
 t9:=mB
 a9:=qF
 z9:=o9
 v9:=mM
 t22:=iA
 a22:=pb
 z22:=ny
 v22:=mC
 t25:=lV
 a25:=pd
 z25:=nz
 v25:=mD
 t39:=lG
 a39:=nA
 z39:=ng
 v39:=lW
 t45:=lH
 a45:=nB
 z45:=nh
 v45:=lX
 t46:=lI
 a46:=nC
 z46:=ni
 v46:=lY
 t50:=lJ
 a50:=nD
 z50:=nj
 v50:=lZ
 t53:=lK
 a53:=nE
 z53:=nk
 v53:=l4
 t55:=lL
 a55:=nF
 z55:=nl
 v55:=l5
 t66:=lM
 a66:=nG
 z66:=nn
 v66:=l6
 t70:=lN
 a70:=nH
 z70:=np
 v70:=l7
 t76:=lO
 a76:=nI
 z76:=nq
 v76:=l8
 t77:=lP
 a77:=nJ
 z77:=nr
 v77:=l9
def flA:List (Nat × Nat):=[(54,362),(83,105),(84,74),(103,386),(124,107)]
def FA:Phi:=look flA
theorem fnsOkA:FnsOk P FA:=ziw (by kernel_rfl)
theorem a54:FnL P T FA 54 f362:=ze jH (by kernel_rfl) (by kernel_rfl)
theorem a83:FnL P T FA 83 f105:=ze jI (by kernel_rfl) (by kernel_rfl)
theorem a84:FnL P T FA 84 f74:=ze jJ (by kernel_rfl) (by kernel_rfl)
theorem a103:FnL P T FA 103 f386:=ze jp (by kernel_rfl) (by kernel_rfl)
theorem a124:FnL P T FA 124 f107:=ze jq (by kernel_rfl) (by kernel_rfl)
theorem tieA:Tie P E T FA:=ztk (pt:=(28,0)) types mixed fnsOkA (allc (za a54 rfl) (allc (za a83 rfl) (allc (za a84 rfl) (allc (za a103 rfl) (allc (za a124 rfl) (alln))))))
theorem zyi (a b c d:Int):orI [cmpI a c,cmpI b d]=cfP (a,b) (c,d):=by
 unfold cfP cmpI
 simp only [orI]
 repeat' split
 all_goals first | rfl | omega
theorem cmpOk54:CmpOk P 54:=CmpOk.of_sim tieA (g:=54) (g':=362) rfl fun a b c d=>by
 rw [<- zyi]
 exact z4y (r362a a b c d)
theorem cmpOk103:CmpOk P 103:=CmpOk.of_sim tieA (g:=103) (g':=386) rfl fun a b c d=>by
 rw [<- zyi]
 exact z4y (r386a a b c d)
theorem cmpN (g k:Nat) (h:F g=some k) (hk:[362,386].contains k=true):g=54\/g=103:=by
 have h1:=z4g h
 have h2:(fl.all fun p=>![362,386].contains p.2 || p.1 == 54 || p.1 == 103)=true:=by decide +kernel
 have h3:=ay.1 h2 _ h1
 simp only [hk,jV,gD] at h3
 simpa using h3
theorem l53:Hatch P E T F (28,0) 53 361:=zju (p:=0) (cmp:=[362,386]) (G:=f361) rfl rfl rfl rfl
 (fun g k h hk=>by
  rcases cmpN g k h hk with rfl | rfl
  ·exact SortOk.of sortL rfl gA gn cmpOk54
  ·exact SortOk.of sortL rfl gA gn cmpOk103)
 (fun p cap fv w=>gg sortL p cap fv w)

set_option maxRecDepth 100000 in
theorem zrh (F:Fence) (n:Nat) (h10:F.fn 135) (hro:F.round=none) (hn:1<=n) (l Bm off b clock:Nat) (es:Array MapEntry) (ks:List (Int × Int)) (hst:StampL es clock) (hks:es.toList.map (fun e=>e.key)=ks.map encA) (J:List (Int × Int)->World->Prop)
  (hY:∀ pre x W,J pre W->pre.length<ks.length->lp F (n - 1) aU l #[encA x] W fun e W'=>e=.returned (.bool true)/\J (pre++[x]) W'/\KeepsWalks W W')
  (W:World) (hJ:AbidesD W.heap.size J) (hm:W.cell? ⟨Bm,off,none⟩=some (.map (some b))) (hb:W.heap[b]? = some (.map es clock)) (h0:J [] W) :
  CallsIn F n aU 135 #[.func (.yield l) #[] #[],.pointer (some ⟨Bm,off,none⟩)] W fun e W'=>(∃ v,e=.returned v) /\ ∃ ss:List (Int × Int),ss.Perm ks/\J ss W':=by
 refine i9 gz rfl h10 ?_ hro
 simp only [nK,bB,az,aY,gE,iG,dN,fE,gu,fK,bj,aO]
 gi_wp2_with (first
  | (gi_at_range;refine wpRange _ rfl _ 124 25 3 rfl lQ b es clock rfl hb ?_;intro w0 hb0 hr0 hg0 hs0 hd0)
  | gi_in)
 go_frame
 gi_loopw [3] (fun _ wr=>∃ (seen:Array Nat) (ss:List (Int × Int)),wr.heap[b]? = some (.map es clock)/\wr.heap[W.heap.size]? = some (.mapIter (some b) clock seen clock)/\KeysL ks es.toList seen ss/\J ss wr)
  (fun _ wr=>wr.rangeLeft b W.heap.size)
 case atStart=>
  exact ⟨#[],[],hb0,hr0,by unfold KeysL leftL;rw [List.map_nil,bj,<- hks,List.filter_eq_self.2 (by simp)],hJ [] W w0 none h0 hg0 hd0 (fun r e=>by cases e)⟩
 case round=>
  obtain ⟨seen,ss,hbr,hrr,hC,hJs⟩:=hrel
  gi_wp2_with (first
   | (gi_at_next;refine wpNext _ rfl _ rfl b W.heap.size clock es seen hst rfl hbr hrr ?_ ?_)
   | gi_in)
  ·intro hl
   gi_wp2
   go_end0
   exact ⟨⟨_,rfl⟩,ss,hC.done hl,hJs⟩
  ·intro e w2 he hb2 hr2 hg2 hs2 hd2 hen
   have hlen:=hC.len
   obtain ⟨x,hx⟩:=hC.key he
   have hC2:=hC.step hst.2 he hx
   have hlt:ss.length<ks.length:=by
    have:0<(leftL es.toList seen).length:=List.length_pos_of_mem he
    omega
   obtain ⟨key,val,born⟩:=e
   simp only at hx hen hr2 hC2
   subst hx
   have hJ2:J ss w2:=hJ ss wr w2 (some W.heap.size) hJs hg2 hd2 (fun r e=>by cases e;exact ⟨ah _,_,hrr,rfl⟩)
   have hJ3:J ss (w2.alloc (.cells #[.int .i64 x.1,.int .i64 x.2] 25)):=hJ ss w2 _ none hJ2 (Go.World.grownBy_alloc w2 _ none) (ah _) (fun r e=>by cases e)
   have hb3:(w2.alloc (.cells #[.int .i64 x.1,.int .i64 x.2] 25)).heap[b]? = some (.map es clock):=(Below.heap_alloc _ _ b (z1l hb2)).trans hb2
   have hr3:(w2.alloc (.cells #[.int .i64 x.1,.int .i64 x.2] 25)).heap[W.heap.size]? = some (.mapIter (some b) clock (seen.push born) clock):=(Below.heap_alloc _ _ W.heap.size (z1l hr2)).trans hr2
   obtain ⟨fn,tmps,assign,body,hy,hR⟩:=hY ss x _ hJ3 hlt
   clear hs2 hd2
   gi_wp2
   refine hR.mono ?_
   rintro e W3 ⟨rfl,hJ3,hk3⟩
   gi_wp2
   have hb4:=hk3.same b _ hb3 rfl
   have hr4:=hk3.same W.heap.size _ hr3 rfl
   go_roundw
   case rel=>exact ⟨seen.push born,ss++[x],hb4,hr4,hC2,hJ3⟩
   case measure=>
    have hlen2:=hC2.len
    unfold Go.World.rangeLeft
    rw [hb4,hr4,hbr,hrr]
    simp only []
    rw [<- cx,<- cx,z4h,z4h]
    simp only [List.length_append,az,aY] at hlen2
    omega

theorem zkr (F:Fence) (n:Nat) (h10:F.fn 135) (hro:F.round=none) (hn:1<=n) (Bm off b clock:Nat) (es:Array MapEntry) (ks:List (Int × Int)) (hst:StampL es clock) (hks:es.toList.map (fun e=>e.key)=ks.map encA) (w:World) (hBm:Bm<w.heap.size)
  (hm:w.cell? ⟨Bm,off,none⟩=some (.map (some b))) (hb:w.heap[b]? = some (.map es clock)) :
  SeqD F n aU 135 #[.pointer (some ⟨Bm,off,none⟩)] (fun ss=>ss.Perm ks) ks.length w:=fun l J W hW hJ hY h0=>
 zrh F n h10 hro hn l Bm off b clock es ks hst hks J hY W hJ ((hW.cell (p:=⟨Bm,off,none⟩) hBm).trans hm) ((hW.block b (z1l hb)).trans hb) h0
def apParts:Code->Code × Code
 | .seq _ (.seq (.seq _ (.block _ (.rangeFunc _ _ a b))) _)=>(a,b)
 | _=>(.skip,.skip)
noncomputable def apAs:Code:=(apParts (fM.body.getD .skip)).1
noncomputable def apBd:Code:=(apParts (fM.body.getD .skip)).2

noncomputable def apRec (fn:Nat) (sv:Value) (Bs D:Nat) (st:Go.LoopState) (pend:Option Code):Go.Loop:=
 { state:=st,pending:=pend,fn,tmps:=#[.slice none 0 0,sv,.pointer (some ⟨Bs,0,none⟩),aB,.slice none 0 0,aB,sv,aB,aB,aB,aB,aB,aB],params:=#[7],assign:=apAs,body:=apBd,defers:=D }

structure ApAt (w0:World) (fn:Nat) (sv:Value) (Bs l D:Nat) (ss:List (Int × Int)) (W:World):Prop where
 box:∃ v,W.heap[Bs]? = some (.cells #[v] 39 (0,0))/\W.ownsRow w0.heap.size 25 2 v ss.length (ss.flatMap encKy)/\(v=.slice none 0 0 ↔ ss=[])
 L:W.heap[l]? = some (.loop (apRec fn sv Bs D .ready none))
 K:W.heap[D]? = some (.deferred (some []))
 below:Below w0.heap.size w0 W
 dr:w0.drawn<=W.drawn

theorem zfo (w0:World) (fn:Nat) (sv:Value) (Bs l D B:Nat) (hB:w0.heap.size<=B):AbidesD B (ApAt w0 fn sv Bs l D):=fun s W W' row h hg hd hrow=>by
 have hrow':∀ r,row=some r->∃ o:Go.Obj,W.heap[r]? = some o/\o.isWalk=true:=fun r e=>(hrow r e).2
 obtain ⟨v,hv,hr,hn⟩:=h.box
 exact ⟨⟨v,(ja hg hrow' hv rfl).trans hv,zjy hr hg hrow',hn⟩,(ja hg hrow' h.L rfl).trans h.L,(ja hg hrow' h.K rfl).trans h.K,
  h.below.grown hg h.below.size (fun k e=>aG hB (hrow k e).1),aG h.dr hd⟩

theorem infoK:(aU.info? 25).map (fun i=>(i.zero,i.size,i.bytes))=some (some (.agg #[.int .i64 0,.int .i64 0]),2,16):=by kernel_rfl

set_option maxRecDepth 100000 in
theorem apYield (F:Fence) (m:Nat) (w0:World) (fn:Nat) (hfn:F.fn fn) (sv:Value) (Bs l D:Nat) (hBl:Bs ≠ l) (hDl:D ≠ l) (hDB:D ≠ Bs) (h0B:w0.heap.size<=Bs) (h0l:w0.heap.size<=l)
  (N:Nat) (hN:N<=fx) (hNb:N*16<=140737488355328) (ss:List (Int × Int)) (x:Int × Int) (W0:World) (h0:ApAt w0 fn sv Bs l D ss W0) (hlen:ss.length<N) :
  lp F m aU l #[encA x] W0 fun e W'=>e=.returned (.bool true)/\ApAt w0 fn sv Bs l D (ss++[x]) W'/\KeepsWalks W0 W':=by
 obtain ⟨i0,hi,hz0,hz1,hz2⟩:=Go.info_parts infoK
 have h1:ApAt w0 fn sv Bs l D ss (W0.alloc (.cells #[.int .i64 x.1,.int .i64 x.2] 25)):=zfo w0 fn sv Bs l D W0.heap.size h0.below.size ss W0 _ none h0 (World.grownBy_alloc W0 _ none) (ah _) (fun r e=>by cases e)
 refine ⟨fn,#[.slice none 0 0,sv,.pointer (some ⟨Bs,0,none⟩),aB,.slice none 0 0,aB,sv,encA x,aB,aB,aB,aB,aB],apAs,apBd,by simpa [apRec] using Go.run_yield (P:=aU) (args:=#[encA x]) h0.L rfl,Go.roundIn_of_wpIn hfn ?_⟩
 obtain ⟨W,hW⟩:∃ W,W=W0.alloc (.cells #[.int .i64 x.1,.int .i64 x.2] 25):=⟨_,rfl⟩
 rw [<- hW] at h1
 have hdr0:w0.drawn<=W.drawn:=by rw [hW];exact h0.dr
 have hk0:KeepsWalks W0 W:=by rw [hW];exact KeepsWalks.alloc _ _
 obtain ⟨v,hv,hrow,_⟩:=h1.box
 have hl:l<W.heap.size:=(aC.1 h1.L).1
 have hbr:=Go.run_beginRound (P:=aU) h1.L rfl
 obtain ⟨W2,hW2⟩:∃ W2,W.putObj l (.loop { apRec fn sv Bs D .ready none with state:=.busy })=W2:=⟨_,rfl⟩
 rw [hW2] at hbr
 have hg2:W.grownBy W2 (some l):=by rw [<- hW2];exact grownPut _ _ _
 have hk2:KeepsWalks W W2:=by rw [<- hW2];exact KeepsWalks.putObj _ h1.L rfl
 have hv2:W2.heap[Bs]? = some (.cells #[v] 39 (0,0)):=by rw [<- hW2];exact (World.putObj_heap_other hBl).trans hv
 have hK2:W2.heap[D]? = some (.deferred (some [])):=by rw [<- hW2];exact (World.putObj_heap_other hDl).trans h1.K
 have hL2:W2.heap[l]? = some (.loop { apRec fn sv Bs D .ready none with state:=.busy }):=by rw [<- hW2];exact World.putObj_heap_same hl
 have hrow2:W2.ownsRow w0.heap.size 25 2 v ss.length (ss.flatMap encKy):=hrow.kept hg2 (zbg hrow h1.L (fun cur e=>by cases e))
 have hb2:Below w0.heap.size w0 W2:=h1.below.grown hg2 h1.below.size (fun k e=>by cases e;exact h0l)
 have hl0:l<W0.heap.size:=(aC.1 h0.L).1
 have hxb:W2.heap[W0.heap.size]? = some (.cells #[.int .i64 x.1,.int .i64 x.2] 25 (0,0)):=by
  rw [<- hW2,hW];exact (World.putObj_heap_other (by omega)).trans (World.alloc_heap_new W0 _)
 have hx1:W2.cell? ⟨W0.heap.size,0,none⟩=some (.int .i64 x.1):=by simp [World.cell?,hxb]
 have hx2:W2.cell? ⟨W0.heap.size,1,none⟩=some (.int .i64 x.2):=by simp [World.cell?,hxb]
 obtain ⟨hc2,hf2⟩:=zdo hv2
 have hBlt:Bs<W2.heap.size:=(aC.1 hv2).1
 have hl2:l<W2.heap.size:=(aC.1 hL2).1
 have hDlt:D<W2.heap.size:=(aC.1 hK2).1
 have ne_of:∀ {j:Nat} {o:Go.Obj},W2.heap[j]? = some o->(∀ cur,o ≠ .cells cur 25 (0,0))->some j ≠ v.ownBlock:=fun hj hno=>by
  rcases zbg hrow2 hj hno with e | e
  ·rw [e];simp
  ·exact fun e'=>e e'.symm
 have hdr2:w0.drawn<=W2.drawn:=by rw [<- hW2];exact hdr0
 clear hW2
 unfold apAs
 simp only [fM,apParts,ci]
 rw [hW] at hbr
 gi_wp2_with (rw [cr _ _ _ (fun c h=>by cases h)];go_simp;try go_bits)
 unfold apBd
 simp only [fM,apParts,ci]
 gi_wp2_with (first
  | (
   gi_at_builtin;refine wpAppD (hg:=rfl) _ _ _ 39 rfl w0.heap.size 25 i0 (.agg #[.int .i64 0,.int .i64 0]) 2 16 iA hi hz0 hz1 hz2 rfl (by decide) _ _ _ rfl (hrow2.alloc _) ⟨W2.heap.size,0,none⟩ 1 1 (encKy x) rfl rfl (zr4 W2 x 25) (by intro u hu;simp at hu;rcases hu with rfl | rfl <;> rfl) (by omega) (by omega) (by have:=hb2.size;simp;omega) ?_;intro v' w3 hown' hg3 hd3
   have hv3:w3.heap[Bs]? = some (.cells #[v] 39 (0,0)):=(hg3.block Bs (by simp;omega) (ne_of hv2 (fun cur e=>by cases e))).trans ((Below.heap_alloc _ _ Bs hBlt).trans hv2)
   obtain ⟨hc3,hf3⟩:=zdo hv3
   obtain ⟨g',cap',cur',rfl,hbase',hgb',hr1,hr2,hr3,hr4⟩:∃ g' cap' cur',v'=.slice (some ⟨g',0,none⟩) (ss.length+1) cap'/\w0.heap.size<=g'/\w3.heap[g']? = some (.cells cur' 25 (0,0))/\ss.length+1<=cap'/\cap'<=fx/\cur'.size=cap'*2/\cur'.toList.take ((ss.length+1)*2)=ss.flatMap encKy++encKy x:=by
    rcases hown'.2 with ⟨_,h0⟩ | h'
    ·exact absurd h0 (by omega)
    ·exact h'
   go_frame)
  | (rw [cr _ _ _ (fun c h=>by cases h)];go_simp;try go_bits))
 have hg3':(W2.alloc (.cells #[.int .i64 x.1,.int .i64 x.2] 25)).grownBy w3 v.ownBlock:=hg3
 have hL3:w3.heap[l]? = some (.loop { apRec fn sv Bs D .ready none with state:=.busy }):=(hg3'.block l (by simp;omega) (ne_of hL2 (fun cur e=>by cases e))).trans ((Below.heap_alloc _ _ l hl2).trans hL2)
 have hK3:w3.heap[D]? = some (.deferred (some [])):=(hg3'.block D (by simp;omega) (ne_of hK2 (fun cur e=>by cases e))).trans ((Below.heap_alloc _ _ D hDlt).trans hK2)
 obtain ⟨w4,hw4⟩:∃ w4,w3.setCell ⟨Bs,0,none⟩ (.slice (some ⟨g',0,none⟩) (ss.length+1) cap')=w4:=⟨_,rfl⟩
 rw [hw4]
 have hg4:w3.grownBy w4 (some Bs):=by rw [<- hw4];exact grownSet _ _ _
 have hv4:w4.heap[Bs]? = some (.cells #[.slice (some ⟨g',0,none⟩) (ss.length+1) cap'] 39 (0,0)):=by rw [<- hw4];exact zwj _ hv3
 have hL4:w4.heap[l]? = some (.loop { apRec fn sv Bs D .ready none with state:=.busy }):=(hg4.block l (aC.1 hL3).1 (fun e=>hBl (by cases e;rfl))).trans hL3
 have hK4:w4.heap[D]? = some (.deferred (some [])):=(hg4.block D (aC.1 hK3).1 (fun e=>hDB (by cases e;rfl))).trans hK3
 have hrow4:=hown'.kept hg4 (zbg hown' hv3 (fun cur e=>by cases e))
 have hl4:l<w4.heap.size:=(aC.1 hL4).1
 have hb3:Below w0.heap.size w0 w3:=(hb2.alloc hb2.size _).grown hg3' (by have:=hb2.size;simp;omega) (fun k e=>(hrow2.lt k e).1)
 have hb4:Below w0.heap.size w0 w4:=hb3.grown hg4 hb3.size (fun k e=>by cases e;exact h0B)
 have hk4:KeepsWalks W0 w4:=(hk0.trans hk2).trans (((KeepsWalks.alloc _ _).trans (KeepsWalks.of_grownBy hg3' (zej (hrow2.alloc _)))).trans (by rw [<- hw4];exact KeepsWalks.setCell _ _ _))
 have hdr4:w0.drawn<=w4.drawn:=by rw [<- hw4];exact aG hdr2 hd3
 clear hw4
 refine ⟨_,_,Go.run_endRound none hL4,rfl,⟨⟨_,(World.putObj_heap_other hBl).trans hv4,?_,by simp⟩,World.putObj_heap_same hl4,(World.putObj_heap_other hDl).trans hK4,hb4.grown (grownPut _ _ _) hb4.size (fun k e=>by cases e;exact h0l),hdr4⟩,hk4.trans (KeepsWalks.putObj _ hL4 rfl)⟩
 have:=hrow4.kept (grownPut w4 l (.loop { { apRec fn sv Bs D .ready none with state:=.busy } with state:=if (none:Option Code).isNone then .ready else .done,pending:=none })) (zbg hrow4 hL4 (fun cur e=>by cases e))
 simpa using this

set_option maxRecDepth 100000 in
theorem zfm (F:Fence) (n:Nat) (h11:F.fn 145) (hro:F.round=none) (hn:2<=n) (g:Nat) (lb:Array Value) (hFg:F.fn g) (eg:∀ args w,(io g args).run aU w=.ok (.enter g args) w)
  (S:List (Int × Int)->Prop) (N:Nat) (hN:N<=fx) (hNb:N*16<=140737488355328) (w:World) (hseq:SeqD F (n - 1) aU g lb S N w) :
  CallsIn F n aU 145 #[.slice none 0 0,.func (.func g) #[] lb] w fun e w'=>∃ (v:Value) (ss:List (Int × Int)),e=.returned v/\S ss/\w'.ownsRow w.heap.size 25 2 v ss.length (ss.flatMap encKy)/\(v=.slice none 0 0 ↔ ss=[])/\Below w.heap.size w w'/\w.drawn<=w'.drawn:=by
 have h1:1<=n:=by omega
 refine Go.callsIn_of_wp_marks pe rfl h11 ?_ hro
 simp only [nL,bB,az,aY,gE,iG,dN,fE,gu,fK,bj,aO]
 gi_wp2
 refine Go.wpIn_rangeFunc ?_
 intro fn hfn
 rw [hro]
 obtain ⟨W0,hW0⟩:∃ W0,w.alloc (.cells #[.slice none 0 0] 39)=W0:=⟨_,rfl⟩
 have hs0:W0.heap.size=w.heap.size+1:=by rw [<- hW0];simp
 have hv0:W0.heap[w.heap.size]? = some (.cells #[.slice none 0 0] 39 (0,0)):=by rw [<- hW0];exact World.alloc_heap_new w _
 have hb0:Below w.heap.size w W0:=by rw [<- hW0];exact (Below.refl _ w).alloc (ah _) _
 have hd0:w.drawn=W0.drawn:=by rw [<- hW0];rfl
 rw [hW0]
 obtain ⟨W1,hW1⟩:∃ W1,(W0.alloc (.deferred (some []))).alloc (.loop (apRec fn (.func (.func g) #[] lb) w.heap.size W0.heap.size .ready none))=W1:=⟨_,rfl⟩
 have hold:∀ k,k<W0.heap.size->W1.heap[k]? = W0.heap[k]?:=fun k hk=>by
  rw [<- hW1];exact (Below.heap_alloc _ _ k (by simp;omega)).trans (Below.heap_alloc _ _ k hk)
 have hb1:Below w.heap.size w W1:=by rw [<- hW1];exact (hb0.alloc hb0.size _).alloc (by have:=hb0.size;simp;omega) _
 have hs1:W1.heap.size=W0.heap.size+2:=by rw [<- hW1];simp
 have hM:ApAt w fn (.func (.func g) #[] lb) w.heap.size (W0.heap.size+1) W0.heap.size [] W1:=
  ⟨⟨_,(hold w.heap.size (by omega)).trans hv0,⟨rfl,.inl ⟨rfl,rfl⟩⟩,by simp⟩,
   by rw [<- hW1];have:=World.alloc_heap_new (W0.alloc (.deferred (some []))) (.loop (apRec fn (.func (.func g) #[] lb) w.heap.size W0.heap.size .ready none));rwa [World.size_alloc] at this,
   by rw [<- hW1];exact (Below.heap_alloc _ _ _ (by simp)).trans (World.alloc_heap_new W0 _),hb1,by rw [<- hW1];exact Nat.le_of_eq hd0⟩
 refine ⟨W0.heap.size+1,[{ target:=.collected W0.heap.size,args:=#[] }],W1,{ target:=.fn (.func g) lb,args:=#[.func (.yield (W0.heap.size+1)) #[] #[]] },W1,g,
  #[.func (.yield (W0.heap.size+1)) #[] #[]]++lb,W1,?_,?_,?_,?_,fun _=>h1,?_⟩
 ·rw [<- hW1];exact Go.run_enterLoop_outer _ _ _ _ _
 ·simp [Go.resolve,go_sem]
 ·intro f' hf';simp [Go.Target.leads] at hf';subst hf';exact hFg
 ·simp [Go.invoke,go_sem,eg]
 ·refine (hseq (W0.heap.size+1) (ApAt w fn (.func (.func g) #[] lb) w.heap.size (W0.heap.size+1) W0.heap.size) W1 hb1 (zfo _ _ _ _ _ _ _ hb1.size)
   (fun pre x W hJ hl=>apYield F (n - 1 - 1) w fn hfn _ w.heap.size (W0.heap.size+1) W0.heap.size (by omega) (by omega) (by omega) (ah _) (by omega) N hN hNb pre x W hJ hl) hM).mono ?_
  rintro e W2 ⟨⟨v0,rfl⟩,ss,hS,h2⟩
  obtain ⟨v,hv,hrow,hnil⟩:=h2.box
  have hend:=Go.run_endLoop (P:=aU) h2.L (by simp [apRec])
  obtain ⟨W3,hW3⟩:∃ W3,W2.putObj (W0.heap.size+1) (.loop { apRec fn (.func (.func g) #[] lb) w.heap.size W0.heap.size .ready none with state:=.exhausted })=W3:=⟨_,rfl⟩
  rw [hW3] at hend
  have hg3:W2.grownBy W3 (some (W0.heap.size+1)):=by rw [<- hW3];exact grownPut _ _ _
  have hv3:W3.heap[w.heap.size]? = some (.cells #[v] 39 (0,0)):=by rw [<- hW3];exact (World.putObj_heap_other (by omega)).trans hv
  have hK3:W3.heap[W0.heap.size]? = some (.deferred (some [])):=by rw [<- hW3];exact (World.putObj_heap_other (by omega)).trans h2.K
  have hrow3:=hrow.kept hg3 (zbg hrow h2.L (fun cur e=>by cases e))
  have hb3:Below w.heap.size w W3:=h2.below.grown hg3 h2.below.size (fun k e=>by cases e;omega)
  have hd3:w.drawn<=W3.drawn:=by rw [<- hW3];exact h2.dr
  obtain ⟨hc3,hf3⟩:=zdo hv3
  clear hW3
  refine ⟨none,W3,hend,?_⟩
  gi_wp2
  rw [<- hs0]
  refine ⟨by simp,.inl ⟨_,_,rfl,Go.run_takeDeferred hK3,?_⟩⟩
  exact ⟨_,Go.results_tmp rfl _ _ _,v,ss,rfl,hS,hrow3.kept (grownPut _ _ _) (zbg hrow3 hK3 (fun cur e=>by cases e)),hnil,hb3.grown (grownPut _ _ _) hb3.size (fun k e=>by cases e;omega),hd3⟩

theorem zlm (F:Fence) (n:Nat) (h8:F.fn 134) (h11:F.fn 145) (hro:F.round=none) (hn:3<=n) (g:Nat) (lb:Array Value) (hFg:F.fn g) (eg:∀ args w,(io g args).run aU w=.ok (.enter g args) w)
  (S:List (Int × Int)->Prop) (N:Nat) (hN:N<=fx) (hNb:N*16<=140737488355328) (w:World) (hseq:SeqD F (n - 1 - 1) aU g lb S N w) :
  CallsIn F n aU 134 #[.func (.func g) #[] lb] w fun e w'=>∃ (v:Value) (ss:List (Int × Int)),e=.returned v/\S ss/\w'.ownsRow w.heap.size 25 2 v ss.length (ss.flatMap encKy)/\(v=.slice none 0 0 ↔ ss=[])/\Below w.heap.size w w'/\w.drawn<=w'.drawn:=by
 have h1:1<=n:=by omega
 refine i9 pg rfl h8 ?_ hro
 simp only [nM,bB,az,aY,gE,iG,dN,fE,gu,fK,bj,aO]
 gi_wp2_with (gi_at_call 145;refine (zfm F (n - 1) h11 hro (by omega) g lb hFg eg S N hN hNb _ hseq).mono ?_;rintro e w' ⟨v,ss,rfl,hS,hrow,hnil,hb,hd⟩)
 go_ret
 exact ⟨v,ss,rfl,hS,hrow,hnil,hb,hd⟩
theorem zmx (k:Nat) (C:SortOk aU 53 k) (hN:∀ (p:Option Go.Addr) (cap:Nat) (fv:Value) (w:World),Go.Calls aU 53 #[.slice p 0 cap,fv] w fun e w'=>e=.returned (.tuple #[])/\w'=w)
  (Bm off b clock:Nat) (es:Array MapEntry) (ks:List (Int × Int)) (hst:StampL es clock) (hks:es.toList.map (fun e=>e.key)=ks.map encA) (hlen:ks.length<=1000000) (w:World) (hG:GL w)
  (hm:w.cell? ⟨Bm,off,none⟩=some (.map (some b))) (hb:w.heap[b]? = some (.map es clock)) :
  CallsIn Fence.wide 6 aU 104 #[.func (.func 135) #[] #[.pointer (some ⟨Bm,off,none⟩)],.func (.func k) #[] #[]] w (SortedPost w ks):=by
 have hBm:Bm<w.heap.size:=by
  rw [cell?_eq] at hm;exact z3h hm
 have hseq:=zkr Fence.wide (6 - 1 - 1 - 1) trivial rfl (by omega) Bm off b clock es ks hst hks w hBm hm hb
 refine i9 ph rfl trivial ?_ rfl
 simp only [nN,bB,az,aY,gE,iG,dN,fE,gu,fK,bj,aO]
 gi_wp2
 refine ⟨trivial,?_⟩
 refine (zlm Fence.wide (6 - 1) trivial trivial rfl (by omega) 135 _ trivial (Go.Proofs.enters_of gz (by kernel_rfl) rfl) _ ks.length (by unfold fx;omega) (by omega) _ hseq).mono ?_
 rintro e w1 ⟨v,ss,rfl,hS,hrow,hnil,hb1,hd1⟩
 gi_wp2
 refine ⟨trivial,?_⟩
 have hlen2:ss.length=ks.length:=hS.length_eq
 by_cases h0:ss=[]
 ·have hv:=hnil.2 h0
  subst hv
  refine (dO.2 (hN none 0 _ w1)).mono ?_
  rintro e w2 ⟨rfl,rfl⟩
  gi_wp2
  go_ret
  have hk0:ks=[]:=by
   rw [h0] at hlen2
   exact List.eq_nil_of_length_eq_zero hlen2.symm
  exact ⟨hb1,hd1,.inl ⟨hk0,rfl⟩⟩
 ·obtain ⟨g,cap,rfl⟩:∃ g cap,v=.slice (some ⟨g,0,none⟩) ss.length cap:=by
   rcases hrow.2 with ⟨h1,_⟩ | ⟨g',cap',cur,hv,_⟩
   ·exact absurd (hnil.1 h1) h0
   ·exact ⟨g',cap',hv⟩
  obtain ⟨_,arr,hgc,_,hbase,hlc,_⟩:=row_holds hrow
  refine (dO.2 (zeg C hrow (by omega) hG hb1)).mono ?_
  rintro e w2 ⟨rfl,hb2,hd2,hcell⟩
  gi_wp2
  go_ret
  refine ⟨hb1.trans hb2,aG hd1 hd2,.inr ⟨g,cap,rfl,by omega,hbase,?_⟩⟩
  rw [<- zcv hS]
  exact hcell
theorem keyN (gi kk:Nat) (h:F gi=some kk) (hk:[409].contains kk=true):gi=135:=by
 have h1:=z4g h
 have h2:(fl.all fun p=>![409].contains p.2 || p.1 == 135)=true:=by decide +kernel
 have h3:=ay.1 h2 _ h1
 simp only [hk,jV,gD] at h3
 simpa using h3
theorem keyC (g k:Nat) (h:F g=some k) (hk:[386].contains k=true):g=103:=by
 have h1:=z4g h
 have h2:(fl.all fun p=>![386].contains p.2 || p.1 == 103)=true:=by decide +kernel
 have h3:=ay.1 h2 _ h1
 simp only [hk,jV,gD] at h3
 simpa using h3
theorem keysOkA:KeysOk P 104 135 103:=fun Bm off b clock es ks w hst hks hlen hG hm hb=>
 dO.1 (zmx 103 (SortOk.of sortL rfl gA gn cmpOk103) (fun p cap fv w=>gg sortL p cap fv w) Bm off b clock es ks hst hks hlen w hG hm hb)
theorem l104:Hatch P E T F (28,0) 104 388:=zkq (p:=1) (it:=[409]) (cmp:=[386]) (G:=f388) rfl rfl rfl rfl (fun gi kk g k h1 h2 hi hk=>by
 rw [keyN gi kk h1 hi,keyC g k h2 hk]
 exact keysOkA)

theorem l48:∀ n,StatAt P (CLk T F true) F (runS E (dC E n) 356) 48:=zlr (c:=70) (fn:=ku) (code:=ku.body.getD .skip) types fnsOk rfl qG rfl rfl rfl (by kernel_rfl)

theorem tie:Tie P E T F:=ztk (pt:=(28,0)) types mixed fnsOk (allc (za l11 rfl) (allc (za l12 rfl) (allc (za l13 rfl) (allc (za l16 rfl) (allc (za l18 rfl) (allc (za l23 rfl) (allc (za l24 rfl) (allc (za l27 rfl) (allc (za l29 rfl) (allc (za l30 rfl) (allc (za l33 rfl) (allc (za l35 rfl) (allc (za l37 rfl) (allc (za l38 rfl) (allc (za l39 rfl) (allc (za l40 rfl) (allc (za l41 rfl) (allc (za l42 rfl) (allc (za l43 rfl) (allc (za l44 rfl) (allc (za l46 rfl) (allc (za l47 rfl) (allc (zla l48) (allc (za l51 rfl) (allc (z7s l53) (allc (za l54 rfl) (allc (za l55 rfl) (allc (za l56 rfl) (allc (za l57 rfl) (allc (za l58 rfl) (allc (za l59 rfl) (allc (za l64 rfl) (allc (za l65 rfl) (allc (za l66 rfl) (allc (za l67 rfl) (allc (za l68 rfl) (allc (za l69 rfl) (allc (za l75 rfl) (allc (za l80 rfl) (allc (za l83 rfl) (allc (za l84 rfl) (allc (za l85 rfl) (allc (za l86 rfl) (allc (z7s l87) (allc (za l88 rfl) (allc (za l89 rfl) (allc (za l94 rfl) (allc (za l95 rfl) (allc (za l96 rfl) (allc (za l97 rfl) (allc (za l98 rfl) (allc (za l99 rfl) (allc (za l100 rfl) (allc (za l101 rfl) (allc (za l102 rfl) (allc (za l103 rfl) (allc (z7s l104) (allc (za l105 rfl) (allc (za l124 rfl) (allc (za l125 rfl) (allc (za l126 rfl) (allc (za l127 rfl) (allc (za l128 rfl) (allc (za l129 rfl) (allc (za l130 rfl) (allc (za l131 rfl) (allc (za l132 rfl) (allc (za l133 rfl) (allc (za l135 rfl) (alln))))))))))))))))))))))))))))))))))))))))))))))))))))))))))))))))))))))

end Dv.Tryd
