/- Texts that a proof of this claim uses, joined: Dv.LinkTryd. -/
import Derived.Test.YtfagnjchgplecaaDoorDvd
import Derived.Test.YtfagnjchgplecaaDoorCode
import Derived.WalkKit
import Derived.RecoverIn
import Derived.Lib.Walk
import Derived.Lib.SliceRun
import Derived.Lib.AppendZerosOnto
import Derived.Test.YtfagnjchgplecaaDoorSh
import Derived.Test.YtfagnjchgplecaaDoorWa
import Derived.Test.YtfagnjchgplecaaDoorChecked
import Derived.KernelRfl
set_option linter.all false
open Array renaming getElem?_eq_some_iff->aB,length_toList->cw,replicate_succ->dO,replicate_zero->fD
open Bool renaming false_or->gH,not_true->jX
open Go renaming Value->na,YieldAt->lq,callFunc->iq,callsIn_of_wp->i6,callsIn_wide->dP,grownBy_keeps->i9,maxLen->fu,run_makeInterface->fA,undef->aA
open Go.Builtin renaming zeroCells->bT
open Go.Oper renaming semAt_eq->cq
open Go.Proofs.AnyF renaming slices_SortFunc_none->gn
open Go.Proofs.SlLaysF0 renaming n6->jK
open Go.Proofs.Tryd renaming f145->fM,f48->kw,func10->pK,func100->nZ,func101->n5,func102->n7,func103->jp,func104->pn,func105->n8,func106->n9,func107->oa,func108->oc,func109->od,func114->oC,func115->oG,func116->oH,func117->oJ,func118->oK,func119->oP,func120->oQ,func121->oT,func122->oU,func123->oV,func124->jq,func125->og,func126->oh,func127->ol,func128->om,func129->oq,func130->ot,func131->ou,func132->ov,func133->ow,func134->pm,func135->gE,func136->oz,func140->oW,func141->oY,func142->oZ,func143->o5,func144->o6,func145->ph,func150->o7,func16->pL,func18->pM,func23->pN,func24->pO,func27->pP,func29->pQ,func30->pR,func33->pS,func34->pT,func35->pU,func36->pV,func37->pW,func39->pX,func40->pY,func43->pZ,func44->p5,func46->p6,func47->p7,func48->qM,func51->p8,func53->qD,func54->jG,func55->p9,func56->qa,func57->qb,func58->qc,func59->qd,func63->qe,func64->qf,func65->qg,func66->qh,func67->qi,func68->qj,func69->qk,func70->ql,func71->qm,func72->qn,func73->qo,func74->qp,func75->qq,func80->qr,func81->qF,func82->qG,func83->jH,func84->jI,func85->qs,func86->qu,func87->jJ,func88->qv,func89->qw,func94->qx,func95->qy,func96->qz,func97->qA,func98->qB,func99->qC,isAgg0->qH,isAgg139->ny,isAgg142->nC,isAgg147->nD,isAgg180->nz,isAgg181->nA,isAgg185->nB,isAgg202->nE,isAgg205->nF,isAgg212->nG,isAgg213->nH,isAgg25->gF,isAgg3->qI,isAgg39->pf,isAgg4->qJ,isAgg5->qK,isAgg9->qL,isAgg99->pg,ntmps104->nL,ntmps134->nK,ntmps135->nI,ntmps145->nJ,ntmps87->jr,prog->aW,sizeOf0->o8,sizeOf139->nc,sizeOf142->ni,sizeOf147->nj,sizeOf180->nf,sizeOf181->ng,sizeOf185->nh,sizeOf202->nk,sizeOf205->nl,sizeOf212->nn,sizeOf213->np,sizeOf25->gt,sizeOf3->o9,sizeOf39->nw,sizeOf4->pb,sizeOf5->pd,sizeOf9->pe,sizeOf99->nx,underlying0->my,underlying124->lS,underlying139->lI,underlying142->lM,underlying147->lN,underlying180->lJ,underlying181->lK,underlying185->lL,underlying202->lO,underlying205->lP,underlying212->lQ,underlying213->lR,underlying3->mz,underlying39->iC,underlying4->mA,underlying5->mB,underlying9->mC,underlying99->lX,zeroValue0->mJ,zeroValue139->lY,zeroValue142->l7,zeroValue147->l8,zeroValue180->lZ,zeroValue181->l5,zeroValue185->l6,zeroValue202->l9,zeroValue205->ma,zeroValue212->mb,zeroValue213->mc,zeroValue3->mK,zeroValue39->mD,zeroValue4->mL,zeroValue5->mM,zeroValue9->mN,zeroValue99->mE
open List renaming all_eq_true->ax,append_toArray->fL,cons_append->aR,length_cons->az,length_nil->be,nil_append->bh,push_toArray->gy,size_toArray->bB
open Nat renaming le_refl->af,le_trans->aG,reduceAdd->gI,reduceSub->iH
open Option renaming getD_some->ch
open Option.some renaming injEq->aa
set_option maxHeartbeats 16000000
namespace Dv.Tryd
open Go (Program)

open Go.RowKit
open Go (Value World Act Oper Operand Code Ending Exit MapEntry Fence CallsIn KeepsWalks)
noncomputable abbrev P:Program:=aW

def tl:List (Nat × Nat):=[(3,2),(4,7),(5,13),(9,53),(22,70),(23,66),(25,65),(28,3),(35,69),(39,67),(43,68),(46,73),(48,71),(50,72),(51,6),(57,30),(61,54),(68,56),(70,55),(73,10),(74,9),(75,14),(77,0),(78,36),(107,60),(110,18),(112,17),(113,16),(115,15),(117,37),(124,75),(139,12),(142,78),(143,76),(144,77),(147,63),(148,74),(151,59),(153,58),(154,62),(162,20),(164,21),(168,19),(180,79),(189,80),(193,81),(196,57),(202,82),(207,64)]

def fl:List (Nat × Nat):=[(10,338),(16,316),(18,318),(23,324),(24,325),(27,331),(29,334),(30,335),(33,339),(34,2),(35,340),(36,341),(37,342),(39,345),(40,346),(43,350),(44,352),(46,354),(47,355),(48,356),(51,359),(53,361),(54,362),(55,363),(56,364),(57,365),(58,366),(59,264),(63,61),(64,15),(65,367),(66,368),(67,71),(68,369),(69,370),(70,19),(71,371),(72,372),(73,373),(74,374),(75,375),(80,380),(83,105),(84,74),(85,404),(86,383),(87,384),(88,281),(89,282),(94,67),(95,69),(96,70),(97,72),(98,73),(99,75),(100,76),(101,106),(102,385),(103,386),(104,388),(105,387),(106,81),(107,79),(108,82),(109,389),(124,107),(125,405),(126,406),(127,407),(128,297),(129,298),(130,312),(131,311),(132,299),(133,300),(135,409),(136,109)]

def T:Phi:=y7y tl
def F:Phi:=y7y fl

theorem types:y33 P E T:=zup (by kernel_rfl)
theorem mixed:P.follows .mixedOrders=true:=by kernel_rfl
theorem yco:y32 P F:=zie (by kernel_rfl)

theorem pt1:P.concrete (28,0).1=true:=by kernel_rfl
theorem pt2:P.concrete (28,0).2=true:=by kernel_rfl
theorem l10:FnL P T F 10 f338:=zc pK (by kernel_rfl) (by kernel_rfl)
theorem l16:FnL P T F 16 f316:=zc pL (by kernel_rfl) (by kernel_rfl)
theorem l18:FnL P T F 18 f318:=zc pM (by kernel_rfl) (by kernel_rfl)
theorem l23:FnL P T F 23 f324:=zc pN (by kernel_rfl) (by kernel_rfl)
theorem l24:FnL P T F 24 f325:=zc pO (by kernel_rfl) (by kernel_rfl)
theorem l27:FnL P T F 27 f331:=zc pP (by kernel_rfl) (by kernel_rfl)
theorem l29:FnL P T F 29 f334:=zc pQ (by kernel_rfl) (by kernel_rfl)
theorem l30:FnL P T F 30 f335:=zc pR (by kernel_rfl) (by kernel_rfl)
theorem l33:FnL P T F 33 f339:=zc pS (by kernel_rfl) (by kernel_rfl)
theorem l34:FnL P T F 34 f2:=zc pT (by kernel_rfl) (by kernel_rfl)
theorem l35:FnL P T F 35 f340:=zc pU (by kernel_rfl) (by kernel_rfl)
theorem l36:FnL P T F 36 f341:=zc pV (by kernel_rfl) (by kernel_rfl)
theorem l37:FnL P T F 37 f342:=zc pW (by kernel_rfl) (by kernel_rfl)
theorem l39:FnL P T F 39 f345:=zc pX (by kernel_rfl) (by kernel_rfl)
theorem l40:FnL P T F 40 f346:=zc pY (by kernel_rfl) (by kernel_rfl)
theorem l43:FnL P T F 43 f350:=zc pZ (by kernel_rfl) (by kernel_rfl)
theorem l44:FnL P T F 44 f352:=zc p5 (by kernel_rfl) (by kernel_rfl)
theorem l46:FnL P T F 46 f354:=zc p6 (by kernel_rfl) (by kernel_rfl)
theorem l47:FnL P T F 47 f355:=zc p7 (by kernel_rfl) (by kernel_rfl)
theorem l51:FnL P T F 51 f359:=zc p8 (by kernel_rfl) (by kernel_rfl)
theorem l54:FnL P T F 54 f362:=zc jG (by kernel_rfl) (by kernel_rfl)
theorem l55:FnL P T F 55 f363:=zc p9 (by kernel_rfl) (by kernel_rfl)
theorem l56:FnL P T F 56 f364:=zc qa (by kernel_rfl) (by kernel_rfl)
theorem l57:FnL P T F 57 f365:=zc qb (by kernel_rfl) (by kernel_rfl)
theorem l58:FnL P T F 58 f366:=zc qc (by kernel_rfl) (by kernel_rfl)
theorem l59:FnL P T F 59 f264:=zc qd (by kernel_rfl) (by kernel_rfl)
theorem l63:FnL P T F 63 f61:=zc qe (by kernel_rfl) (by kernel_rfl)
theorem l64:FnL P T F 64 f15:=zc qf (by kernel_rfl) (by kernel_rfl)
theorem l65:FnL P T F 65 f367:=zc qg (by kernel_rfl) (by kernel_rfl)
theorem l66:FnL P T F 66 f368:=zc qh (by kernel_rfl) (by kernel_rfl)
theorem l67:FnL P T F 67 f71:=zc qi (by kernel_rfl) (by kernel_rfl)
theorem l68:FnL P T F 68 f369:=zc qj (by kernel_rfl) (by kernel_rfl)
theorem l69:FnL P T F 69 f370:=zc qk (by kernel_rfl) (by kernel_rfl)
theorem l70:FnL P T F 70 f19:=zc ql (by kernel_rfl) (by kernel_rfl)
theorem l71:FnL P T F 71 f371:=zc qm (by kernel_rfl) (by kernel_rfl)
theorem l72:FnL P T F 72 f372:=zc qn (by kernel_rfl) (by kernel_rfl)
theorem l73:FnL P T F 73 f373:=zc qo (by kernel_rfl) (by kernel_rfl)
theorem l74:FnL P T F 74 f374:=zc qp (by kernel_rfl) (by kernel_rfl)
theorem l75:FnL P T F 75 f375:=zc qq (by kernel_rfl) (by kernel_rfl)
theorem l80:FnL P T F 80 f380:=zc qr (by kernel_rfl) (by kernel_rfl)
theorem l83:FnL P T F 83 f105:=zc jH (by kernel_rfl) (by kernel_rfl)
theorem l84:FnL P T F 84 f74:=zc jI (by kernel_rfl) (by kernel_rfl)
theorem l85:FnL P T F 85 f404:=zc qs (by kernel_rfl) (by kernel_rfl)
theorem l86:FnL P T F 86 f383:=zc qu (by kernel_rfl) (by kernel_rfl)
theorem l88:FnL P T F 88 f281:=zc qv (by kernel_rfl) (by kernel_rfl)
theorem l89:FnL P T F 89 f282:=zc qw (by kernel_rfl) (by kernel_rfl)
theorem l94:FnL P T F 94 f67:=zc qx (by kernel_rfl) (by kernel_rfl)
theorem l95:FnL P T F 95 f69:=zc qy (by kernel_rfl) (by kernel_rfl)
theorem l96:FnL P T F 96 f70:=zc qz (by kernel_rfl) (by kernel_rfl)
theorem l97:FnL P T F 97 f72:=zc qA (by kernel_rfl) (by kernel_rfl)
theorem l98:FnL P T F 98 f73:=zc qB (by kernel_rfl) (by kernel_rfl)
theorem l99:FnL P T F 99 f75:=zc qC (by kernel_rfl) (by kernel_rfl)
theorem l100:FnL P T F 100 f76:=zc nZ (by kernel_rfl) (by kernel_rfl)
theorem l101:FnL P T F 101 f106:=zc n5 (by kernel_rfl) (by kernel_rfl)
theorem l102:FnL P T F 102 f385:=zc n7 (by kernel_rfl) (by kernel_rfl)
theorem l103:FnL P T F 103 f386:=zc jp (by kernel_rfl) (by kernel_rfl)
theorem l105:FnL P T F 105 f387:=zc n8 (by kernel_rfl) (by kernel_rfl)
theorem l106:FnL P T F 106 f81:=zc n9 (by kernel_rfl) (by kernel_rfl)
theorem l107:FnL P T F 107 f79:=zc oa (by kernel_rfl) (by kernel_rfl)
theorem l108:FnL P T F 108 f82:=zc oc (by kernel_rfl) (by kernel_rfl)
theorem l109:FnL P T F 109 f389:=zc od (by kernel_rfl) (by kernel_rfl)
theorem l124:FnL P T F 124 f107:=zc jq (by kernel_rfl) (by kernel_rfl)
theorem l125:FnL P T F 125 f405:=zc og (by kernel_rfl) (by kernel_rfl)
theorem l126:FnL P T F 126 f406:=zc oh (by kernel_rfl) (by kernel_rfl)
theorem l127:FnL P T F 127 f407:=zc ol (by kernel_rfl) (by kernel_rfl)
theorem l128:FnL P T F 128 f297:=zc om (by kernel_rfl) (by kernel_rfl)
theorem l129:FnL P T F 129 f298:=zc oq (by kernel_rfl) (by kernel_rfl)
theorem l130:FnL P T F 130 f312:=zc ot (by kernel_rfl) (by kernel_rfl)
theorem l131:FnL P T F 131 f311:=zc ou (by kernel_rfl) (by kernel_rfl)
theorem l132:FnL P T F 132 f299:=zc ov (by kernel_rfl) (by kernel_rfl)
theorem l133:FnL P T F 133 f300:=zc ow (by kernel_rfl) (by kernel_rfl)
theorem l135:FnL P T F 135 f409:=zc gE (by kernel_rfl) (by kernel_rfl)
theorem l136:FnL P T F 136 f109:=zc oz (by kernel_rfl) (by kernel_rfl)

theorem hmk(b:Bool)(v:na)(w:Go.World):(Go.Instr.makeInterface (if b=true then((28,0):Nat × Nat).2 else((28,0):Nat × Nat).1) v).run P w=.ok (.iface (if b=true then((28,0):Nat × Nat).2 else((28,0):Nat × Nat).1) v) w:=by
 cases b
 ·exact fA w _ v pt1
 ·exact fA w _ v pt2


section
open Go Go.Proofs Go.RowKit
set_option maxRecDepth 100000 in
theorem znz(base:Option Addr)(w:World):Calls aW 87 #[.slice base 0 0,.int .i64 0] w fun e w'=>e=.returned (.slice base 0 0)/\w'=w:=by
 go_enter jJ,jr
 go_wp2
 go_ret
 exact⟨rfl,rfl⟩

set_option maxRecDepth 100000 in
theorem zo0(i0:TypeInfo)(z:Value)(hi0:aW.info? 5=some i0)(hz0:i0.zero=some z)(hs0:0<i0.size)(base:Option Addr)(n:Nat)(w:World)(hroom:0<n)(hbig:n*i0.bytes<=140737488355328)(h63:n<=4611686018427387904) :
  Calls aW 87 #[.slice base 0 0,.int .i64 n] w fun e w'=>e=.returned (.slice (some ⟨w.heap.size,0,none⟩) 0 (grownCap w n 0 5)) /\
   w'=w.drew.alloc (.cells (Builtin.zeroCells z.cells n++Builtin.zeroCells z.cells (grownCap w n 0 5 - n)) 5):=by
 have h1 : ¬ ((n:Int)<0):=by omega
 have h4:(n:Int) > 0:=by omega
 have hw0:wrap64 (n:Int)=(n:Int):=by unfold wrap64;omega
 have hrz:∀ ty,(Builtin.append_ #[57,3] ty #[.slice base 0 0,.int .i64 (n:Int)]).run aW w =
   .ok (.slice (some ⟨w.heap.size,0,none⟩) n (grownCap w n 0 5)) (w.drew.alloc (.cells (Builtin.zeroCells z.cells n++Builtin.zeroCells z.cells (grownCap w n 0 5 - n)) 5)):=fun ty=>by
  have y5g:(Builtin.firstCells i0.size 0 (.slice base 0 0)).run aW w.drew=.ok ([]:List Value).toArray w.drew:=by
   cases base with
   |none=>exact run_firstCells_none w.drew i0.size 0 0 0
   |some a=>exact run_firstCells_some w.drew i0.size 0 a 0 0 [] (by simp) (fun j v hj=>by simp at hj)
  have h:=Lib.run_append_grow_zeros w 57 3 ty 5 i0 z .i64 .i64 (by kernel_rfl) (by kernel_rfl) hi0 hz0 base 0 0 [] y5g n (by omega) hs0 (by omega) (by omega)
   (by omega) (by rw[Nat.zero_add];exact growslice_fits hroom hbig)
  simpa using h
 go_enter jJ,jr
 go_wp2_with (at_builtin;refine Lib.wpList_append_run _ rfl _ _ _ _ rfl _ _ rfl rfl _ _ (hrz _) ?_)
 all_goals (go_ret;exact⟨rfl,rfl⟩)
end

theorem zb3(z:Array na)(n:Nat):(bT z n).size=n*z.size:=by simp[bT]

theorem z6y:∀{l:List na} {ds:List D},y26 l=some ds->l.length=ds.length
 |[],ds,h=>by simp[y26] at h;subst h;rfl
 |v::l,ds,h=>by
  simp only[y26] at h
  split at h
  ·rename_i d r h1 h2
   simp only[aa] at h;subst h
   simp[z6y h2]
  ·simp at h

theorem ycl:yas P 87 (E.ty 13).bytes (E.ty 13).size:=by
 obtain⟨i0,hi0,hsz,hby,hz⟩:=(types 5 13 rfl).info
 obtain⟨z,hz0,hzl,_⟩:=hz (by decide) (by decide)
 have hzs:z.cells.size=(E.ty 13).size:=by
  have:=z6y hzl
  rw[cw] at this
  rw[this];decide
 have hpos:0<i0.size:=by rw[hsz];decide
 rw[<- hsz,<- hby]
 constructor
 ·intro base w
  exact znz base w
 ·intro base n w hn hb hn2
  have:=zo0 i0 z hi0 hz0 hpos base n w hn hb hn2
  have hG:=Go.grownCap_ge w n 0 5
  generalize Go.grownCap w n 0 5=G at this hG
  refine this.mono ?_
  rintro e w' ⟨rfl,rfl⟩
  refine⟨G,5,_,?_,rfl,rfl,⟨rfl,rfl,rfl,Nat.le_succ _⟩⟩
  simp only[Array.size_append,zb3,hzs,hsz]
  rw[<- Nat.add_mul,show n+(G - n)=G from by omega]

theorem l87:y6d P E T F (28,0) 87 384:=zkr (c:=30) (i:=2) (e:=13) (G:=f384) rfl rfl rfl rfl ycl


def yay:Go.Shelf.Ren:={ f:=fun | 6=>53 | 15=>82 | 14=>81 | 28=>122 | 29=>123 | 20=>114 | 21=>115 | 22=>116 | 23=>117 | 24=>118 | 25=>119 | 26=>120 | 27=>121 | 46=>140 | 47=>141 | 48=>142 | 49=>143 | 50=>144 | 57=>150 | n=>n,t:=fun | 22=>39 | 24=>25 | 25=>99 | 3=>3 | 39=>139 | 0=>0 | 53=>142 | 55=>147 | 4=>4 | 46=>181 | 45=>180 | 50=>185 | 5=>5 | 9=>9 | 66=>202 | 70=>205 | 76=>212 | 77=>213 | n=>n,g:=fun n=>n }
set_option maxRecDepth 100000 in
theorem y9a:jK P yay where
 mixed:=mixed
 f6:=⟨ "slices.SortFunc[[]overflight/api.Account,overflight/api.Account]",by decide,qD.trans (congrArg some (by kernel_rfl))⟩
 f14:=⟨ "slices.pdqsortCmpFunc[overflight/api.Account]",by decide,qF.trans (congrArg some (by kernel_rfl))⟩
 f15:=qG.trans (congrArg some (by kernel_rfl))
 f20:=⟨ "slices.insertionSortCmpFunc[overflight/api.Account]",by decide,oC.trans (congrArg some (by kernel_rfl))⟩
 f21:=⟨ "slices.heapSortCmpFunc[overflight/api.Account]",by decide,oG.trans (congrArg some (by kernel_rfl))⟩
 f22:=⟨ "slices.breakPatternsCmpFunc[overflight/api.Account]",by decide,oH.trans (congrArg some (by kernel_rfl))⟩
 f23:=⟨ "slices.choosePivotCmpFunc[overflight/api.Account]",by decide,oJ.trans (congrArg some (by kernel_rfl))⟩
 f24:=⟨ "slices.reverseRangeCmpFunc[overflight/api.Account]",by decide,oK.trans (congrArg some (by kernel_rfl))⟩
 f25:=⟨ "slices.partialInsertionSortCmpFunc[overflight/api.Account]",by decide,oP.trans (congrArg some (by kernel_rfl))⟩
 f26:=⟨ "slices.partitionEqualCmpFunc[overflight/api.Account]",by decide,oQ.trans (congrArg some (by kernel_rfl))⟩
 f27:=⟨ "slices.partitionCmpFunc[overflight/api.Account]",by decide,oT.trans (congrArg some (by kernel_rfl))⟩
 f28:=oU.trans (congrArg some (by kernel_rfl))
 f29:=oV.trans (congrArg some (by kernel_rfl))
 f46:=⟨ "slices.siftDownCmpFunc[overflight/api.Account]",by decide,oW.trans (congrArg some (by kernel_rfl))⟩
 f47:=oY.trans (congrArg some (by kernel_rfl))
 f48:=oZ.trans (congrArg some (by kernel_rfl))
 f49:=⟨ "slices.medianAdjacentCmpFunc[overflight/api.Account]",by decide,o5.trans (congrArg some (by kernel_rfl))⟩
 f50:=⟨ "slices.medianCmpFunc[overflight/api.Account]",by decide,o6.trans (congrArg some (by kernel_rfl))⟩
 f57:=⟨ "slices.order2CmpFunc[overflight/api.Account]",by decide,o7.trans (congrArg some (by kernel_rfl))⟩
 t0:=my
 a0:=qH
 z0:=o8
 v0:=mJ
 t3:=mz
 a3:=qI
 z3:=o9
 v3:=mK
 t4:=mA
 a4:=qJ
 z4:=pb
 v4:=mL
 t5:=mB
 a5:=qK
 z5:=pd
 v5:=mM
 t9:=mC
 a9:=qL
 z9:=pe
 v9:=mN
 t22:=iC
 a22:=pf
 z22:=nw
 v22:=mD
 t25:=lX
 a25:=pg
 z25:=nx
 v25:=mE
 t39:=lI
 a39:=ny
 z39:=nc
 v39:=lY
 t45:=lJ
 a45:=nz
 z45:=nf
 v45:=lZ
 t46:=lK
 a46:=nA
 z46:=ng
 v46:=l5
 t50:=lL
 a50:=nB
 z50:=nh
 v50:=l6
 t53:=lM
 a53:=nC
 z53:=ni
 v53:=l7
 t55:=lN
 a55:=nD
 z55:=nj
 v55:=l8
 t66:=lO
 a66:=nE
 z66:=nk
 v66:=l9
 t70:=lP
 a70:=nF
 z70:=nl
 v70:=ma
 t76:=lQ
 a76:=nG
 z76:=nn
 v76:=mb
 t77:=lR
 a77:=nH
 z77:=np
 v77:=mc
def flA:List (Nat × Nat):=[(54,362),(83,105),(84,74),(103,386),(124,107)]
def FA:Phi:=y7y flA
theorem ycn:y32 P FA:=zie (by kernel_rfl)
theorem a54:FnL P T FA 54 f362:=zc jG (by kernel_rfl) (by kernel_rfl)
theorem a83:FnL P T FA 83 f105:=zc jH (by kernel_rfl) (by kernel_rfl)
theorem a84:FnL P T FA 84 f74:=zc jI (by kernel_rfl) (by kernel_rfl)
theorem a103:FnL P T FA 103 f386:=zc jp (by kernel_rfl) (by kernel_rfl)
theorem a124:FnL P T FA 124 f107:=zc jq (by kernel_rfl) (by kernel_rfl)
theorem tieA:Tie P E T FA:=zt9 (pt:=(28,0)) types mixed ycn (y21 (z6 a54 rfl) (y21 (z6 a83 rfl) (y21 (z6 a84 rfl) (y21 (z6 a103 rfl) (y21 (z6 a124 rfl) (alln))))))
theorem zyb(a b c d:Int):orI [y4p a c,y4p b d]=cfP (a,b) (c,d):=by
 unfold cfP y4p
 simp only[orI]
 repeat' split
 all_goals first | rfl | omega
theorem ybh:y84 P 54:=y84.of_sim tieA (g:=54) (g':=362) rfl fun a b c d=>by
 rw[<- zyb]
 exact z7n (yeu a b c d)
theorem y8d:y84 P 103:=y84.of_sim tieA (g:=103) (g':=386) rfl fun a b c d=>by
 rw[<- zyb]
 exact z7n (yet a b c d)
theorem cmpN(g k:Nat)(h:F g=some k)(hk:[362,386].contains k=true):g=54\/g=103:=by
 have h1:=z4l h
 have h2:(fl.all fun p=>![362,386].contains p.2 || p.1 == 54 || p.1 == 103)=true:=by decide +kernel
 have h3:=ax.1 h2 _ h1
 simp only[hk,jX,gH] at h3
 simpa using h3
theorem l53:y6d P E T F (28,0) 53 361:=zjb (p:=0) (cmp:=[362,386]) (G:=f361) rfl rfl rfl rfl
 (fun g k h hk=>by
  rcases cmpN g k h hk with rfl | rfl
  ·exact y5d.of y9a rfl gF gt ybh
  ·exact y5d.of y9a rfl gF gt y8d)
 (fun p cap fv w=>gn y9a p cap fv w)

set_option maxRecDepth 100000 in
theorem zr2(F:Fence)(n:Nat)(h10:F.fn 135)(hro:F.round=none)(hn:1<=n)(l Bm off b clock:Nat)(es:Array MapEntry)(ks:List (Int × Int))(hst:y3b es clock)(hks:es.toList.map (fun e=>e.key)=ks.map y70)(J:List (Int × Int)->World->Prop)
  (hY:∀ pre x W,J pre W->pre.length<ks.length->lq F (n - 1) aW l #[y70 x] W fun e W'=>e=.returned (.bool true)/\J (pre++[x]) W'/\KeepsWalks W W')
  (W:World) (hJ:y85 W.heap.size J) (hm:W.cell? ⟨Bm,off,none⟩=some (.map (some b))) (hb:W.heap[b]? = some (.map es clock)) (h0:J [] W) :
  CallsIn F n aW 135 #[.func (.yield l) #[] #[],.pointer (some ⟨Bm,off,none⟩)] W fun e W'=>(∃ v,e=.returned v) /\ ∃ ss:List (Int × Int),ss.Perm ks/\J ss W':=by
 refine i6 gE rfl h10 ?_ hro
 simp only[nI,bB,az,be,gI,iH,dO,fD,gy,fL,bh,aR]
 gi_wp2_with (first
  |(gi_at_range;refine yav _ rfl _ 124 25 3 rfl lS b es clock rfl hb ?_;intro w0 hb0 hr0 hg0 hs0 hd0)
  |gi_in)
 go_frame
 gi_loopw [3] (fun _ wr=>∃(seen:Array Nat) (ss:List (Int × Int)),wr.heap[b]? = some (.map es clock)/\wr.heap[W.heap.size]? = some (.mapIter (some b) clock seen clock)/\y57 ks es.toList seen ss/\J ss wr)
  (fun _ wr=>wr.rangeLeft b W.heap.size)
 case atStart=>
  exact⟨#[],[],hb0,hr0,by unfold y57 y3z;rw[List.map_nil,bh,<- hks,List.filter_eq_self.2 (by simp)],hJ [] W w0 none h0 hg0 hd0 (fun r e=>by cases e)⟩
 case round=>
  obtain⟨seen,ss,hbr,hrr,hC,hJs⟩:=hrel
  gi_wp2_with (first
   |(gi_at_next;refine yc4 _ rfl _ rfl b W.heap.size clock es seen hst rfl hbr hrr ?_ ?_)
   |gi_in)
  ·intro hl
   gi_wp2
   go_end0
   exact⟨⟨_,rfl⟩,ss,hC.done hl,hJs⟩
  ·intro e w2 he hb2 hr2 hg2 hs2 hd2 hen
   have hlen:=hC.len
   obtain⟨x,hx⟩:=hC.key he
   have hC2:=hC.step hst.2 he hx
   have hlt:ss.length<ks.length:=by
    have:0<(y3z es.toList seen).length:=List.length_pos_of_mem he
    omega
   obtain⟨key,val,born⟩:=e
   simp only at hx hen hr2 hC2
   subst hx
   have hJ2:J ss w2:=hJ ss wr w2 (some W.heap.size) hJs hg2 hd2 (fun r e=>by cases e;exact⟨af _,_,hrr,rfl⟩)
   have hJ3:J ss (w2.alloc (.cells #[.int .i64 x.1,.int .i64 x.2] 25)):=hJ ss w2 _ none hJ2 (Go.World.grownBy_alloc w2 _ none) (af _) (fun r e=>by cases e)
   have hb3:(w2.alloc (.cells #[.int .i64 x.1,.int .i64 x.2] 25)).heap[b]? = some (.map es clock):=(Below.heap_alloc _ _ b (z1m hb2)).trans hb2
   have hr3:(w2.alloc (.cells #[.int .i64 x.1,.int .i64 x.2] 25)).heap[W.heap.size]? = some (.mapIter (some b) clock (seen.push born) clock):=(Below.heap_alloc _ _ W.heap.size (z1m hr2)).trans hr2
   obtain⟨fn,tmps,assign,body,hy,hR⟩:=hY ss x _ hJ3 hlt
   clear hs2 hd2
   gi_wp2
   refine hR.mono ?_
   rintro e W3 ⟨rfl,hJ3,hk3⟩
   gi_wp2
   have hb4:=hk3.same b _ hb3 rfl
   have hr4:=hk3.same W.heap.size _ hr3 rfl
   go_roundw
   case rel=>exact⟨seen.push born,ss++[x],hb4,hr4,hC2,hJ3⟩
   case measure=>
    have hlen2:=hC2.len
    unfold Go.World.rangeLeft
    rw[hb4,hr4,hbr,hrr]
    simp only[]
    rw[<- cw,<- cw,z4m,z4m]
    simp only[List.length_append,az,be] at hlen2
    omega

theorem zk9(F:Fence)(n:Nat)(h10:F.fn 135)(hro:F.round=none)(hn:1<=n)(Bm off b clock:Nat)(es:Array MapEntry)(ks:List (Int × Int))(hst:y3b es clock)(hks:es.toList.map (fun e=>e.key)=ks.map y70)(w:World)(hBm:Bm<w.heap.size)
  (hm:w.cell? ⟨Bm,off,none⟩=some (.map (some b))) (hb:w.heap[b]? = some (.map es clock)) :
  yft F n aW 135 #[.pointer (some ⟨Bm,off,none⟩)] (fun ss=>ss.Perm ks) ks.length w:=fun l J W hW hJ hY h0=>
 zr2 F n h10 hro hn l Bm off b clock es ks hst hks J hY W hJ ((hW.cell (p:=⟨Bm,off,none⟩) hBm).trans hm) ((hW.block b (z1m hb)).trans hb) h0
def y6w:Code->Code × Code
 |.seq _ (.seq (.seq _ (.block _ (.rangeFunc _ _ a b))) _)=>(a,b)
 |_=>(.skip,.skip)
noncomputable def yfr:Code:=(y6w (fM.body.getD .skip)).1
noncomputable def yfq:Code:=(y6w (fM.body.getD .skip)).2

noncomputable def y5r(fn:Nat)(sv:Value)(Bs D:Nat)(st:Go.LoopState)(pend:Option Code):Go.Loop:=
 { state:=st,pending:=pend,fn,tmps:=#[.slice none 0 0,sv,.pointer (some ⟨Bs,0,none⟩),aA,.slice none 0 0,aA,sv,aA,aA,aA,aA,aA,aA],params:=#[7],assign:=yfr,body:=yfq,defers:=D }

structure yc3(w0:World)(fn:Nat)(sv:Value)(Bs l D:Nat)(ss:List (Int × Int))(W:World):Prop where
 box:∃ v,W.heap[Bs]? = some (.cells #[v] 39 (0,0))/\W.ownsRow w0.heap.size 25 2 v ss.length (ss.flatMap y47)/\(v=.slice none 0 0 ↔ ss=[])
 L:W.heap[l]? = some (.loop (y5r fn sv Bs D .ready none))
 K:W.heap[D]? = some (.deferred (some []))
 below:Below w0.heap.size w0 W
 dr:w0.drawn<=W.drawn

theorem zfc(w0:World)(fn:Nat)(sv:Value)(Bs l D B:Nat)(hB:w0.heap.size<=B):y85 B (yc3 w0 fn sv Bs l D):=fun s W W' row h hg hd hrow=>by
 have hrow':∀ r,row=some r->∃ o:Go.Obj,W.heap[r]? = some o/\o.isWalk=true:=fun r e=>(hrow r e).2
 obtain⟨v,hv,hr,hn⟩:=h.box
 exact⟨⟨v,(i9 hg hrow' hv rfl).trans hv,zjf hr hg hrow',hn⟩,(i9 hg hrow' h.L rfl).trans h.L,(i9 hg hrow' h.K rfl).trans h.K,
  h.below.grown hg h.below.size (fun k e=>aG hB (hrow k e).1),aG h.dr hd⟩

theorem yfc:(aW.info? 25).map (fun i=>(i.zero,i.size,i.bytes))=some (some (.agg #[.int .i64 0,.int .i64 0]),2,16):=by kernel_rfl

set_option maxRecDepth 100000 in
theorem ybk(F:Fence)(m:Nat)(w0:World)(fn:Nat)(hfn:F.fn fn)(sv:Value)(Bs l D:Nat)(hBl:Bs ≠ l)(hDl:D ≠ l)(hDB:D ≠ Bs)(h0B:w0.heap.size<=Bs)(h0l:w0.heap.size<=l)
  (N:Nat) (hN:N<=fu) (hNb:N*16<=140737488355328) (ss:List (Int × Int)) (x:Int × Int) (W0:World) (h0:yc3 w0 fn sv Bs l D ss W0) (hlen:ss.length<N) :
  lq F m aW l #[y70 x] W0 fun e W'=>e=.returned (.bool true)/\yc3 w0 fn sv Bs l D (ss++[x]) W'/\KeepsWalks W0 W':=by
 obtain⟨i0,hi,hz0,hz1,hz2⟩:=Go.info_parts yfc
 have h1:yc3 w0 fn sv Bs l D ss (W0.alloc (.cells #[.int .i64 x.1,.int .i64 x.2] 25)):=zfc w0 fn sv Bs l D W0.heap.size h0.below.size ss W0 _ none h0 (World.grownBy_alloc W0 _ none) (af _) (fun r e=>by cases e)
 refine⟨fn,#[.slice none 0 0,sv,.pointer (some ⟨Bs,0,none⟩),aA,.slice none 0 0,aA,sv,y70 x,aA,aA,aA,aA,aA],yfr,yfq,by simpa[y5r] using Go.run_yield (P:=aW) (args:=#[y70 x]) h0.L rfl,Go.roundIn_of_wpIn hfn ?_⟩
 obtain⟨W,hW⟩:∃ W,W=W0.alloc (.cells #[.int .i64 x.1,.int .i64 x.2] 25):=⟨_,rfl⟩
 rw[<- hW] at h1
 have hdr0:w0.drawn<=W.drawn:=by rw[hW];exact h0.dr
 have hk0:KeepsWalks W0 W:=by rw[hW];exact KeepsWalks.alloc _ _
 obtain⟨v,hv,hrow,_⟩:=h1.box
 have hl:l<W.heap.size:=(aB.1 h1.L).1
 have hbr:=Go.run_beginRound (P:=aW) h1.L rfl
 obtain⟨W2,hW2⟩:∃ W2,W.putObj l (.loop { y5r fn sv Bs D .ready none with state:=.busy })=W2:=⟨_,rfl⟩
 rw[hW2] at hbr
 have hg2:W.grownBy W2 (some l):=by rw[<- hW2];exact y45 _ _ _
 have hk2:KeepsWalks W W2:=by rw[<- hW2];exact KeepsWalks.putObj _ h1.L rfl
 have hv2:W2.heap[Bs]? = some (.cells #[v] 39 (0,0)):=by rw[<- hW2];exact(World.putObj_heap_other hBl).trans hv
 have hK2:W2.heap[D]? = some (.deferred (some [])):=by rw[<- hW2];exact(World.putObj_heap_other hDl).trans h1.K
 have hL2:W2.heap[l]? = some (.loop { y5r fn sv Bs D .ready none with state:=.busy }):=by rw[<- hW2];exact World.putObj_heap_same hl
 have hrow2:W2.ownsRow w0.heap.size 25 2 v ss.length (ss.flatMap y47):=hrow.kept hg2 (zbi hrow h1.L (fun cur e=>by cases e))
 have hb2:Below w0.heap.size w0 W2:=h1.below.grown hg2 h1.below.size (fun k e=>by cases e;exact h0l)
 have hl0:l<W0.heap.size:=(aB.1 h0.L).1
 have hxb:W2.heap[W0.heap.size]? = some (.cells #[.int .i64 x.1,.int .i64 x.2] 25 (0,0)):=by
  rw[<- hW2,hW];exact(World.putObj_heap_other (by omega)).trans (World.alloc_heap_new W0 _)
 have hx1:W2.cell? ⟨W0.heap.size,0,none⟩=some (.int .i64 x.1):=by simp[World.cell?,hxb]
 have hx2:W2.cell? ⟨W0.heap.size,1,none⟩=some (.int .i64 x.2):=by simp[World.cell?,hxb]
 obtain⟨hc2,hf2⟩:=zdg hv2
 have hBlt:Bs<W2.heap.size:=(aB.1 hv2).1
 have hl2:l<W2.heap.size:=(aB.1 hL2).1
 have hDlt:D<W2.heap.size:=(aB.1 hK2).1
 have ne_of:∀{j:Nat} {o:Go.Obj},W2.heap[j]? = some o->(∀ cur,o ≠ .cells cur 25 (0,0))->some j ≠ v.ownBlock:=fun hj hno=>by
  rcases zbi hrow2 hj hno with e | e
  ·rw[e];simp
  ·exact fun e'=>e e'.symm
 have hdr2:w0.drawn<=W2.drawn:=by rw[<- hW2];exact hdr0
 clear hW2
 unfold yfr
 simp only[fM,y6w,ch]
 rw[hW] at hbr
 gi_wp2_with (rw[cq _ _ _ (fun c h=>by cases h)];go_simp;try go_bits)
 unfold yfq
 simp only[fM,y6w,ch]
 gi_wp2_with (first
  |(
   gi_at_builtin;refine yc5 (hg:=rfl) _ _ _ 39 rfl w0.heap.size 25 i0 (.agg #[.int .i64 0,.int .i64 0]) 2 16 iC hi hz0 hz1 hz2 rfl (by decide) _ _ _ rfl (hrow2.alloc _) ⟨W2.heap.size,0,none⟩ 1 1 (y47 x) rfl rfl (zqo W2 x 25) (by intro u hu;simp at hu;rcases hu with rfl | rfl <;> rfl) (by omega) (by omega) (by have:=hb2.size;simp;omega) ?_;intro v' w3 hown' hg3 hd3
   have hv3:w3.heap[Bs]? = some (.cells #[v] 39 (0,0)):=(hg3.block Bs (by simp;omega) (ne_of hv2 (fun cur e=>by cases e))).trans ((Below.heap_alloc _ _ Bs hBlt).trans hv2)
   obtain⟨hc3,hf3⟩:=zdg hv3
   obtain⟨g',cap',cur',rfl,hbase',hgb',hr1,hr2,hr3,hr4⟩:∃ g' cap' cur',v'=.slice (some ⟨g',0,none⟩) (ss.length+1) cap'/\w0.heap.size<=g'/\w3.heap[g']? = some (.cells cur' 25 (0,0))/\ss.length+1<=cap'/\cap'<=fu/\cur'.size=cap'*2/\cur'.toList.take ((ss.length+1)*2)=ss.flatMap y47++y47 x:=by
    rcases hown'.2 with⟨_,h0⟩ | h'
    ·exact absurd h0 (by omega)
    ·exact h'
   go_frame)
  |(rw[cq _ _ _ (fun c h=>by cases h)];go_simp;try go_bits))
 have hg3':(W2.alloc (.cells #[.int .i64 x.1,.int .i64 x.2] 25)).grownBy w3 v.ownBlock:=hg3
 have hL3:w3.heap[l]? = some (.loop { y5r fn sv Bs D .ready none with state:=.busy }):=(hg3'.block l (by simp;omega) (ne_of hL2 (fun cur e=>by cases e))).trans ((Below.heap_alloc _ _ l hl2).trans hL2)
 have hK3:w3.heap[D]? = some (.deferred (some [])):=(hg3'.block D (by simp;omega) (ne_of hK2 (fun cur e=>by cases e))).trans ((Below.heap_alloc _ _ D hDlt).trans hK2)
 obtain⟨w4,hw4⟩:∃ w4,w3.setCell ⟨Bs,0,none⟩ (.slice (some ⟨g',0,none⟩) (ss.length+1) cap')=w4:=⟨_,rfl⟩
 rw[hw4]
 have hg4:w3.grownBy w4 (some Bs):=by rw[<- hw4];exact yab _ _ _
 have hv4:w4.heap[Bs]? = some (.cells #[.slice (some ⟨g',0,none⟩) (ss.length+1) cap'] 39 (0,0)):=by rw[<- hw4];exact zw8 _ hv3
 have hL4:w4.heap[l]? = some (.loop { y5r fn sv Bs D .ready none with state:=.busy }):=(hg4.block l (aB.1 hL3).1 (fun e=>hBl (by cases e;rfl))).trans hL3
 have hK4:w4.heap[D]? = some (.deferred (some [])):=(hg4.block D (aB.1 hK3).1 (fun e=>hDB (by cases e;rfl))).trans hK3
 have hrow4:=hown'.kept hg4 (zbi hown' hv3 (fun cur e=>by cases e))
 have hl4:l<w4.heap.size:=(aB.1 hL4).1
 have hb3:Below w0.heap.size w0 w3:=(hb2.alloc hb2.size _).grown hg3' (by have:=hb2.size;simp;omega) (fun k e=>(hrow2.lt k e).1)
 have hb4:Below w0.heap.size w0 w4:=hb3.grown hg4 hb3.size (fun k e=>by cases e;exact h0B)
 have hk4:KeepsWalks W0 w4:=(hk0.trans hk2).trans (((KeepsWalks.alloc _ _).trans (KeepsWalks.of_grownBy hg3' (zeb (hrow2.alloc _)))).trans (by rw[<- hw4];exact KeepsWalks.setCell _ _ _))
 have hdr4:w0.drawn<=w4.drawn:=by rw[<- hw4];exact aG hdr2 hd3
 clear hw4
 refine⟨_,_,Go.run_endRound none hL4,rfl,⟨⟨_,(World.putObj_heap_other hBl).trans hv4,?_,by simp⟩,World.putObj_heap_same hl4,(World.putObj_heap_other hDl).trans hK4,hb4.grown (y45 _ _ _) hb4.size (fun k e=>by cases e;exact h0l),hdr4⟩,hk4.trans (KeepsWalks.putObj _ hL4 rfl)⟩
 have:=hrow4.kept (y45 w4 l (.loop { { y5r fn sv Bs D .ready none with state:=.busy } with state:=if(none:Option Code).isNone then .ready else .done,pending:=none })) (zbi hrow4 hL4 (fun cur e=>by cases e))
 simpa using this

set_option maxRecDepth 100000 in
theorem zfb(F:Fence)(n:Nat)(h11:F.fn 145)(hro:F.round=none)(hn:2<=n)(g:Nat)(lb:Array Value)(hFg:F.fn g)(eg:∀ args w,(iq g args).run aW w=.ok (.enter g args) w)
  (S:List (Int × Int)->Prop) (N:Nat) (hN:N<=fu) (hNb:N*16<=140737488355328) (w:World) (hseq:yft F (n - 1) aW g lb S N w) :
  CallsIn F n aW 145 #[.slice none 0 0,.func (.func g) #[] lb] w fun e w'=>∃(v:Value) (ss:List (Int × Int)),e=.returned v/\S ss/\w'.ownsRow w.heap.size 25 2 v ss.length (ss.flatMap y47)/\(v=.slice none 0 0 ↔ ss=[])/\Below w.heap.size w w'/\w.drawn<=w'.drawn:=by
 have h1:1<=n:=by omega
 refine Go.callsIn_of_wp_marks ph rfl h11 ?_ hro
 simp only[nJ,bB,az,be,gI,iH,dO,fD,gy,fL,bh,aR]
 gi_wp2
 refine Go.wpIn_rangeFunc ?_
 intro fn hfn
 rw[hro]
 obtain⟨W0,hW0⟩:∃ W0,w.alloc (.cells #[.slice none 0 0] 39)=W0:=⟨_,rfl⟩
 have hs0:W0.heap.size=w.heap.size+1:=by rw[<- hW0];simp
 have hv0:W0.heap[w.heap.size]? = some (.cells #[.slice none 0 0] 39 (0,0)):=by rw[<- hW0];exact World.alloc_heap_new w _
 have hb0:Below w.heap.size w W0:=by rw[<- hW0];exact(Below.refl _ w).alloc (af _) _
 have hd0:w.drawn=W0.drawn:=by rw[<- hW0];rfl
 rw[hW0]
 obtain⟨W1,hW1⟩:∃ W1,(W0.alloc (.deferred (some []))).alloc (.loop (y5r fn (.func (.func g) #[] lb) w.heap.size W0.heap.size .ready none))=W1:=⟨_,rfl⟩
 have y5g:∀ k,k<W0.heap.size->W1.heap[k]? = W0.heap[k]?:=fun k hk=>by
  rw[<- hW1];exact(Below.heap_alloc _ _ k (by simp;omega)).trans (Below.heap_alloc _ _ k hk)
 have hb1:Below w.heap.size w W1:=by rw[<- hW1];exact(hb0.alloc hb0.size _).alloc (by have:=hb0.size;simp;omega) _
 have hs1:W1.heap.size=W0.heap.size+2:=by rw[<- hW1];simp
 have hM:yc3 w fn (.func (.func g) #[] lb) w.heap.size (W0.heap.size+1) W0.heap.size [] W1:=
  ⟨⟨_,(y5g w.heap.size (by omega)).trans hv0,⟨rfl,.inl ⟨rfl,rfl⟩⟩,by simp⟩,
   by rw[<- hW1];have:=World.alloc_heap_new (W0.alloc (.deferred (some []))) (.loop (y5r fn (.func (.func g) #[] lb) w.heap.size W0.heap.size .ready none));rwa [World.size_alloc] at this,
   by rw[<- hW1];exact(Below.heap_alloc _ _ _ (by simp)).trans (World.alloc_heap_new W0 _),hb1,by rw[<- hW1];exact Nat.le_of_eq hd0⟩
 refine⟨W0.heap.size+1,[{ target:=.collected W0.heap.size,args:=#[] }],W1,{ target:=.fn (.func g) lb,args:=#[.func (.yield (W0.heap.size+1)) #[] #[]] },W1,g,
  #[.func (.yield (W0.heap.size+1)) #[] #[]]++lb,W1,?_,?_,?_,?_,fun _=>h1,?_⟩
 ·rw[<- hW1];exact Go.run_enterLoop_outer _ _ _ _ _
 ·simp[Go.resolve,go_sem]
 ·intro f' hf';simp[Go.Target.leads] at hf';subst hf';exact hFg
 ·simp[Go.invoke,go_sem,eg]
 ·refine(hseq (W0.heap.size+1) (yc3 w fn (.func (.func g) #[] lb) w.heap.size (W0.heap.size+1) W0.heap.size) W1 hb1 (zfc _ _ _ _ _ _ _ hb1.size)
   (fun pre x W hJ hl=>ybk F (n - 1 - 1) w fn hfn _ w.heap.size (W0.heap.size+1) W0.heap.size (by omega) (by omega) (by omega) (af _) (by omega) N hN hNb pre x W hJ hl) hM).mono ?_
  rintro e W2 ⟨⟨v0,rfl⟩,ss,hS,h2⟩
  obtain⟨v,hv,hrow,hnil⟩:=h2.box
  have hend:=Go.run_endLoop (P:=aW) h2.L (by simp[y5r])
  obtain⟨W3,hW3⟩:∃ W3,W2.putObj (W0.heap.size+1) (.loop { y5r fn (.func (.func g) #[] lb) w.heap.size W0.heap.size .ready none with state:=.exhausted })=W3:=⟨_,rfl⟩
  rw[hW3] at hend
  have hg3:W2.grownBy W3 (some (W0.heap.size+1)):=by rw[<- hW3];exact y45 _ _ _
  have hv3:W3.heap[w.heap.size]? = some (.cells #[v] 39 (0,0)):=by rw[<- hW3];exact(World.putObj_heap_other (by omega)).trans hv
  have hK3:W3.heap[W0.heap.size]? = some (.deferred (some [])):=by rw[<- hW3];exact(World.putObj_heap_other (by omega)).trans h2.K
  have hrow3:=hrow.kept hg3 (zbi hrow h2.L (fun cur e=>by cases e))
  have hb3:Below w.heap.size w W3:=h2.below.grown hg3 h2.below.size (fun k e=>by cases e;omega)
  have hd3:w.drawn<=W3.drawn:=by rw[<- hW3];exact h2.dr
  obtain⟨hc3,hf3⟩:=zdg hv3
  clear hW3
  refine⟨none,W3,hend,?_⟩
  gi_wp2
  rw[<- hs0]
  refine⟨by simp,.inl ⟨_,_,rfl,Go.run_takeDeferred hK3,?_⟩⟩
  exact⟨_,Go.results_tmp rfl _ _ _,v,ss,rfl,hS,hrow3.kept (y45 _ _ _) (zbi hrow3 hK3 (fun cur e=>by cases e)),hnil,hb3.grown (y45 _ _ _) hb3.size (fun k e=>by cases e;omega),hd3⟩

theorem zl4(F:Fence)(n:Nat)(h8:F.fn 134)(h11:F.fn 145)(hro:F.round=none)(hn:3<=n)(g:Nat)(lb:Array Value)(hFg:F.fn g)(eg:∀ args w,(iq g args).run aW w=.ok (.enter g args) w)
  (S:List (Int × Int)->Prop) (N:Nat) (hN:N<=fu) (hNb:N*16<=140737488355328) (w:World) (hseq:yft F (n - 1 - 1) aW g lb S N w) :
  CallsIn F n aW 134 #[.func (.func g) #[] lb] w fun e w'=>∃(v:Value) (ss:List (Int × Int)),e=.returned v/\S ss/\w'.ownsRow w.heap.size 25 2 v ss.length (ss.flatMap y47)/\(v=.slice none 0 0 ↔ ss=[])/\Below w.heap.size w w'/\w.drawn<=w'.drawn:=by
 have h1:1<=n:=by omega
 refine i6 pm rfl h8 ?_ hro
 simp only[nK,bB,az,be,gI,iH,dO,fD,gy,fL,bh,aR]
 gi_wp2_with (gi_at_call 145;refine(zfb F (n - 1) h11 hro (by omega) g lb hFg eg S N hN hNb _ hseq).mono ?_;rintro e w' ⟨v,ss,rfl,hS,hrow,hnil,hb,hd⟩)
 go_ret
 exact⟨v,ss,rfl,hS,hrow,hnil,hb,hd⟩
theorem zmd(k:Nat)(C:y5d aW 53 k)(hN:∀(p:Option Go.Addr) (cap:Nat) (fv:Value) (w:World),Go.Calls aW 53 #[.slice p 0 cap,fv] w fun e w'=>e=.returned (.tuple #[])/\w'=w)
  (Bm off b clock:Nat) (es:Array MapEntry) (ks:List (Int × Int)) (hst:y3b es clock) (hks:es.toList.map (fun e=>e.key)=ks.map y70) (hlen:ks.length<=1000000) (w:World) (hG:GL w)
  (hm:w.cell? ⟨Bm,off,none⟩=some (.map (some b))) (hb:w.heap[b]? = some (.map es clock)) :
  CallsIn Fence.wide 6 aW 104 #[.func (.func 135) #[] #[.pointer (some ⟨Bm,off,none⟩)],.func (.func k) #[] #[]] w (y6n w ks):=by
 have hBm:Bm<w.heap.size:=by
  rw[cell?_eq] at hm;exact z3j hm
 have hseq:=zk9 Fence.wide (6 - 1 - 1 - 1) trivial rfl (by omega) Bm off b clock es ks hst hks w hBm hm hb
 refine i6 pn rfl trivial ?_ rfl
 simp only[nL,bB,az,be,gI,iH,dO,fD,gy,fL,bh,aR]
 gi_wp2
 refine⟨trivial,?_⟩
 refine(zl4 Fence.wide (6 - 1) trivial trivial rfl (by omega) 135 _ trivial (Go.Proofs.enters_of gE (by kernel_rfl) rfl) _ ks.length (by unfold fu;omega) (by omega) _ hseq).mono ?_
 rintro e w1 ⟨v,ss,rfl,hS,hrow,hnil,hb1,hd1⟩
 gi_wp2
 refine⟨trivial,?_⟩
 have hlen2:ss.length=ks.length:=hS.length_eq
 by_cases h0:ss=[]
 ·have hv:=hnil.2 h0
  subst hv
  refine(dP.2 (hN none 0 _ w1)).mono ?_
  rintro e w2 ⟨rfl,rfl⟩
  gi_wp2
  go_ret
  have hk0:ks=[]:=by
   rw[h0] at hlen2
   exact List.eq_nil_of_length_eq_zero hlen2.symm
  exact⟨hb1,hd1,.inl ⟨hk0,rfl⟩⟩
 ·obtain⟨g,cap,rfl⟩:∃ g cap,v=.slice (some ⟨g,0,none⟩) ss.length cap:=by
   rcases hrow.2 with⟨h1,_⟩ | ⟨g',cap',cur,hv,_⟩
   ·exact absurd (hnil.1 h1) h0
   ·exact⟨g',cap',hv⟩
  obtain⟨_,arr,hgc,_,hbase,hlc,_⟩:=row_holds hrow
  refine(dP.2 (ze6 C hrow (by omega) hG hb1)).mono ?_
  rintro e w2 ⟨rfl,hb2,hd2,hcell⟩
  gi_wp2
  go_ret
  refine⟨hb1.trans hb2,aG hd1 hd2,.inr ⟨g,cap,rfl,by omega,hbase,?_⟩⟩
  rw[<- zcs hS]
  exact hcell
theorem keyN(gi kk:Nat)(h:F gi=some kk)(hk:[409].contains kk=true):gi=135:=by
 have h1:=z4l h
 have h2:(fl.all fun p=>![409].contains p.2 || p.1 == 135)=true:=by decide +kernel
 have h3:=ax.1 h2 _ h1
 simp only[hk,jX,gH] at h3
 simpa using h3
theorem keyC(g k:Nat)(h:F g=some k)(hk:[386].contains k=true):g=103:=by
 have h1:=z4l h
 have h2:(fl.all fun p=>![386].contains p.2 || p.1 == 103)=true:=by decide +kernel
 have h3:=ax.1 h2 _ h1
 simp only[hk,jX,gH] at h3
 simpa using h3
theorem yb8:yar P 104 135 103:=fun Bm off b clock es ks w hst hks hlen hG hm hb=>
 dP.1 (zmd 103 (y5d.of y9a rfl gF gt y8d) (fun p cap fv w=>gn y9a p cap fv w) Bm off b clock es ks hst hks hlen w hG hm hb)
theorem l104:y6d P E T F (28,0) 104 388:=zk8 (p:=1) (it:=[409]) (cmp:=[386]) (G:=f388) rfl rfl rfl rfl (fun gi kk g k h1 h2 hi hk=>by
 rw[keyN gi kk h1 hi,keyC g k h2 hk]
 exact yb8)

theorem l48:∀ n,y1v P (CLk T F true) F (y1n E (dC E n) 356) 48:=zl9 (c:=70) (fn:=kw) (code:=kw.body.getD .skip) types yco rfl qM rfl rfl rfl (by kernel_rfl)

theorem tie:Tie P E T F:=zt9 (pt:=(28,0)) types mixed yco (y21 (z6 l10 rfl) (y21 (z6 l16 rfl) (y21 (z6 l18 rfl) (y21 (z6 l23 rfl) (y21 (z6 l24 rfl) (y21 (z6 l27 rfl) (y21 (z6 l29 rfl) (y21 (z6 l30 rfl) (y21 (z6 l33 rfl) (y21 (z6 l34 rfl) (y21 (z6 l35 rfl) (y21 (z6 l36 rfl) (y21 (z6 l37 rfl) (y21 (z6 l39 rfl) (y21 (z6 l40 rfl) (y21 (z6 l43 rfl) (y21 (z6 l44 rfl) (y21 (z6 l46 rfl) (y21 (z6 l47 rfl) (y21 (zks l48) (y21 (z6 l51 rfl) (y21 (z7v l53) (y21 (z6 l54 rfl) (y21 (z6 l55 rfl) (y21 (z6 l56 rfl) (y21 (z6 l57 rfl) (y21 (z6 l58 rfl) (y21 (z6 l59 rfl) (y21 (z6 l63 rfl) (y21 (z6 l64 rfl) (y21 (z6 l65 rfl) (y21 (z6 l66 rfl) (y21 (z6 l67 rfl) (y21 (z6 l68 rfl) (y21 (z6 l69 rfl) (y21 (z6 l70 rfl) (y21 (z6 l71 rfl) (y21 (z6 l72 rfl) (y21 (z6 l73 rfl) (y21 (z6 l74 rfl) (y21 (z6 l75 rfl) (y21 (z6 l80 rfl) (y21 (z6 l83 rfl) (y21 (z6 l84 rfl) (y21 (z6 l85 rfl) (y21 (z6 l86 rfl) (y21 (z7v l87) (y21 (z6 l88 rfl) (y21 (z6 l89 rfl) (y21 (z6 l94 rfl) (y21 (z6 l95 rfl) (y21 (z6 l96 rfl) (y21 (z6 l97 rfl) (y21 (z6 l98 rfl) (y21 (z6 l99 rfl) (y21 (z6 l100 rfl) (y21 (z6 l101 rfl) (y21 (z6 l102 rfl) (y21 (z6 l103 rfl) (y21 (z7v l104) (y21 (z6 l105 rfl) (y21 (z6 l106 rfl) (y21 (z6 l107 rfl) (y21 (z6 l108 rfl) (y21 (z6 l109 rfl) (y21 (z6 l124 rfl) (y21 (z6 l125 rfl) (y21 (z6 l126 rfl) (y21 (z6 l127 rfl) (y21 (z6 l128 rfl) (y21 (z6 l129 rfl) (y21 (z6 l130 rfl) (y21 (z6 l131 rfl) (y21 (z6 l132 rfl) (y21 (z6 l133 rfl) (y21 (z6 l135 rfl) (y21 (z6 l136 rfl) (alln))))))))))))))))))))))))))))))))))))))))))))))))))))))))))))))))))))))))))))))

end Dv.Tryd
