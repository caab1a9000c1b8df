/- Texts that a proof of this claim uses, joined: Dv.LinkTryd. -/
import Derived.Test.YtfagnjchgplecaaDoorDvd
import Derived.Test.YtfagnjchgplecaaDoorCode
import Derived.WalkKit
import Derived.RecoverIn
import Derived.Lib.Walk
import Derived.Lib.SliceRun
import Derived.Lib.AppendZerosOnto
import Derived.Test.YtfagnjchgplecaaDoorSh
import Derived.Test.YtfagnjchgplecaaDoorWa
import Derived.Test.YtfagnjchgplecaaDoorChecked
import Derived.KernelRfl
set_option linter.all false
open Go renaming Value->mQ,run_makeInterface->fI
open Go.Builtin renaming zeroCells->bT
open Go.Proofs.AnyF renaming slices_SortFunc_none->j5
open Go.Proofs.SlLaysF0 renaming n6->jo
open Go.Proofs.Tryd renaming f48->jZ,func103->iZ,func110->nI,func111->nJ,func112->nK,func113->nL,func114->ol,func115->om,func116->oq,func117->ot,func118->ou,func119->ov,func120->ow,func121->oz,func122->oC,func123->oG,func124->i6,func125->nM,func126->nN,func127->nO,func128->nP,func129->nQ,func130->nR,func131->nS,func132->nT,func133->nU,func137->nV,func138->nW,func139->nX,func14->pz,func140->oH,func141->oJ,func142->oK,func143->oP,func144->oQ,func146->nY,func147->nZ,func148->n5,func149->n7,func15->pA,func150->oT,func151->n8,func152->n9,func153->oa,func154->oc,func155->od,func156->og,func157->oh,func16->pB,func17->pD,func18->pE,func19->pF,func20->pG,func23->pH,func24->pI,func25->pJ,func26->pK,func27->pL,func29->pM,func3->qI,func30->pN,func31->pO,func45->pP,func46->pQ,func47->pR,func48->qn,func49->pS,func50->pT,func51->pU,func52->pV,func53->qf,func54->jk,func55->pW,func56->pX,func57->pY,func58->pZ,func59->p5,func76->p6,func77->p7,func78->p8,func79->p9,func80->qa,func81->qg,func82->qh,func83->jl,func84->jm,func85->qb,func86->qc,func87->jn,func88->qd,func89->qe,isAgg0->qi,isAgg139->ng,isAgg142->nk,isAgg147->nl,isAgg180->nh,isAgg181->ni,isAgg185->nj,isAgg202->nn,isAgg205->np,isAgg212->nq,isAgg213->nr,isAgg25->ja,isAgg3->qj,isAgg39->o5,isAgg4->qk,isAgg5->ql,isAgg9->qm,isAgg99->o6,ntmps87->i9,prog->ec,sizeOf0->oU,sizeOf139->mS,sizeOf142->mW,sizeOf147->mX,sizeOf180->mT,sizeOf181->mU,sizeOf185->mV,sizeOf202->mY,sizeOf205->mZ,sizeOf212->m7,sizeOf213->m8,sizeOf25->iO,sizeOf3->oV,sizeOf39->nc,sizeOf4->oW,sizeOf5->oY,sizeOf9->oZ,sizeOf99->nf,underlying0->l6,underlying139->lh,underlying142->lq,underlying147->lr,underlying180->lj,underlying181->lm,underlying185->lp,underlying202->lu,underlying205->lv,underlying212->lw,underlying213->ly,underlying3->l7,underlying39->lE,underlying4->l8,underlying5->l9,underlying9->ma,underlying99->lF,zeroValue0->mn,zeroValue139->lG,zeroValue142->lK,zeroValue147->lL,zeroValue180->lH,zeroValue181->lI,zeroValue185->lJ,zeroValue202->lM,zeroValue205->lN,zeroValue212->lO,zeroValue213->lP,zeroValue3->mo,zeroValue39->mb,zeroValue4->mq,zeroValue5->mr,zeroValue9->mw,zeroValue99->mc
open Option.some renaming injEq->aa
set_option maxHeartbeats 16000000
namespace Dv.Tryd
open Go (Program)

open Go.RowKit
open Go (Value World Act Oper Operand Code Ending Exit MapEntry Fence CallsIn KeepsWalks)
noncomputable abbrev P:Program:=ec

def tl:List (Nat × Nat):=[(3,2),(4,7),(5,13),(9,53),(22,70),(23,66),(25,65),(28,3),(35,69),(39,67),(43,68),(46,73),(48,71),(50,72),(51,6),(57,30),(61,54),(68,56),(70,55),(73,10),(74,9),(75,14),(77,0),(78,36),(107,60),(110,18),(112,17),(113,16),(115,15),(117,37),(124,75),(139,12),(142,78),(143,76),(144,77),(147,63),(148,74),(151,59),(153,58),(154,62),(162,20),(164,21),(168,19),(180,79),(189,80),(193,81),(196,57),(202,82),(207,64)]

def fl:List (Nat × Nat):=[(3,313),(14,314),(15,315),(16,316),(17,317),(18,318),(19,319),(20,320),(23,324),(24,325),(25,327),(26,329),(27,331),(29,334),(30,335),(31,337),(45,353),(46,354),(47,355),(48,356),(49,357),(50,358),(51,359),(52,360),(53,361),(54,362),(55,363),(56,364),(57,365),(58,366),(59,264),(76,376),(77,377),(78,378),(79,379),(80,380),(83,105),(84,74),(85,404),(86,383),(87,384),(88,281),(89,282),(103,386),(110,390),(111,391),(112,392),(113,393),(124,107),(125,405),(126,406),(127,407),(128,297),(129,298),(130,312),(131,311),(132,299),(133,300),(137,410),(138,411),(139,270),(146,418),(147,419),(148,286),(149,287),(151,421),(152,422),(153,423),(154,301),(155,302),(156,304),(157,303)]

def T:Phi:=y7c tl
def F:Phi:=y7c fl

theorem types:y30 P E T:=zsn (by kernel_rfl)
theorem mixed:P.follows .mixedOrders=true:=by kernel_rfl
theorem ybc:y2z P F:=zh5 (by kernel_rfl)

theorem pt1:P.concrete (28,0).1=true:=by kernel_rfl
theorem pt2:P.concrete (28,0).2=true:=by kernel_rfl
theorem l3:FnL P T F 3 f313:=zf qI (by kernel_rfl) (by kernel_rfl)
theorem l14:FnL P T F 14 f314:=zf pz (by kernel_rfl) (by kernel_rfl)
theorem l15:FnL P T F 15 f315:=zf pA (by kernel_rfl) (by kernel_rfl)
theorem l16:FnL P T F 16 f316:=zf pB (by kernel_rfl) (by kernel_rfl)
theorem l17:FnL P T F 17 f317:=zf pD (by kernel_rfl) (by kernel_rfl)
theorem l18:FnL P T F 18 f318:=zf pE (by kernel_rfl) (by kernel_rfl)
theorem l19:FnL P T F 19 f319:=zf pF (by kernel_rfl) (by kernel_rfl)
theorem l20:FnL P T F 20 f320:=zf pG (by kernel_rfl) (by kernel_rfl)
theorem l23:FnL P T F 23 f324:=zf pH (by kernel_rfl) (by kernel_rfl)
theorem l24:FnL P T F 24 f325:=zf pI (by kernel_rfl) (by kernel_rfl)
theorem l25:FnL P T F 25 f327:=zf pJ (by kernel_rfl) (by kernel_rfl)
theorem l26:FnL P T F 26 f329:=zf pK (by kernel_rfl) (by kernel_rfl)
theorem l27:FnL P T F 27 f331:=zf pL (by kernel_rfl) (by kernel_rfl)
theorem l29:FnL P T F 29 f334:=zf pM (by kernel_rfl) (by kernel_rfl)
theorem l30:FnL P T F 30 f335:=zf pN (by kernel_rfl) (by kernel_rfl)
theorem l31:FnL P T F 31 f337:=zf pO (by kernel_rfl) (by kernel_rfl)
theorem l45:FnL P T F 45 f353:=zf pP (by kernel_rfl) (by kernel_rfl)
theorem l46:FnL P T F 46 f354:=zf pQ (by kernel_rfl) (by kernel_rfl)
theorem l47:FnL P T F 47 f355:=zf pR (by kernel_rfl) (by kernel_rfl)
theorem l49:FnL P T F 49 f357:=zf pS (by kernel_rfl) (by kernel_rfl)
theorem l50:FnL P T F 50 f358:=zf pT (by kernel_rfl) (by kernel_rfl)
theorem l51:FnL P T F 51 f359:=zf pU (by kernel_rfl) (by kernel_rfl)
theorem l52:FnL P T F 52 f360:=zf pV (by kernel_rfl) (by kernel_rfl)
theorem l54:FnL P T F 54 f362:=zf jk (by kernel_rfl) (by kernel_rfl)
theorem l55:FnL P T F 55 f363:=zf pW (by kernel_rfl) (by kernel_rfl)
theorem l56:FnL P T F 56 f364:=zf pX (by kernel_rfl) (by kernel_rfl)
theorem l57:FnL P T F 57 f365:=zf pY (by kernel_rfl) (by kernel_rfl)
theorem l58:FnL P T F 58 f366:=zf pZ (by kernel_rfl) (by kernel_rfl)
theorem l59:FnL P T F 59 f264:=zf p5 (by kernel_rfl) (by kernel_rfl)
theorem l76:FnL P T F 76 f376:=zf p6 (by kernel_rfl) (by kernel_rfl)
theorem l77:FnL P T F 77 f377:=zf p7 (by kernel_rfl) (by kernel_rfl)
theorem l78:FnL P T F 78 f378:=zf p8 (by kernel_rfl) (by kernel_rfl)
theorem l79:FnL P T F 79 f379:=zf p9 (by kernel_rfl) (by kernel_rfl)
theorem l80:FnL P T F 80 f380:=zf qa (by kernel_rfl) (by kernel_rfl)
theorem l83:FnL P T F 83 f105:=zf jl (by kernel_rfl) (by kernel_rfl)
theorem l84:FnL P T F 84 f74:=zf jm (by kernel_rfl) (by kernel_rfl)
theorem l85:FnL P T F 85 f404:=zf qb (by kernel_rfl) (by kernel_rfl)
theorem l86:FnL P T F 86 f383:=zf qc (by kernel_rfl) (by kernel_rfl)
theorem l88:FnL P T F 88 f281:=zf qd (by kernel_rfl) (by kernel_rfl)
theorem l89:FnL P T F 89 f282:=zf qe (by kernel_rfl) (by kernel_rfl)
theorem l103:FnL P T F 103 f386:=zf iZ (by kernel_rfl) (by kernel_rfl)
theorem l110:FnL P T F 110 f390:=zf nI (by kernel_rfl) (by kernel_rfl)
theorem l111:FnL P T F 111 f391:=zf nJ (by kernel_rfl) (by kernel_rfl)
theorem l112:FnL P T F 112 f392:=zf nK (by kernel_rfl) (by kernel_rfl)
theorem l113:FnL P T F 113 f393:=zf nL (by kernel_rfl) (by kernel_rfl)
theorem l124:FnL P T F 124 f107:=zf i6 (by kernel_rfl) (by kernel_rfl)
theorem l125:FnL P T F 125 f405:=zf nM (by kernel_rfl) (by kernel_rfl)
theorem l126:FnL P T F 126 f406:=zf nN (by kernel_rfl) (by kernel_rfl)
theorem l127:FnL P T F 127 f407:=zf nO (by kernel_rfl) (by kernel_rfl)
theorem l128:FnL P T F 128 f297:=zf nP (by kernel_rfl) (by kernel_rfl)
theorem l129:FnL P T F 129 f298:=zf nQ (by kernel_rfl) (by kernel_rfl)
theorem l130:FnL P T F 130 f312:=zf nR (by kernel_rfl) (by kernel_rfl)
theorem l131:FnL P T F 131 f311:=zf nS (by kernel_rfl) (by kernel_rfl)
theorem l132:FnL P T F 132 f299:=zf nT (by kernel_rfl) (by kernel_rfl)
theorem l133:FnL P T F 133 f300:=zf nU (by kernel_rfl) (by kernel_rfl)
theorem l137:FnL P T F 137 f410:=zf nV (by kernel_rfl) (by kernel_rfl)
theorem l138:FnL P T F 138 f411:=zf nW (by kernel_rfl) (by kernel_rfl)
theorem l139:FnL P T F 139 f270:=zf nX (by kernel_rfl) (by kernel_rfl)
theorem l146:FnL P T F 146 f418:=zf nY (by kernel_rfl) (by kernel_rfl)
theorem l147:FnL P T F 147 f419:=zf nZ (by kernel_rfl) (by kernel_rfl)
theorem l148:FnL P T F 148 f286:=zf n5 (by kernel_rfl) (by kernel_rfl)
theorem l149:FnL P T F 149 f287:=zf n7 (by kernel_rfl) (by kernel_rfl)
theorem l151:FnL P T F 151 f421:=zf n8 (by kernel_rfl) (by kernel_rfl)
theorem l152:FnL P T F 152 f422:=zf n9 (by kernel_rfl) (by kernel_rfl)
theorem l153:FnL P T F 153 f423:=zf oa (by kernel_rfl) (by kernel_rfl)
theorem l154:FnL P T F 154 f301:=zf oc (by kernel_rfl) (by kernel_rfl)
theorem l155:FnL P T F 155 f302:=zf od (by kernel_rfl) (by kernel_rfl)
theorem l156:FnL P T F 156 f304:=zf og (by kernel_rfl) (by kernel_rfl)
theorem l157:FnL P T F 157 f303:=zf oh (by kernel_rfl) (by kernel_rfl)

theorem hmk(b:Bool)(v:mQ)(w:Go.World):(Go.Instr.makeInterface (if b=true then((28,0):Nat × Nat).2 else((28,0):Nat × Nat).1) v).run P w=.ok (.iface (if b=true then((28,0):Nat × Nat).2 else((28,0):Nat × Nat).1) v) w:=by
 cases b
 ·exact fI w _ v pt1
 ·exact fI w _ v pt2


section
open Go Go.Proofs Go.RowKit
set_option maxRecDepth 100000 in
theorem zma(base:Option Addr)(w:World):Calls ec 87 #[.slice base 0 0,.int .i64 0] w fun e w'=>e=.returned (.slice base 0 0)/\w'=w:=by
 go_enter jn,i9
 go_wp2
 go_ret
 exact⟨rfl,rfl⟩

set_option maxRecDepth 100000 in
theorem zmb(i0:TypeInfo)(z:Value)(hi0:ec.info? 5=some i0)(hz0:i0.zero=some z)(hs0:0<i0.size)(base:Option Addr)(n:Nat)(w:World)(hroom:0<n)(hbig:n*i0.bytes<=140737488355328)(h63:n<=4611686018427387904) :
  Calls ec 87 #[.slice base 0 0,.int .i64 n] w fun e w'=>e=.returned (.slice (some ⟨w.heap.size,0,none⟩) 0 (grownCap w n 0 5)) /\
   w'=w.drew.alloc (.cells (Builtin.zeroCells z.cells n++Builtin.zeroCells z.cells (grownCap w n 0 5 - n)) 5):=by
 have h1 : ¬ ((n:Int)<0):=by omega
 have h4:(n:Int) > 0:=by omega
 have hw0:wrap64 (n:Int)=(n:Int):=by unfold wrap64;omega
 have hrz:∀ ty,(Builtin.append_ #[57,3] ty #[.slice base 0 0,.int .i64 (n:Int)]).run ec w =
   .ok (.slice (some ⟨w.heap.size,0,none⟩) n (grownCap w n 0 5)) (w.drew.alloc (.cells (Builtin.zeroCells z.cells n++Builtin.zeroCells z.cells (grownCap w n 0 5 - n)) 5)):=fun ty=>by
  have y5n:(Builtin.firstCells i0.size 0 (.slice base 0 0)).run ec w.drew=.ok ([]:List Value).toArray w.drew:=by
   cases base with
   |none=>exact run_firstCells_none w.drew i0.size 0 0 0
   |some a=>exact run_firstCells_some w.drew i0.size 0 a 0 0 [] (by simp) (fun j v hj=>by simp at hj)
  have h:=Lib.run_append_grow_zeros w 57 3 ty 5 i0 z .i64 .i64 (by kernel_rfl) (by kernel_rfl) hi0 hz0 base 0 0 [] y5n n (by omega) hs0 (by omega) (by omega)
   (by omega) (by rw[Nat.zero_add];exact growslice_fits hroom hbig)
  simpa using h
 go_enter jn,i9
 go_wp2_with (at_builtin;refine Lib.wpList_append_run _ rfl _ _ _ _ rfl _ _ rfl rfl _ _ (hrz _) ?_)
 all_goals (go_ret;exact⟨rfl,rfl⟩)
end

theorem zai(z:Array mQ)(n:Nat):(bT z n).size=n*z.size:=by simp[bT]

theorem z6i:∀{l:List mQ} {ds:List D},y20 l=some ds->l.length=ds.length
 |[],ds,h=>by simp[y20] at h;subst h;rfl
 |v::l,ds,h=>by
  simp only[y20] at h
  split at h
  ·rename_i d r h1 h2
   simp only[aa] at h;subst h
   simp[z6i h2]
  ·simp at h

theorem yb9:y9v P 87 (E.ty 13).bytes (E.ty 13).size:=by
 obtain⟨i0,hi0,hsz,hby,hz⟩:=(types 5 13 rfl).info
 obtain⟨z,hz0,hzl,_⟩:=hz (by decide) (by decide)
 have hzs:z.cells.size=(E.ty 13).size:=by
  have:=z6i hzl
  rw[Array.length_toList] at this
  rw[this];decide
 have hpos:0<i0.size:=by rw[hsz];decide
 rw[<- hsz,<- hby]
 constructor
 ·intro base w
  exact zma base w
 ·intro base n w hn hb hn2
  have:=zmb i0 z hi0 hz0 hpos base n w hn hb hn2
  have hG:=Go.grownCap_ge w n 0 5
  generalize Go.grownCap w n 0 5=G at this hG
  refine this.mono ?_
  rintro e w' ⟨rfl,rfl⟩
  refine⟨G,5,_,?_,rfl,rfl,⟨rfl,rfl,rfl,Nat.le_succ _⟩⟩
  simp only[Array.size_append,zai,hzs,hsz]
  rw[<- Nat.add_mul,show n+(G - n)=G from by omega]

theorem l87:y6h P E T F (28,0) 87 384:=zjd (c:=30) (i:=2) (e:=13) (G:=f384) rfl rfl rfl rfl yb9


def y9y:Go.Shelf.Ren:={ f:=fun | 6=>53 | 15=>82 | 14=>81 | 28=>122 | 29=>123 | 20=>114 | 21=>115 | 22=>116 | 23=>117 | 24=>118 | 25=>119 | 26=>120 | 27=>121 | 46=>140 | 47=>141 | 48=>142 | 49=>143 | 50=>144 | 57=>150 | n=>n,t:=fun | 22=>39 | 24=>25 | 25=>99 | 3=>3 | 39=>139 | 0=>0 | 53=>142 | 55=>147 | 4=>4 | 46=>181 | 45=>180 | 50=>185 | 5=>5 | 9=>9 | 66=>202 | 70=>205 | 76=>212 | 77=>213 | n=>n,g:=fun n=>n }
set_option maxRecDepth 100000 in
theorem y9z:jo P y9y where
 mixed:=mixed
 f6:=⟨ "slices.SortFunc[[]overflight/api.Account,overflight/api.Account]",by decide,qf.trans (congrArg some (by kernel_rfl))⟩
 f14:=⟨ "slices.pdqsortCmpFunc[overflight/api.Account]",by decide,qg.trans (congrArg some (by kernel_rfl))⟩
 f15:=qh.trans (congrArg some (by kernel_rfl))
 f20:=⟨ "slices.insertionSortCmpFunc[overflight/api.Account]",by decide,ol.trans (congrArg some (by kernel_rfl))⟩
 f21:=⟨ "slices.heapSortCmpFunc[overflight/api.Account]",by decide,om.trans (congrArg some (by kernel_rfl))⟩
 f22:=⟨ "slices.breakPatternsCmpFunc[overflight/api.Account]",by decide,oq.trans (congrArg some (by kernel_rfl))⟩
 f23:=⟨ "slices.choosePivotCmpFunc[overflight/api.Account]",by decide,ot.trans (congrArg some (by kernel_rfl))⟩
 f24:=⟨ "slices.reverseRangeCmpFunc[overflight/api.Account]",by decide,ou.trans (congrArg some (by kernel_rfl))⟩
 f25:=⟨ "slices.partialInsertionSortCmpFunc[overflight/api.Account]",by decide,ov.trans (congrArg some (by kernel_rfl))⟩
 f26:=⟨ "slices.partitionEqualCmpFunc[overflight/api.Account]",by decide,ow.trans (congrArg some (by kernel_rfl))⟩
 f27:=⟨ "slices.partitionCmpFunc[overflight/api.Account]",by decide,oz.trans (congrArg some (by kernel_rfl))⟩
 f28:=oC.trans (congrArg some (by kernel_rfl))
 f29:=oG.trans (congrArg some (by kernel_rfl))
 f46:=⟨ "slices.siftDownCmpFunc[overflight/api.Account]",by decide,oH.trans (congrArg some (by kernel_rfl))⟩
 f47:=oJ.trans (congrArg some (by kernel_rfl))
 f48:=oK.trans (congrArg some (by kernel_rfl))
 f49:=⟨ "slices.medianAdjacentCmpFunc[overflight/api.Account]",by decide,oP.trans (congrArg some (by kernel_rfl))⟩
 f50:=⟨ "slices.medianCmpFunc[overflight/api.Account]",by decide,oQ.trans (congrArg some (by kernel_rfl))⟩
 f57:=⟨ "slices.order2CmpFunc[overflight/api.Account]",by decide,oT.trans (congrArg some (by kernel_rfl))⟩
 t0:=l6
 a0:=qi
 z0:=oU
 v0:=mn
 t3:=l7
 a3:=qj
 z3:=oV
 v3:=mo
 t4:=l8
 a4:=qk
 z4:=oW
 v4:=mq
 t5:=l9
 a5:=ql
 z5:=oY
 v5:=mr
 t9:=ma
 a9:=qm
 z9:=oZ
 v9:=mw
 t22:=lE
 a22:=o5
 z22:=nc
 v22:=mb
 t25:=lF
 a25:=o6
 z25:=nf
 v25:=mc
 t39:=lh
 a39:=ng
 z39:=mS
 v39:=lG
 t45:=lj
 a45:=nh
 z45:=mT
 v45:=lH
 t46:=lm
 a46:=ni
 z46:=mU
 v46:=lI
 t50:=lp
 a50:=nj
 z50:=mV
 v50:=lJ
 t53:=lq
 a53:=nk
 z53:=mW
 v53:=lK
 t55:=lr
 a55:=nl
 z55:=mX
 v55:=lL
 t66:=lu
 a66:=nn
 z66:=mY
 v66:=lM
 t70:=lv
 a70:=np
 z70:=mZ
 v70:=lN
 t76:=lw
 a76:=nq
 z76:=m7
 v76:=lO
 t77:=ly
 a77:=nr
 z77:=m8
 v77:=lP
def flA:List (Nat × Nat):=[(54,362),(83,105),(84,74),(103,386),(124,107)]
def FA:Phi:=y7c flA
theorem ybb:y2z P FA:=zh5 (by kernel_rfl)
theorem a54:FnL P T FA 54 f362:=zf jk (by kernel_rfl) (by kernel_rfl)
theorem a83:FnL P T FA 83 f105:=zf jl (by kernel_rfl) (by kernel_rfl)
theorem a84:FnL P T FA 84 f74:=zf jm (by kernel_rfl) (by kernel_rfl)
theorem a103:FnL P T FA 103 f386:=zf iZ (by kernel_rfl) (by kernel_rfl)
theorem a124:FnL P T FA 124 f107:=zf i6 (by kernel_rfl) (by kernel_rfl)
theorem tieA:Tie P E T FA:=zr3 (pt:=(28,0)) types mixed ybb (y21 (z8 a54 rfl) (y21 (z8 a83 rfl) (y21 (z8 a84 rfl) (y21 (z8 a103 rfl) (y21 (z8 a124 rfl) (alln))))))
theorem zwl(a b c d:Int):orI [y6k a c,y6k b d]=cfP (a,b) (c,d):=by
 unfold cfP y6k
 simp only[orI]
 repeat' split
 all_goals first | rfl | omega
theorem yag:y7g P 54:=y7g.of_sim tieA (g:=54) (g':=362) rfl fun a b c d=>by
 rw[<- zwl]
 exact z74 (ydn a b c d)
theorem y9g:y7g P 103:=y7g.of_sim tieA (g:=103) (g':=386) rfl fun a b c d=>by
 rw[<- zwl]
 exact z74 (ydm a b c d)
theorem cmpN(g k:Nat)(h:F g=some k)(hk:[362,386].contains k=true):g=54\/g=103:=by
 have h1:=z6m h
 have h2:(fl.all fun p=>![362,386].contains p.2 || p.1 == 54 || p.1 == 103)=true:=by decide +kernel
 have h3:=List.all_eq_true.1 h2 _ h1
 simp only[hk,Bool.not_true,Bool.false_or] at h3
 simpa using h3
theorem l53:y6h P E T F (28,0) 53 361:=zi0 (p:=0) (cmp:=[362,386]) (G:=f361) rfl rfl rfl rfl
 (fun g k h hk=>by
  rcases cmpN g k h hk with rfl | rfl
  ·exact y66.of y9z rfl ja iO yag
  ·exact y66.of y9z rfl ja iO y9g)
 (fun p cap fv w=>j5 y9z p cap fv w)

theorem l48:∀ n,y1o P (CLk T F true) F (y1i E (dC E n) 356) 48:=zju (c:=70) (fn:=jZ) (code:=jZ.body.getD .skip) types ybc rfl qn rfl rfl rfl (by kernel_rfl)

theorem tie:Tie P E T F:=zr3 (pt:=(28,0)) types mixed ybc (y21 (z8 l3 rfl) (y21 (z8 l14 rfl) (y21 (z8 l15 rfl) (y21 (z8 l16 rfl) (y21 (z8 l17 rfl) (y21 (z8 l18 rfl) (y21 (z8 l19 rfl) (y21 (z8 l20 rfl) (y21 (z8 l23 rfl) (y21 (z8 l24 rfl) (y21 (z8 l25 rfl) (y21 (z8 l26 rfl) (y21 (z8 l27 rfl) (y21 (z8 l29 rfl) (y21 (z8 l30 rfl) (y21 (z8 l31 rfl) (y21 (z8 l45 rfl) (y21 (z8 l46 rfl) (y21 (z8 l47 rfl) (y21 (zje l48) (y21 (z8 l49 rfl) (y21 (z8 l50 rfl) (y21 (z8 l51 rfl) (y21 (z8 l52 rfl) (y21 (zbd l53) (y21 (z8 l54 rfl) (y21 (z8 l55 rfl) (y21 (z8 l56 rfl) (y21 (z8 l57 rfl) (y21 (z8 l58 rfl) (y21 (z8 l59 rfl) (y21 (z8 l76 rfl) (y21 (z8 l77 rfl) (y21 (z8 l78 rfl) (y21 (z8 l79 rfl) (y21 (z8 l80 rfl) (y21 (z8 l83 rfl) (y21 (z8 l84 rfl) (y21 (z8 l85 rfl) (y21 (z8 l86 rfl) (y21 (zbd l87) (y21 (z8 l88 rfl) (y21 (z8 l89 rfl) (y21 (z8 l103 rfl) (y21 (z8 l110 rfl) (y21 (z8 l111 rfl) (y21 (z8 l112 rfl) (y21 (z8 l113 rfl) (y21 (z8 l124 rfl) (y21 (z8 l125 rfl) (y21 (z8 l126 rfl) (y21 (z8 l127 rfl) (y21 (z8 l128 rfl) (y21 (z8 l129 rfl) (y21 (z8 l130 rfl) (y21 (z8 l131 rfl) (y21 (z8 l132 rfl) (y21 (z8 l133 rfl) (y21 (z8 l137 rfl) (y21 (z8 l138 rfl) (y21 (z8 l139 rfl) (y21 (z8 l146 rfl) (y21 (z8 l147 rfl) (y21 (z8 l148 rfl) (y21 (z8 l149 rfl) (y21 (z8 l151 rfl) (y21 (z8 l152 rfl) (y21 (z8 l153 rfl) (y21 (z8 l154 rfl) (y21 (z8 l155 rfl) (y21 (z8 l156 rfl) (y21 (z8 l157 rfl) (alln)))))))))))))))))))))))))))))))))))))))))))))))))))))))))))))))))))))))))

end Dv.Tryd
