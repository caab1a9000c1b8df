/- Texts that a proof of this claim uses, joined: Dv.LinkTryz. -/
import Derived.Test.YthcmaiplkbbioaaGreatDoorDvd
import Derived.Test.YthcmaiplkbbioaaGreatDoorCode
import Derived.WalkKit
import Derived.Lib.Walk
import Derived.Lib.SliceRun
import Derived.Lib.AppendZerosOnto
import Derived.Test.YthcmaiplkbbioaaGreatDoorSh
import Derived.Test.YthcmaiplkbbioaaGreatDoorWa
import Derived.Test.YthcmaiplkbbioaaGreatDoorChecked
import Derived.KernelRfl
set_option linter.all false
open Array renaming getElem?_eq_some_iff->aI,length_toList->cW,replicate_succ->eO,replicate_zero->gj
open Bool renaming false_or->ic,not_true->kS
open Go renaming YieldAt->mY,callFunc->iZ,callsIn_of_wp->jD,callsIn_wide->eP,grownBy_keeps->jE,maxLen->fR,undef->bu
open Go.Builtin renaming zeroCells->cm
open Go.Oper renaming semAt_eq->cO
open Go.Proofs.AnyF renaming slices_SortFunc_none->gT
open Go.Proofs.SlLaysF0 renaming n6->kD
open Go.Proofs.Tryz renaming f59->lK,f79->lJ,f89->lI,f90->gN,func10->rG,func100->p6,func101->p7,func102->p8,func103->p9,func104->qa,func105->qc,func106->qd,func107->qe,func108->qf,func109->qg,func11->rH,func110->qh,func111->qI,func112->qJ,func113->qK,func114->qL,func115->qN,func116->qO,func117->qP,func118->qQ,func119->qR,func12->rI,func120->qT,func121->qi,func122->qj,func123->jX,func124->qk,func125->qm,func126->qo,func127->qp,func128->qq,func129->qr,func130->qs,func131->qu,func132->qv,func133->qU,func134->qV,func135->qW,func136->qY,func137->qZ,func138->qw,func139->qx,func14->rJ,func140->qy,func141->qz,func142->qA,func143->qB,func144->qC,func145->qD,func146->qF,func147->qG,func148->q7,func149->qH,func16->rK,func17->rL,func18->rM,func19->rN,func20->rO,func21->rP,func22->rQ,func23->rR,func24->rS,func25->rT,func26->rU,func27->rV,func28->rW,func29->rX,func3->ua,func30->rY,func31->rZ,func32->r9,func35->sa,func36->sb,func37->sc,func38->sd,func39->se,func40->sf,func41->sg,func42->si,func43->sj,func44->sm,func45->sn,func46->sq,func47->sw,func48->kw,func49->sx,func5->ub,func50->sy,func51->sC,func52->sD,func53->kx,func54->ky,func55->tC,func56->sE,func57->sF,func58->sG,func59->tF,func6->uc,func60->sH,func61->sI,func62->sJ,func63->sK,func64->sL,func65->sN,func66->sO,func67->sP,func68->sQ,func69->kz,func7->ud,func70->tB,func71->tp,func72->iz,func73->sR,func74->sS,func75->sT,func76->kC,func77->sU,func78->sV,func79->tE,func8->ue,func80->sW,func81->sX,func82->sY,func83->sZ,func84->s7,func85->s8,func86->s9,func87->ta,func88->td,func89->tD,func9->uf,func90->tA,func91->tq,func92->tt,func93->te,func94->tf,func95->th,func96->ti,func97->tj,func98->tm,func99->tn,isAgg0->tu,isAgg120->pD,isAgg121->pB,isAgg174->pE,isAgg202->pF,isAgg203->pG,isAgg207->pH,isAgg210->pI,isAgg212->pJ,isAgg231->pK,isAgg235->pL,isAgg252->pN,isAgg253->pO,isAgg3->tv,isAgg4->tw,isAgg49->ia,isAgg5->tx,isAgg9->tz,ntmps123->jG,ntmps55->ro,ntmps70->rk,ntmps72->rf,ntmps90->ri,prog->bg,sizeOf0->q8,sizeOf120->o9,sizeOf121->o8,sizeOf174->pb,sizeOf202->pc,sizeOf203->pd,sizeOf207->pe,sizeOf210->pf,sizeOf212->pg,sizeOf231->ph,sizeOf235->pj,sizeOf252->pm,sizeOf253->pn,sizeOf3->q9,sizeOf4->ra,sizeOf49->gW,sizeOf5->rc,sizeOf9->re,underlying0->oc,underlying120->np,underlying121->iY,underlying174->nq,underlying202->nr,underlying203->nu,underlying207->nw,underlying210->nz,underlying212->nA,underlying231->nB,underlying235->nC,underlying252->nD,underlying253->nE,underlying3->od,underlying4->og,underlying5->oh,underlying81->nU,underlying9->ol,zeroValue0->oB,zeroValue120->nJ,zeroValue121->nI,zeroValue174->nK,zeroValue202->nL,zeroValue203->nM,zeroValue207->nN,zeroValue210->nO,zeroValue212->nP,zeroValue231->nQ,zeroValue235->nR,zeroValue252->nS,zeroValue253->nT,zeroValue3->oC,zeroValue4->oD,zeroValue5->oG,zeroValue9->oH
open List renaming all_eq_true->ay,append_toArray->gz,cons_append->aG,length_cons->ar,length_nil->aY,nil_append->bn,push_toArray->g6,size_toArray->bQ
open Nat renaming le_refl->aj,le_trans->aM,reduceAdd->ie,reduceSub->jl
open Option renaming getD_some->aX
open Option.some renaming injEq->aa
set_option maxHeartbeats 16000000
namespace Dv.Tryz
open Go (Program)
open Go.RowKit
open Go (Value World Act Oper Operand Code Ending Exit MapEntry Fence CallsIn KeepsWalks)
noncomputable abbrev P:Program:=bg
def tl:List (Nat × Nat):=[(3,2),(4,7),(5,13),(9,53),(22,10),(23,9),(24,14),(26,0),(27,38),(28,6),(32,36),(33,3),(36,66),(39,70),(49,65),(51,72),(52,16),(54,15),(58,20),(60,19),(61,18),(63,17),(65,39),(69,37),(72,40),(81,75),(89,73),(91,71),(93,31),(95,29),(112,21),(121,67),(130,4),(132,28),(146,30),(150,1),(153,35),(157,32),(174,12),(177,56),(179,55),(183,33),(190,22),(195,11),(202,79),(210,78),(212,63),(213,76),(214,77),(217,74),(220,59),(222,58),(223,62),(231,82),(238,80),(242,81),(245,57),(248,26),(255,64)]
def fl:List (Nat × Nat):=[(3,424),(5,425),(6,179),(7,2),(8,180),(9,340),(10,345),(11,350),(12,426),(14,184),(16,318),(17,129),(18,61),(19,181),(20,191),(21,192),(22,15),(23,367),(24,368),(25,71),(26,369),(27,370),(28,324),(29,375),(30,316),(31,131),(32,352),(35,359),(36,193),(37,94),(38,199),(39,200),(40,194),(41,198),(42,195),(43,67),(44,69),(45,70),(46,72),(47,73),(48,74),(49,75),(50,76),(51,106),(52,385),(53,386),(54,105),(55,388),(56,387),(57,354),(58,355),(59,356),(60,139),(61,133),(62,150),(63,151),(64,325),(65,380),(66,113),(67,201),(68,202),(69,107),(71,361),(72,409),(73,331),(74,334),(75,335),(76,362),(77,142),(78,140),(79,165),(80,166),(81,167),(82,168),(83,22),(84,87),(85,3),(86,7),(87,169),(88,363),(89,96),(93,364),(94,365),(95,366),(96,264),(97,157),(98,172),(99,159),(100,158),(101,161),(102,160),(103,162),(104,175),(105,83),(106,84),(107,62),(108,14),(109,63),(110,176),(121,404),(122,383),(123,384),(124,281),(125,282),(126,173),(127,174),(128,66),(129,110),(130,68),(131,102),(132,122),(138,405),(139,406),(140,407),(141,297),(142,298),(143,312),(144,311),(145,299),(146,300),(147,104),(149,123)]
def T:Phi:=y97 tl
def F:Phi:=y97 fl
theorem types:y3k P E T:=ydf (by kernel_rfl)
theorem mixed:P.follows .mixedOrders=true:=by kernel_rfl
theorem ybr:y3l P F:=zlt (by kernel_rfl)
theorem l3:FnL P T F 3 f424:=zb ua
theorem l5:FnL P T F 5 f425:=zb ub
theorem l6:FnL P T F 6 f179:=zb uc
theorem l7:FnL P T F 7 f2:=zb ud
theorem l8:FnL P T F 8 f180:=zb ue
theorem l9:FnL P T F 9 f340:=zb uf
theorem l10:FnL P T F 10 f345:=zb rG
theorem l11:FnL P T F 11 f350:=zb rH
theorem l12:FnL P T F 12 f426:=zb rI
theorem l14:FnL P T F 14 f184:=zb rJ
theorem l16:FnL P T F 16 f318:=zb rK
theorem l17:FnL P T F 17 f129:=zb rL
theorem l18:FnL P T F 18 f61:=zb rM
theorem l19:FnL P T F 19 f181:=zb rN
theorem l20:FnL P T F 20 f191:=zb rO
theorem l21:FnL P T F 21 f192:=zb rP
theorem l22:FnL P T F 22 f15:=zb rQ
theorem l23:FnL P T F 23 f367:=zb rR
theorem l24:FnL P T F 24 f368:=zb rS
theorem l25:FnL P T F 25 f71:=zb rT
theorem l26:FnL P T F 26 f369:=zb rU
theorem l27:FnL P T F 27 f370:=zb rV
theorem l28:FnL P T F 28 f324:=zb rW
theorem l29:FnL P T F 29 f375:=zb rX
theorem l30:FnL P T F 30 f316:=zb rY
theorem l31:FnL P T F 31 f131:=zb rZ
theorem l32:FnL P T F 32 f352:=zb r9
theorem l35:FnL P T F 35 f359:=zb sa
theorem l36:FnL P T F 36 f193:=zb sb
theorem l37:FnL P T F 37 f94:=zb sc
theorem l38:FnL P T F 38 f199:=zb sd
theorem l39:FnL P T F 39 f200:=zb se
theorem l40:FnL P T F 40 f194:=zb sf
theorem l41:FnL P T F 41 f198:=zb sg
theorem l42:FnL P T F 42 f195:=zb si
theorem l43:FnL P T F 43 f67:=zb sj
theorem l44:FnL P T F 44 f69:=zb sm
theorem l45:FnL P T F 45 f70:=zb sn
theorem l46:FnL P T F 46 f72:=zb sq
theorem l47:FnL P T F 47 f73:=zb sw
theorem l48:FnL P T F 48 f74:=zb kw
theorem l49:FnL P T F 49 f75:=zb sx
theorem l50:FnL P T F 50 f76:=zb sy
theorem l51:FnL P T F 51 f106:=zb sC
theorem l52:FnL P T F 52 f385:=zb sD
theorem l53:FnL P T F 53 f386:=zb kx
theorem l54:FnL P T F 54 f105:=zb ky
theorem l56:FnL P T F 56 f387:=zb sE
theorem l57:FnL P T F 57 f354:=zb sF
theorem l58:FnL P T F 58 f355:=zb sG
theorem l60:FnL P T F 60 f139:=zb sH
theorem l61:FnL P T F 61 f133:=zb sI
theorem l62:FnL P T F 62 f150:=zb sJ
theorem l63:FnL P T F 63 f151:=zb sK
theorem l64:FnL P T F 64 f325:=zb sL
theorem l65:FnL P T F 65 f380:=zb sN
theorem l66:FnL P T F 66 f113:=zb sO
theorem l67:FnL P T F 67 f201:=zb sP
theorem l68:FnL P T F 68 f202:=zb sQ
theorem l69:FnL P T F 69 f107:=zb kz
theorem l72:FnL P T F 72 f409:=zb iz
theorem l73:FnL P T F 73 f331:=zb sR
theorem l74:FnL P T F 74 f334:=zb sS
theorem l75:FnL P T F 75 f335:=zb sT
theorem l76:FnL P T F 76 f362:=zb kC
theorem l77:FnL P T F 77 f142:=zb sU
theorem l78:FnL P T F 78 f140:=zb sV
theorem l80:FnL P T F 80 f166:=zb sW
theorem l81:FnL P T F 81 f167:=zb sX
theorem l82:FnL P T F 82 f168:=zb sY
theorem l83:FnL P T F 83 f22:=zb sZ
theorem l84:FnL P T F 84 f87:=zb s7
theorem l85:FnL P T F 85 f3:=zb s8
theorem l86:FnL P T F 86 f7:=zb s9
theorem l87:FnL P T F 87 f169:=zb ta
theorem l88:FnL P T F 88 f363:=zb td
theorem l93:FnL P T F 93 f364:=zb te
theorem l94:FnL P T F 94 f365:=zb tf
theorem l95:FnL P T F 95 f366:=zb th
theorem l96:FnL P T F 96 f264:=zb ti
theorem l97:FnL P T F 97 f157:=zb tj
theorem l98:FnL P T F 98 f172:=zb tm
theorem l99:FnL P T F 99 f159:=zb tn
theorem l100:FnL P T F 100 f158:=zb p6
theorem l101:FnL P T F 101 f161:=zb p7
theorem l102:FnL P T F 102 f160:=zb p8
theorem l103:FnL P T F 103 f162:=zb p9
theorem l104:FnL P T F 104 f175:=zb qa
theorem l105:FnL P T F 105 f83:=zb qc
theorem l106:FnL P T F 106 f84:=zb qd
theorem l107:FnL P T F 107 f62:=zb qe
theorem l108:FnL P T F 108 f14:=zb qf
theorem l109:FnL P T F 109 f63:=zb qg
theorem l110:FnL P T F 110 f176:=zb qh
theorem l121:FnL P T F 121 f404:=zb qi
theorem l122:FnL P T F 122 f383:=zb qj
theorem l124:FnL P T F 124 f281:=zb qk
theorem l125:FnL P T F 125 f282:=zb qm
theorem l126:FnL P T F 126 f173:=zb qo
theorem l127:FnL P T F 127 f174:=zb qp
theorem l128:FnL P T F 128 f66:=zb qq
theorem l129:FnL P T F 129 f110:=zb qr
theorem l130:FnL P T F 130 f68:=zb qs
theorem l131:FnL P T F 131 f102:=zb qu
theorem l132:FnL P T F 132 f122:=zb qv
theorem l138:FnL P T F 138 f405:=zb qw
theorem l139:FnL P T F 139 f406:=zb qx
theorem l140:FnL P T F 140 f407:=zb qy
theorem l141:FnL P T F 141 f297:=zb qz
theorem l142:FnL P T F 142 f298:=zb qA
theorem l143:FnL P T F 143 f312:=zb qB
theorem l144:FnL P T F 144 f311:=zb qC
theorem l145:FnL P T F 145 f299:=zb qD
theorem l146:FnL P T F 146 f300:=zb qF
theorem l147:FnL P T F 147 f104:=zb qG
theorem l149:FnL P T F 149 f123:=zb qH
section
open Go Go.Proofs Go.RowKit
set_option maxRecDepth 100000 in
theorem zsi(base:Option Addr)(w:World):Calls bg 123 #[.slice base 0 0,.int .i64 0] w fun e w'=>e=.returned (.slice base 0 0)/\w'=w:=by
 go_enter jX,jG
 go_wp2
 go_ret
 exact⟨rfl,rfl⟩
set_option maxRecDepth 100000 in
theorem zsj(i0:TypeInfo)(z:Value)(hi0:bg.info? 5=some i0)(hz0:i0.zero=some z)(hs0:0<i0.size)(base:Option Addr)(n:Nat)(w:World)(hroom:0<n)(hbig:n*i0.bytes<=140737488355328)(h63:n<=4611686018427387904) :
  Calls bg 123 #[.slice base 0 0,.int .i64 n] w fun e w'=>e=.returned (.slice (some ⟨w.heap.size,0,none⟩) 0 (grownCap w n 0 5)) /\
   w'=w.drew.alloc (.cells (Builtin.zeroCells z.cells n++Builtin.zeroCells z.cells (grownCap w n 0 5 - n)) 5):=by
 have h1 : ¬ ((n:Int)<0):=by omega
 have h4:(n:Int) > 0:=by omega
 have hw0:wrap64 (n:Int)=(n:Int):=by unfold wrap64;omega
 have hrz:∀ ty,(Builtin.append_ #[146,3] ty #[.slice base 0 0,.int .i64 (n:Int)]).run bg w =
   .ok (.slice (some ⟨w.heap.size,0,none⟩) n (grownCap w n 0 5)) (w.drew.alloc (.cells (Builtin.zeroCells z.cells n++Builtin.zeroCells z.cells (grownCap w n 0 5 - n)) 5)):=fun ty=>by
  have y5c:(Builtin.firstCells i0.size 0 (.slice base 0 0)).run bg w.drew=.ok ([]:List Value).toArray w.drew:=by
   cases base with
   |none=>exact run_firstCells_none w.drew i0.size 0 0 0
   |some a=>exact run_firstCells_some w.drew i0.size 0 a 0 0 [] (by simp) (fun j v hj=>by simp at hj)
  have h:=Lib.run_append_grow_zeros w 146 3 ty 5 i0 z .i64 .i64 (by kernel_rfl) (by kernel_rfl) hi0 hz0 base 0 0 [] y5c n (by omega) hs0 (by omega) (by omega)
   (by omega) (by rw[Nat.zero_add];exact growslice_fits hroom hbig)
  simpa using h
 go_enter jX,jG
 go_wp2_with (at_builtin;refine Lib.wpList_append_run _ rfl _ _ _ _ rfl _ _ rfl rfl _ _ (hrz _) ?_)
 all_goals (go_ret;exact⟨rfl,rfl⟩)
end
theorem zc9(z:Array Go.Value)(n:Nat):(cm z n).size=n*z.size:=by simp[cm]
theorem z7q:∀{l:List Go.Value} {ds:List D},y2j l=some ds->l.length=ds.length
 |[],ds,h=>by simp[y2j]at h;subst h;rfl
 |v::l,ds,h=>by
  simp only[y2j]at h;split at h
  ·rename_i d r h1 h2;simp only[aa]at h;subst h;simp[z7q h2]
  ·simp at h
theorem yib:yce P 123 (E.ty 13).bytes (E.ty 13).size:=by
 obtain⟨i0,hi0,hsz,hby,hz⟩:=(types 5 13 rfl).info;obtain⟨z,hz0,hzl,_⟩:=hz (by decide) (by decide)
 have hzs:z.cells.size=(E.ty 13).size:=by have:=z7q hzl;rw[cW]at this;rw[this];decide
 have hpos:0<i0.size:=by rw[hsz];decide
 rw[<- hsz,<- hby];constructor
 ·intro base w;exact zsi base w
 ·intro base n w hn hb hn2;have:=zsj i0 z hi0 hz0 hpos base n w hn hb hn2;have hG:=Go.grownCap_ge w n 0 5;generalize Go.grownCap w n 0 5=G at this hG;refine this.mono ?_;rintro e w' ⟨rfl,rfl⟩;refine⟨G,5,_,?_,rfl,rfl,⟨rfl,rfl,rfl,Nat.le_succ _⟩⟩;simp only[Array.size_append,zc9,hzs,hsz];rw[<- Nat.add_mul,show n+(G - n)=G from by omega]
theorem l123:y82 P E T F (33,0) 123 384:=zoe (c:=30) (i:=2) (e:=13) (G:=f384) rfl rfl rfl rfl yib
def ydr:Go.Shelf.Ren:={ f:=fun | 6=>71 | 15=>92 | 14=>91 | 28=>119 | 29=>120 | 20=>111 | 21=>112 | 22=>113 | 23=>114 | 24=>115 | 25=>116 | 26=>117 | 27=>118 | 46=>133 | 47=>134 | 48=>135 | 49=>136 | 50=>137 | 57=>148 | n=>n,t:=fun | 22=>121 | 24=>49 | 25=>120 | 3=>3 | 39=>174 | 0=>0 | 53=>210 | 55=>212 | 4=>4 | 46=>203 | 45=>202 | 50=>207 | 5=>5 | 9=>9 | 66=>231 | 70=>235 | 76=>252 | 77=>253 | n=>n,g:=fun n=>n }
set_option maxRecDepth 100000 in
theorem yao:kD P ydr where
 mixed:=mixed
 f6:=⟨ "slices.SortFunc[[]overflight/api.Account,overflight/api.Account]",by decide,tp.trans (congrArg some (by kernel_rfl))⟩
 f14:=⟨ "slices.pdqsortCmpFunc[overflight/api.Account]",by decide,tq.trans (congrArg some (by kernel_rfl))⟩
 f15:=tt.trans (congrArg some (by kernel_rfl))
 f20:=⟨ "slices.insertionSortCmpFunc[overflight/api.Account]",by decide,qI.trans (congrArg some (by kernel_rfl))⟩
 f21:=⟨ "slices.heapSortCmpFunc[overflight/api.Account]",by decide,qJ.trans (congrArg some (by kernel_rfl))⟩
 f22:=⟨ "slices.breakPatternsCmpFunc[overflight/api.Account]",by decide,qK.trans (congrArg some (by kernel_rfl))⟩
 f23:=⟨ "slices.choosePivotCmpFunc[overflight/api.Account]",by decide,qL.trans (congrArg some (by kernel_rfl))⟩
 f24:=⟨ "slices.reverseRangeCmpFunc[overflight/api.Account]",by decide,qN.trans (congrArg some (by kernel_rfl))⟩
 f25:=⟨ "slices.partialInsertionSortCmpFunc[overflight/api.Account]",by decide,qO.trans (congrArg some (by kernel_rfl))⟩
 f26:=⟨ "slices.partitionEqualCmpFunc[overflight/api.Account]",by decide,qP.trans (congrArg some (by kernel_rfl))⟩
 f27:=⟨ "slices.partitionCmpFunc[overflight/api.Account]",by decide,qQ.trans (congrArg some (by kernel_rfl))⟩
 f28:=qR.trans (congrArg some (by kernel_rfl))
 f29:=qT.trans (congrArg some (by kernel_rfl))
 f46:=⟨ "slices.siftDownCmpFunc[overflight/api.Account]",by decide,qU.trans (congrArg some (by kernel_rfl))⟩
 f47:=qV.trans (congrArg some (by kernel_rfl))
 f48:=qW.trans (congrArg some (by kernel_rfl))
 f49:=⟨ "slices.medianAdjacentCmpFunc[overflight/api.Account]",by decide,qY.trans (congrArg some (by kernel_rfl))⟩
 f50:=⟨ "slices.medianCmpFunc[overflight/api.Account]",by decide,qZ.trans (congrArg some (by kernel_rfl))⟩
 f57:=⟨ "slices.order2CmpFunc[overflight/api.Account]",by decide,q7.trans (congrArg some (by kernel_rfl))⟩
 t0:=oc
 a0:=tu
 z0:=q8
 v0:=oB
 t3:=od
 a3:=tv
 z3:=q9
 v3:=oC
 t4:=og
 a4:=tw
 z4:=ra
 v4:=oD
 t5:=oh
 a5:=tx
 z5:=rc
 v5:=oG
 t9:=ol
 a9:=tz
 z9:=re
 v9:=oH
 t22:=iY
 a22:=pB
 z22:=o8
 v22:=nI
 t25:=np
 a25:=pD
 z25:=o9
 v25:=nJ
 t39:=nq
 a39:=pE
 z39:=pb
 v39:=nK
 t45:=nr
 a45:=pF
 z45:=pc
 v45:=nL
 t46:=nu
 a46:=pG
 z46:=pd
 v46:=nM
 t50:=nw
 a50:=pH
 z50:=pe
 v50:=nN
 t53:=nz
 a53:=pI
 z53:=pf
 v53:=nO
 t55:=nA
 a55:=pJ
 z55:=pg
 v55:=nP
 t66:=nB
 a66:=pK
 z66:=ph
 v66:=nQ
 t70:=nC
 a70:=pL
 z70:=pj
 v70:=nR
 t76:=nD
 a76:=pN
 z76:=pm
 v76:=nS
 t77:=nE
 a77:=pO
 z77:=pn
 v77:=nT
def flA:List (Nat × Nat):=[(48,74),(53,386),(54,105),(69,107),(76,362)]
def FA:Phi:=y97 flA
theorem yih:y3l P FA:=zlt (by kernel_rfl)
theorem a48:FnL P T FA 48 f74:=zb kw
theorem a53:FnL P T FA 53 f386:=zb kx
theorem a54:FnL P T FA 54 f105:=zb ky
theorem a69:FnL P T FA 69 f107:=zb kz
theorem a76:FnL P T FA 76 f362:=zb kC
theorem tieA:Tie P E T FA:=zz6 (pt:=(33,0)) types mixed yih (y1d (z8 a48 rfl) (y1d (z8 a53 rfl) (y1d (z8 a54 rfl) (y1d (z8 a69 rfl) (y1d (z8 a76 rfl) (alln))))))
theorem yix(a b c d:Int):orI [y3r a c,y3r b d]=cfP (a,b) (c,d):=by
 unfold cfP y3r;simp only[orI]
 repeat' split
 all_goals first | rfl | omega
theorem yb2:y9e P 53:=y9e.of_sim tieA (g:=53) (g':=386) rfl fun a b c d=>by rw[<- yix];exact z8f (yls a b c d)
theorem yfn:y9e P 76:=y9e.of_sim tieA (g:=76) (g':=362) rfl fun a b c d=>by rw[<- yix];exact z8f (ylt a b c d)
theorem cmpN(g k:Nat)(h:F g=some k)(hk:[362,386].contains k=true):g=53\/g=76:=by
 have h1:=z54 h;have h2:(fl.all fun p=>![362,386].contains p.2 || p.1 == 53 || p.1 == 76)=true:=by decide +kernel
 have h3:=ay.1 h2 _ h1;simp only[hk,kS,ic]at h3;simpa using h3
theorem l71:y82 P E T F (33,0) 71 361:=zmw (p:=0) (cmp:=[362,386]) (G:=f361) rfl rfl rfl rfl
 (fun g k h hk=>by
  rcases cmpN g k h hk with rfl | rfl
  ·exact y6b.of yao rfl ia gW yb2
  ·exact y6b.of yao rfl ia gW yfn)
 (fun p cap fv w=>gT yao p cap fv w)
set_option maxRecDepth 100000 in
theorem zwg(F:Fence)(n:Nat)(h10:F.fn 72)(hro:F.round=none)(hn:1<=n)(l Bm off b clock:Nat)(es:Array MapEntry)(ks:List (Int × Int))(hst:y3s es clock)(hks:es.toList.map (fun e=>e.key)=ks.map y84)(J:List (Int × Int)->World->Prop)
  (hY:∀ pre x W,J pre W->pre.length<ks.length->mY F (n - 1) bg l #[y84 x] W fun e W'=>e=.returned (.bool true)/\J (pre++[x]) W'/\KeepsWalks W W')
  (W:World) (hJ:y9f W.heap.size J) (hm:W.cell? ⟨Bm,off,none⟩=some (.map (some b))) (hb:W.heap[b]? = some (.map es clock)) (h0:J [] W) :
  CallsIn F n bg 72 #[.func (.yield l) #[] #[],.pointer (some ⟨Bm,off,none⟩)] W fun e W'=>(∃ v,e=.returned v) /\ ∃ ss:List (Int × Int),ss.Perm ks/\J ss W':=by
 refine jD iz rfl h10 ?_ hro;simp only[rf,bQ,ar,aY,ie,jl,eO,gj,g6,gz,bn,aG]
 gi_wp2_with (first
  |(gi_at_range;refine ycv _ rfl _ 81 49 3 rfl nU b es clock rfl hb ?_;intro w0 hb0 hr0 hg0 hs0 hd0)
  |gi_in)
 go_frame
 gi_loopw [3] (fun _ wr=>∃(seen:Array Nat) (ss:List (Int × Int)),wr.heap[b]? = some (.map es clock)/\wr.heap[W.heap.size]? = some (.mapIter (some b) clock seen clock)/\y63 ks es.toList seen ss/\J ss wr)
  (fun _ wr=>wr.rangeLeft b W.heap.size)
 case atStart=>exact⟨#[],[],hb0,hr0,by unfold y63 y4l;rw[List.map_nil,bn,<- hks,List.filter_eq_self.2 (by simp)],hJ [] W w0 none h0 hg0 hd0 (fun r e=>by cases e)⟩
 case round=>
  obtain⟨seen,ss,hbr,hrr,hC,hJs⟩:=hrel
  gi_wp2_with (first
   |(gi_at_next;refine yh0 _ rfl _ rfl b W.heap.size clock es seen hst rfl hbr hrr ?_ ?_)
   |gi_in)
  ·intro hl
   gi_wp2
   go_end0
   exact⟨⟨_,rfl⟩,ss,hC.done hl,hJs⟩
  ·intro e w2 he hb2 hr2 hg2 hs2 hd2 hen;have hlen:=hC.len;obtain⟨x,hx⟩:=hC.key he;have hC2:=hC.step hst.2 he hx;have hlt:ss.length<ks.length:=by have:0<(y4l es.toList seen).length:=List.length_pos_of_mem he;omega
   obtain⟨key,val,born⟩:=e;simp only at hx hen hr2 hC2;subst hx;have hJ2:J ss w2:=hJ ss wr w2 (some W.heap.size) hJs hg2 hd2 (fun r e=>by cases e;exact⟨aj _,_,hrr,rfl⟩)
   have hJ3:J ss (w2.alloc (.cells #[.int .i64 x.1,.int .i64 x.2] 49)):=hJ ss w2 _ none hJ2 (Go.World.grownBy_alloc w2 _ none) (aj _) (fun r e=>by cases e)
   have hb3:(w2.alloc (.cells #[.int .i64 x.1,.int .i64 x.2] 49)).heap[b]? = some (.map es clock):=(Below.heap_alloc _ _ b (z26 hb2)).trans hb2;have hr3:(w2.alloc (.cells #[.int .i64 x.1,.int .i64 x.2] 49)).heap[W.heap.size]? = some (.mapIter (some b) clock (seen.push born) clock):=(Below.heap_alloc _ _ W.heap.size (z26 hr2)).trans hr2;obtain⟨fn,tmps,assign,body,hy,hR⟩:=hY ss x _ hJ3 hlt;clear hs2 hd2
   gi_wp2
   refine hR.mono ?_;rintro e W3 ⟨rfl,hJ3,hk3⟩
   gi_wp2
   have hb4:=hk3.same b _ hb3 rfl;have hr4:=hk3.same W.heap.size _ hr3 rfl
   go_roundw
   case rel=>exact⟨seen.push born,ss++[x],hb4,hr4,hC2,hJ3⟩
   case measure=>have hlen2:=hC2.len;unfold Go.World.rangeLeft;rw[hb4,hr4,hbr,hrr];simp only[];rw[<- cW,<- cW,z57,z57];simp only[List.length_append,ar,aY]at hlen2;omega
theorem znw(F:Fence)(n:Nat)(h10:F.fn 72)(hro:F.round=none)(hn:1<=n)(Bm off b clock:Nat)(es:Array MapEntry)(ks:List (Int × Int))(hst:y3s es clock)(hks:es.toList.map (fun e=>e.key)=ks.map y84)(w:World)(hBm:Bm<w.heap.size)
  (hm:w.cell? ⟨Bm,off,none⟩=some (.map (some b))) (hb:w.heap[b]? = some (.map es clock)) :
  ymx F n bg 72 #[.pointer (some ⟨Bm,off,none⟩)] (fun ss=>ss.Perm ks) ks.length w:=fun l J W hW hJ hY h0=>
 zwg F n h10 hro hn l Bm off b clock es ks hst hks J hY W hJ ((hW.cell (p:=⟨Bm,off,none⟩) hBm).trans hm) ((hW.block b (z26 hb)).trans hb) h0
def y7z:Code->Code × Code
 |.seq _ (.seq (.seq _ (.block _ (.rangeFunc _ _ a b))) _)=>(a,b)
 |_=>(.skip,.skip)
noncomputable def ymv:Code:=(y7z (gN.body.getD .skip)).1
noncomputable def ymu:Code:=(y7z (gN.body.getD .skip)).2
noncomputable def y6t(fn:Nat)(sv:Value)(Bs D:Nat)(st:Go.LoopState)(pend:Option Code):Go.Loop:=
 { state:=st,pending:=pend,fn,tmps:=#[.slice none 0 0,sv,.pointer (some ⟨Bs,0,none⟩),bu,.slice none 0 0,bu,sv,bu,bu,bu,bu,bu,bu],params:=#[7],assign:=ymv,body:=ymu,defers:=D }
structure ygr(w0:World)(fn:Nat)(sv:Value)(Bs l D:Nat)(ss:List (Int × Int))(W:World):Prop where
 box:∃ v,W.heap[Bs]? = some (.cells #[v] 121 (0,0))/\W.ownsRow w0.heap.size 49 2 v ss.length (ss.flatMap y53)/\(v=.slice none 0 0 ↔ ss=[])
 L:W.heap[l]? = some (.loop (y6t fn sv Bs D .ready none))
 K:W.heap[D]? = some (.deferred (some []))
 below:Below w0.heap.size w0 W
 dr:w0.drawn<=W.drawn
theorem zhw(w0:World)(fn:Nat)(sv:Value)(Bs l D B:Nat)(hB:w0.heap.size<=B):y9f B (ygr w0 fn sv Bs l D):=fun s W W' row h hg hd hrow=>by
 have hrow':∀ r,row=some r->∃ o:Go.Obj,W.heap[r]? = some o/\o.isWalk=true:=fun r e=>(hrow r e).2
 obtain⟨v,hv,hr,hn⟩:=h.box;exact⟨⟨v,(jE hg hrow' hv rfl).trans hv,zn2 hr hg hrow',hn⟩,(jE hg hrow' h.L rfl).trans h.L,(jE hg hrow' h.K rfl).trans h.K,
  h.below.grown hg h.below.size (fun k e=>aM hB (hrow k e).1),aM h.dr hd⟩
theorem ymd:(bg.info? 49).map (fun i=>(i.zero,i.size,i.bytes))=some (some (.agg #[.int .i64 0,.int .i64 0]),2,16):=by kernel_rfl
set_option maxRecDepth 100000 in
theorem yg6(F:Fence)(m:Nat)(w0:World)(fn:Nat)(hfn:F.fn fn)(sv:Value)(Bs l D:Nat)(hBl:Bs ≠ l)(hDl:D ≠ l)(hDB:D ≠ Bs)(h0B:w0.heap.size<=Bs)(h0l:w0.heap.size<=l)
  (N:Nat) (hN:N<=fR) (hNb:N*16<=140737488355328) (ss:List (Int × Int)) (x:Int × Int) (W0:World) (h0:ygr w0 fn sv Bs l D ss W0) (hlen:ss.length<N) :
  mY F m bg l #[y84 x] W0 fun e W'=>e=.returned (.bool true)/\ygr w0 fn sv Bs l D (ss++[x]) W'/\KeepsWalks W0 W':=by
 obtain⟨i0,hi,hz0,hz1,hz2⟩:=Go.info_parts ymd;have h1:ygr w0 fn sv Bs l D ss (W0.alloc (.cells #[.int .i64 x.1,.int .i64 x.2] 49)):=zhw w0 fn sv Bs l D W0.heap.size h0.below.size ss W0 _ none h0 (World.grownBy_alloc W0 _ none) (aj _) (fun r e=>by cases e)
 refine⟨fn,#[.slice none 0 0,sv,.pointer (some ⟨Bs,0,none⟩),bu,.slice none 0 0,bu,sv,y84 x,bu,bu,bu,bu,bu],ymv,ymu,by simpa[y6t]using Go.run_yield (P:=bg) (args:=#[y84 x]) h0.L rfl,Go.roundIn_of_wpIn hfn ?_⟩
 obtain⟨W,hW⟩:∃ W,W=W0.alloc (.cells #[.int .i64 x.1,.int .i64 x.2] 49):=⟨_,rfl⟩;rw[<- hW]at h1;have hdr0:w0.drawn<=W.drawn:=by rw[hW];exact h0.dr
 have hk0:KeepsWalks W0 W:=by rw[hW];exact KeepsWalks.alloc _ _
 obtain⟨v,hv,hrow,_⟩:=h1.box;have hl:l<W.heap.size:=(aI.1 h1.L).1;have hbr:=Go.run_beginRound (P:=bg) h1.L rfl;obtain⟨W2,hW2⟩:∃ W2,W.putObj l (.loop { y6t fn sv Bs D .ready none with state:=.busy })=W2:=⟨_,rfl⟩;rw[hW2]at hbr;have hg2:W.grownBy W2 (some l):=by rw[<- hW2];exact y50 _ _ _
 have hk2:KeepsWalks W W2:=by rw[<- hW2];exact KeepsWalks.putObj _ h1.L rfl
 have hv2:W2.heap[Bs]? = some (.cells #[v] 121 (0,0)):=by rw[<- hW2];exact(World.putObj_heap_other hBl).trans hv
 have hK2:W2.heap[D]? = some (.deferred (some [])):=by rw[<- hW2];exact(World.putObj_heap_other hDl).trans h1.K
 have hL2:W2.heap[l]? = some (.loop { y6t fn sv Bs D .ready none with state:=.busy }):=by rw[<- hW2];exact World.putObj_heap_same hl
 have hrow2:W2.ownsRow w0.heap.size 49 2 v ss.length (ss.flatMap y53):=hrow.kept hg2 (zcx hrow h1.L (fun cur e=>by cases e))
 have hb2:Below w0.heap.size w0 W2:=h1.below.grown hg2 h1.below.size (fun k e=>by cases e;exact h0l)
 have hl0:l<W0.heap.size:=(aI.1 h0.L).1;have hxb:W2.heap[W0.heap.size]? = some (.cells #[.int .i64 x.1,.int .i64 x.2] 49 (0,0)):=by rw[<- hW2,hW];exact(World.putObj_heap_other (by omega)).trans (World.alloc_heap_new W0 _)
 have hx1:W2.cell? ⟨W0.heap.size,0,none⟩=some (.int .i64 x.1):=by simp[World.cell?,hxb]
 have hx2:W2.cell? ⟨W0.heap.size,1,none⟩=some (.int .i64 x.2):=by simp[World.cell?,hxb]
 obtain⟨hc2,hf2⟩:=zff hv2;have hBlt:Bs<W2.heap.size:=(aI.1 hv2).1;have hl2:l<W2.heap.size:=(aI.1 hL2).1;have hDlt:D<W2.heap.size:=(aI.1 hK2).1;have ne_of:∀{j:Nat} {o:Go.Obj},W2.heap[j]? = some o->(∀ cur,o ≠ .cells cur 49 (0,0))->some j ≠ v.ownBlock:=fun hj hno=>by
  rcases zcx hrow2 hj hno with e | e
  ·rw[e];simp
  ·exact fun e'=>e e'.symm
 have hdr2:w0.drawn<=W2.drawn:=by rw[<- hW2];exact hdr0
 clear hW2;unfold ymv;simp only[gN,y7z,aX];rw[hW]at hbr
 gi_wp2_with (rw[cO _ _ _ (fun c h=>by cases h)];go_simp;try go_bits)
 unfold ymu;simp only[gN,y7z,aX]
 gi_wp2_with (first
  |(
   gi_at_builtin;refine yh1 (hg:=rfl) _ _ _ 121 rfl w0.heap.size 49 i0 (.agg #[.int .i64 0,.int .i64 0]) 2 16 iY hi hz0 hz1 hz2 rfl (by decide) _ _ _ rfl (hrow2.alloc _) ⟨W2.heap.size,0,none⟩ 1 1 (y53 x) rfl rfl (zvy W2 x 49) (by intro u hu;simp at hu;rcases hu with rfl | rfl <;> rfl) (by omega) (by omega) (by have:=hb2.size;simp;omega) ?_;intro v' w3 hown' hg3 hd3
   have hv3:w3.heap[Bs]? = some (.cells #[v] 121 (0,0)):=(hg3.block Bs (by simp;omega) (ne_of hv2 (fun cur e=>by cases e))).trans ((Below.heap_alloc _ _ Bs hBlt).trans hv2)
   obtain⟨hc3,hf3⟩:=zff hv3;obtain⟨g',cap',cur',rfl,hbase',hgb',hr1,hr2,hr3,hr4⟩:∃ g' cap' cur',v'=.slice (some ⟨g',0,none⟩) (ss.length+1) cap'/\w0.heap.size<=g'/\w3.heap[g']? = some (.cells cur' 49 (0,0))/\ss.length+1<=cap'/\cap'<=fR/\cur'.size=cap'*2/\cur'.toList.take ((ss.length+1)*2)=ss.flatMap y53++y53 x:=by
    rcases hown'.2 with⟨_,h0⟩ | h'
    ·exact absurd h0 (by omega)
    ·exact h'
   go_frame)
  |(rw[cO _ _ _ (fun c h=>by cases h)];go_simp;try go_bits))
 have hg3':(W2.alloc (.cells #[.int .i64 x.1,.int .i64 x.2] 49)).grownBy w3 v.ownBlock:=hg3;have hL3:w3.heap[l]? = some (.loop { y6t fn sv Bs D .ready none with state:=.busy }):=(hg3'.block l (by simp;omega) (ne_of hL2 (fun cur e=>by cases e))).trans ((Below.heap_alloc _ _ l hl2).trans hL2)
 have hK3:w3.heap[D]? = some (.deferred (some [])):=(hg3'.block D (by simp;omega) (ne_of hK2 (fun cur e=>by cases e))).trans ((Below.heap_alloc _ _ D hDlt).trans hK2)
 obtain⟨w4,hw4⟩:∃ w4,w3.setCell ⟨Bs,0,none⟩ (.slice (some ⟨g',0,none⟩) (ss.length+1) cap')=w4:=⟨_,rfl⟩;rw[hw4];have hg4:w3.grownBy w4 (some Bs):=by rw[<- hw4];exact ybq _ _ _
 have hv4:w4.heap[Bs]? = some (.cells #[.slice (some ⟨g',0,none⟩) (ss.length+1) cap'] 121 (0,0)):=by rw[<- hw4];exact yfs _ hv3
 have hL4:w4.heap[l]? = some (.loop { y6t fn sv Bs D .ready none with state:=.busy }):=(hg4.block l (aI.1 hL3).1 (fun e=>hBl (by cases e;rfl))).trans hL3
 have hK4:w4.heap[D]? = some (.deferred (some [])):=(hg4.block D (aI.1 hK3).1 (fun e=>hDB (by cases e;rfl))).trans hK3
 have hrow4:=hown'.kept hg4 (zcx hown' hv3 (fun cur e=>by cases e))
 have hl4:l<w4.heap.size:=(aI.1 hL4).1;have hb3:Below w0.heap.size w0 w3:=(hb2.alloc hb2.size _).grown hg3' (by have:=hb2.size;simp;omega) (fun k e=>(hrow2.lt k e).1)
 have hb4:Below w0.heap.size w0 w4:=hb3.grown hg4 hb3.size (fun k e=>by cases e;exact h0B)
 have hk4:KeepsWalks W0 w4:=(hk0.trans hk2).trans (((KeepsWalks.alloc _ _).trans (KeepsWalks.of_grownBy hg3' (zgj (hrow2.alloc _)))).trans (by rw[<- hw4];exact KeepsWalks.setCell _ _ _))
 have hdr4:w0.drawn<=w4.drawn:=by rw[<- hw4];exact aM hdr2 hd3
 clear hw4;refine⟨_,_,Go.run_endRound none hL4,rfl,⟨⟨_,(World.putObj_heap_other hBl).trans hv4,?_,by simp⟩,World.putObj_heap_same hl4,(World.putObj_heap_other hDl).trans hK4,hb4.grown (y50 _ _ _) hb4.size (fun k e=>by cases e;exact h0l),hdr4⟩,hk4.trans (KeepsWalks.putObj _ hL4 rfl)⟩
 have:=hrow4.kept (y50 w4 l (.loop { { y6t fn sv Bs D .ready none with state:=.busy } with state:=if(none:Option Code).isNone then .ready else .done,pending:=none })) (zcx hrow4 hL4 (fun cur e=>by cases e))
 simpa using this
set_option maxRecDepth 100000 in
theorem zhv(F:Fence)(n:Nat)(h11:F.fn 90)(hro:F.round=none)(hn:2<=n)(g:Nat)(lb:Array Value)(hFg:F.fn g)(eg:∀ args w,(iZ g args).run bg w=.ok (.enter g args) w)
  (S:List (Int × Int)->Prop) (N:Nat) (hN:N<=fR) (hNb:N*16<=140737488355328) (w:World) (hseq:ymx F (n - 1) bg g lb S N w) :
  CallsIn F n bg 90 #[.slice none 0 0,.func (.func g) #[] lb] w fun e w'=>∃(v:Value) (ss:List (Int × Int)),e=.returned v/\S ss/\w'.ownsRow w.heap.size 49 2 v ss.length (ss.flatMap y53)/\(v=.slice none 0 0 ↔ ss=[])/\Below w.heap.size w w'/\w.drawn<=w'.drawn:=by
 have h1:1<=n:=by omega
 refine Go.callsIn_of_wp_marks tA rfl h11 ?_ hro;simp only[ri,bQ,ar,aY,ie,jl,eO,gj,g6,gz,bn,aG]
 gi_wp2
 refine Go.wpIn_rangeFunc ?_;intro fn hfn;rw[hro];obtain⟨W0,hW0⟩:∃ W0,w.alloc (.cells #[.slice none 0 0] 121)=W0:=⟨_,rfl⟩;have hs0:W0.heap.size=w.heap.size+1:=by rw[<- hW0];simp
 have hv0:W0.heap[w.heap.size]? = some (.cells #[.slice none 0 0] 121 (0,0)):=by rw[<- hW0];exact World.alloc_heap_new w _
 have hb0:Below w.heap.size w W0:=by rw[<- hW0];exact(Below.refl _ w).alloc (aj _) _
 have hd0:w.drawn=W0.drawn:=by rw[<- hW0];rfl
 rw[hW0];obtain⟨W1,hW1⟩:∃ W1,(W0.alloc (.deferred (some []))).alloc (.loop (y6t fn (.func (.func g) #[] lb) w.heap.size W0.heap.size .ready none))=W1:=⟨_,rfl⟩;have y5c:∀ k,k<W0.heap.size->W1.heap[k]? = W0.heap[k]?:=fun k hk=>by rw[<- hW1];exact(Below.heap_alloc _ _ k (by simp;omega)).trans (Below.heap_alloc _ _ k hk)
 have hb1:Below w.heap.size w W1:=by rw[<- hW1];exact(hb0.alloc hb0.size _).alloc (by have:=hb0.size;simp;omega) _
 have hs1:W1.heap.size=W0.heap.size+2:=by rw[<- hW1];simp
 have hM:ygr w fn (.func (.func g) #[] lb) w.heap.size (W0.heap.size+1) W0.heap.size [] W1:=
  ⟨⟨_,(y5c w.heap.size (by omega)).trans hv0,⟨rfl,.inl ⟨rfl,rfl⟩⟩,by simp⟩,
   by rw[<- hW1];have:=World.alloc_heap_new (W0.alloc (.deferred (some []))) (.loop (y6t fn (.func (.func g) #[] lb) w.heap.size W0.heap.size .ready none));rwa [World.size_alloc]at this,
   by rw[<- hW1];exact(Below.heap_alloc _ _ _ (by simp)).trans (World.alloc_heap_new W0 _),hb1,by rw[<- hW1];exact Nat.le_of_eq hd0⟩
 refine⟨W0.heap.size+1,[{ target:=.collected W0.heap.size,args:=#[] }],W1,{ target:=.fn (.func g) lb,args:=#[.func (.yield (W0.heap.size+1)) #[] #[]] },W1,g,
  #[.func (.yield (W0.heap.size+1)) #[] #[]]++lb,W1,?_,?_,?_,?_,fun _=>h1,?_⟩
 ·rw[<- hW1];exact Go.run_enterLoop_outer _ _ _ _ _
 ·simp[Go.resolve,go_sem]
 ·intro f' hf';simp[Go.Target.leads]at hf';subst hf';exact hFg
 ·simp[Go.invoke,go_sem,eg]
 ·refine(hseq (W0.heap.size+1) (ygr w fn (.func (.func g) #[] lb) w.heap.size (W0.heap.size+1) W0.heap.size) W1 hb1 (zhw _ _ _ _ _ _ _ hb1.size)
   (fun pre x W hJ hl=>yg6 F (n - 1 - 1) w fn hfn _ w.heap.size (W0.heap.size+1) W0.heap.size (by omega) (by omega) (by omega) (aj _) (by omega) N hN hNb pre x W hJ hl) hM).mono ?_
  rintro e W2 ⟨⟨v0,rfl⟩,ss,hS,h2⟩;obtain⟨v,hv,hrow,hnil⟩:=h2.box;have hend:=Go.run_endLoop (P:=bg) h2.L (by simp[y6t])
  obtain⟨W3,hW3⟩:∃ W3,W2.putObj (W0.heap.size+1) (.loop { y6t fn (.func (.func g) #[] lb) w.heap.size W0.heap.size .ready none with state:=.exhausted })=W3:=⟨_,rfl⟩;rw[hW3]at hend;have hg3:W2.grownBy W3 (some (W0.heap.size+1)):=by rw[<- hW3];exact y50 _ _ _
  have hv3:W3.heap[w.heap.size]? = some (.cells #[v] 121 (0,0)):=by rw[<- hW3];exact(World.putObj_heap_other (by omega)).trans hv
  have hK3:W3.heap[W0.heap.size]? = some (.deferred (some [])):=by rw[<- hW3];exact(World.putObj_heap_other (by omega)).trans h2.K
  have hrow3:=hrow.kept hg3 (zcx hrow h2.L (fun cur e=>by cases e))
  have hb3:Below w.heap.size w W3:=h2.below.grown hg3 h2.below.size (fun k e=>by cases e;omega)
  have hd3:w.drawn<=W3.drawn:=by rw[<- hW3];exact h2.dr
  obtain⟨hc3,hf3⟩:=zff hv3;clear hW3;refine⟨none,W3,hend,?_⟩
  gi_wp2
  rw[<- hs0];refine⟨by simp,.inl ⟨_,_,rfl,Go.run_takeDeferred hK3,?_⟩⟩
  exact⟨_,Go.results_tmp rfl _ _ _,v,ss,rfl,hS,hrow3.kept (y50 _ _ _) (zcx hrow3 hK3 (fun cur e=>by cases e)),hnil,hb3.grown (y50 _ _ _) hb3.size (fun k e=>by cases e;omega),hd3⟩
theorem zoq(F:Fence)(n:Nat)(h8:F.fn 70)(h11:F.fn 90)(hro:F.round=none)(hn:3<=n)(g:Nat)(lb:Array Value)(hFg:F.fn g)(eg:∀ args w,(iZ g args).run bg w=.ok (.enter g args) w)
  (S:List (Int × Int)->Prop) (N:Nat) (hN:N<=fR) (hNb:N*16<=140737488355328) (w:World) (hseq:ymx F (n - 1 - 1) bg g lb S N w) :
  CallsIn F n bg 70 #[.func (.func g) #[] lb] w fun e w'=>∃(v:Value) (ss:List (Int × Int)),e=.returned v/\S ss/\w'.ownsRow w.heap.size 49 2 v ss.length (ss.flatMap y53)/\(v=.slice none 0 0 ↔ ss=[])/\Below w.heap.size w w'/\w.drawn<=w'.drawn:=by
 have h1:1<=n:=by omega
 refine jD tB rfl h8 ?_ hro;simp only[rk,bQ,ar,aY,ie,jl,eO,gj,g6,gz,bn,aG]
 gi_wp2_with (gi_at_call 90;refine(zhv F (n - 1) h11 hro (by omega) g lb hFg eg S N hN hNb _ hseq).mono ?_;rintro e w' ⟨v,ss,rfl,hS,hrow,hnil,hb,hd⟩)
 go_ret
 exact⟨v,ss,rfl,hS,hrow,hnil,hb,hd⟩
theorem zqe(k:Nat)(C:y6b bg 71 k)(hN:∀(p:Option Go.Addr) (cap:Nat) (fv:Value) (w:World),Go.Calls bg 71 #[.slice p 0 cap,fv] w fun e w'=>e=.returned (.tuple #[])/\w'=w)
  (Bm off b clock:Nat) (es:Array MapEntry) (ks:List (Int × Int)) (hst:y3s es clock) (hks:es.toList.map (fun e=>e.key)=ks.map y84) (hlen:ks.length<=1000000) (w:World) (hG:GL w)
  (hm:w.cell? ⟨Bm,off,none⟩=some (.map (some b))) (hb:w.heap[b]? = some (.map es clock)) :
  CallsIn Fence.wide 6 bg 55 #[.func (.func 72) #[] #[.pointer (some ⟨Bm,off,none⟩)],.func (.func k) #[] #[]] w (y7o w ks):=by
 have hBm:Bm<w.heap.size:=by rw[cell?_eq]at hm;exact z3w hm
 have hseq:=znw Fence.wide (6 - 1 - 1 - 1) trivial rfl (by omega) Bm off b clock es ks hst hks w hBm hm hb
 refine jD tC rfl trivial ?_ rfl;simp only[ro,bQ,ar,aY,ie,jl,eO,gj,g6,gz,bn,aG]
 gi_wp2
 refine⟨trivial,?_⟩;refine(zoq Fence.wide (6 - 1) trivial trivial rfl (by omega) 72 _ trivial (Go.Proofs.enters_of iz (by kernel_rfl) rfl) _ ks.length (by unfold fR;omega) (by omega) _ hseq).mono ?_
 rintro e w1 ⟨v,ss,rfl,hS,hrow,hnil,hb1,hd1⟩
 gi_wp2
 refine⟨trivial,?_⟩;have hlen2:ss.length=ks.length:=hS.length_eq
 by_cases h0:ss=[]
 ·have hv:=hnil.2 h0;subst hv;refine(eP.2 (hN none 0 _ w1)).mono ?_;rintro e w2 ⟨rfl,rfl⟩
  gi_wp2
  go_ret
  have hk0:ks=[]:=by rw[h0]at hlen2;exact List.eq_nil_of_length_eq_zero hlen2.symm
  exact⟨hb1,hd1,.inl ⟨hk0,rfl⟩⟩
 ·obtain⟨g,cap,rfl⟩:∃ g cap,v=.slice (some ⟨g,0,none⟩) ss.length cap:=by
   rcases hrow.2 with⟨h1,_⟩ | ⟨g',cap',cur,hv,_⟩
   ·exact absurd (hnil.1 h1) h0
   ·exact⟨g',cap',hv⟩
  obtain⟨_,arr,hgc,_,hbase,hlc,_⟩:=row_holds hrow;refine(eP.2 (zge C hrow (by omega) hG hb1)).mono ?_
  rintro e w2 ⟨rfl,hb2,hd2,hcell⟩
  gi_wp2
  go_ret
  refine⟨hb1.trans hb2,aM hd1 hd2,.inr ⟨g,cap,rfl,by omega,hbase,?_⟩⟩
  rw[<- zem hS];exact hcell
theorem keyN(gi kk:Nat)(h:F gi=some kk)(hk:[409].contains kk=true):gi=72:=by
 have h1:=z54 h;have h2:(fl.all fun p=>![409].contains p.2 || p.1 == 72)=true:=by decide +kernel
 have h3:=ay.1 h2 _ h1;simp only[hk,kS,ic]at h3;simpa using h3
theorem keyC(g k:Nat)(h:F g=some k)(hk:[386].contains k=true):g=53:=by
 have h1:=z54 h;have h2:(fl.all fun p=>![386].contains p.2 || p.1 == 53)=true:=by decide +kernel
 have h3:=ay.1 h2 _ h1;simp only[hk,kS,ic]at h3;simpa using h3
theorem yeq:ycc P 55 72 53:=fun Bm off b clock es ks w hst hks hlen hG hm hb=>eP.1 (zqe 53 (y6b.of yao rfl ia gW yb2) (fun p cap fv w=>gT yao p cap fv w) Bm off b clock es ks hst hks hlen w hG hm hb)
theorem l55:y82 P E T F (33,0) 55 388:=znv (p:=1) (it:=[409]) (cmp:=[386]) (G:=f388) rfl rfl rfl rfl (fun gi kk g k h1 h2 hi hk=>by
 rw[keyN gi kk h1 hi,keyC g k h2 hk];exact yeq)
theorem l89:∀ n,y1w P (CLk T F true) F (y1j E (dC E n) 96) 89:=z8x (c:=6) (fn:=lI) (code:=lI.body.getD .skip) types ybr rfl tD rfl rfl rfl (by kernel_rfl)
theorem l79:∀ n,y1w P (CLk T F true) F (y1j E (dC E n) 165) 79:=z8x (c:=4) (fn:=lJ) (code:=lJ.body.getD .skip) types ybr rfl tE rfl rfl rfl (by kernel_rfl)
theorem l59:∀ n,y1w P (CLk T F true) F (y1j E (dC E n) 356) 59:=z8x (c:=70) (fn:=lK) (code:=lK.body.getD .skip) types ybr rfl tF rfl rfl rfl (by kernel_rfl)
set_option maxRecDepth 100000 in
theorem tie:Tie P E T F:=zz6 (pt:=(33,0)) types mixed ybr (y1d (z8 l3 rfl) (y1d (z8 l5 rfl) (y1d (z8 l6 rfl) (y1d (z8 l7 rfl) (y1d (z8 l8 rfl) (y1d (z8 l9 rfl) (y1d (z8 l10 rfl) (y1d (z8 l11 rfl) (y1d (z8 l12 rfl) (y1d (z8 l14 rfl) (y1d (z8 l16 rfl) (y1d (z8 l17 rfl) (y1d (z8 l18 rfl) (y1d (z8 l19 rfl) (y1d (z8 l20 rfl) (y1d (z8 l21 rfl) (y1d (z8 l22 rfl) (y1d (z8 l23 rfl) (y1d (z8 l24 rfl) (y1d (z8 l25 rfl) (y1d (z8 l26 rfl) (y1d (z8 l27 rfl) (y1d (z8 l28 rfl) (y1d (z8 l29 rfl) (y1d (z8 l30 rfl) (y1d (z8 l31 rfl) (y1d (z8 l32 rfl) (y1d (z8 l35 rfl) (y1d (z8 l36 rfl) (y1d (z8 l37 rfl) (y1d (z8 l38 rfl) (y1d (z8 l39 rfl) (y1d (z8 l40 rfl) (y1d (z8 l41 rfl) (y1d (z8 l42 rfl) (y1d (z8 l43 rfl) (y1d (z8 l44 rfl) (y1d (z8 l45 rfl) (y1d (z8 l46 rfl) (y1d (z8 l47 rfl) (y1d (z8 l48 rfl) (y1d (z8 l49 rfl) (y1d (z8 l50 rfl) (y1d (z8 l51 rfl) (y1d (z8 l52 rfl) (y1d (z8 l53 rfl) (y1d (z8 l54 rfl) (y1d (z8n l55) (y1d (z8 l56 rfl) (y1d (z8 l57 rfl) (y1d (z8 l58 rfl) (y1d (z8o l59) (y1d (z8 l60 rfl) (y1d (z8 l61 rfl) (y1d (z8 l62 rfl) (y1d (z8 l63 rfl) (y1d (z8 l64 rfl) (y1d (z8 l65 rfl) (y1d (z8 l66 rfl) (y1d (z8 l67 rfl) (y1d (z8 l68 rfl) (y1d (z8 l69 rfl) (y1d (z8n l71) (y1d (z8 l72 rfl) (y1d (z8 l73 rfl) (y1d (z8 l74 rfl) (y1d (z8 l75 rfl) (y1d (z8 l76 rfl) (y1d (z8 l77 rfl) (y1d (z8 l78 rfl) (y1d (z8o l79) (y1d (z8 l80 rfl) (y1d (z8 l81 rfl) (y1d (z8 l82 rfl) (y1d (z8 l83 rfl) (y1d (z8 l84 rfl) (y1d (z8 l85 rfl) (y1d (z8 l86 rfl) (y1d (z8 l87 rfl) (y1d (z8 l88 rfl) (y1d (z8o l89) (y1d (z8 l93 rfl) (y1d (z8 l94 rfl) (y1d (z8 l95 rfl) (y1d (z8 l96 rfl) (y1d (z8 l97 rfl) (y1d (z8 l98 rfl) (y1d (z8 l99 rfl) (y1d (z8 l100 rfl) (y1d (z8 l101 rfl) (y1d (z8 l102 rfl) (y1d (z8 l103 rfl) (y1d (z8 l104 rfl) (y1d (z8 l105 rfl) (y1d (z8 l106 rfl) (y1d (z8 l107 rfl) (y1d (z8 l108 rfl) (y1d (z8 l109 rfl) (y1d (z8 l110 rfl) (y1d (z8 l121 rfl) (y1d (z8 l122 rfl) (y1d (z8n l123) (y1d (z8 l124 rfl) (y1d (z8 l125 rfl) (y1d (z8 l126 rfl) (y1d (z8 l127 rfl) (y1d (z8 l128 rfl) (y1d (z8 l129 rfl) (y1d (z8 l130 rfl) (y1d (z8 l131 rfl) (y1d (z8 l132 rfl) (y1d (z8 l138 rfl) (y1d (z8 l139 rfl) (y1d (z8 l140 rfl) (y1d (z8 l141 rfl) (y1d (z8 l142 rfl) (y1d (z8 l143 rfl) (y1d (z8 l144 rfl) (y1d (z8 l145 rfl) (y1d (z8 l146 rfl) (y1d (z8 l147 rfl) (y1d (z8 l149 rfl) (alln)))))))))))))))))))))))))))))))))))))))))))))))))))))))))))))))))))))))))))))))))))))))))))))))))))))))))))))))))))))))))))
end Dv.Tryz
