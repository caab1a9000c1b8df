/- Texts that a proof of this claim uses, joined: Dv.LinkTryz. -/
import Derived.Test.YthcmaiplkbbioaaGreatDoorDvd
import Derived.Test.YthcmaiplkbbioaaGreatDoorCode
import Derived.WalkKit
import Derived.Lib.Walk
import Derived.Lib.SliceRun
import Derived.Lib.AppendZerosOnto
import Derived.Test.YthcmaiplkbbioaaGreatDoorSh
import Derived.Test.YthcmaiplkbbioaaGreatDoorWa
import Derived.Test.YthcmaiplkbbioaaGreatDoorChecked
import Derived.KernelRfl
set_option linter.all false
open Array renaming getElem?_eq_some_iff->aG,length_toList->cO,replicate_succ->eH,replicate_zero->f9
open Bool renaming false_or->gX,not_true->kJ
open Go renaming YieldAt->mP,callFunc->iT,callsIn_of_wp->jw,callsIn_wide->eI,grownBy_keeps->jx,maxLen->fK,undef->bq
open Go.Builtin renaming zeroCells->cm
open Go.Oper renaming semAt_eq->cK
open Go.Proofs.AnyF renaming slices_SortFunc_none->gJ
open Go.Proofs.SlLaysF0 renaming n6->kq
open Go.Proofs.Tryz renaming f59->lA,f79->lz,f89->ly,f90->gD,func10->rx,func100->pT,func101->pU,func102->pV,func103->pW,func104->pX,func105->pY,func106->pZ,func107->p5,func108->p6,func109->p7,func11->ry,func110->p8,func111->qz,func112->qA,func113->qB,func114->qC,func115->qD,func116->qF,func117->qG,func118->qH,func119->qI,func120->qJ,func121->p9,func122->qa,func123->jP,func124->qc,func125->qd,func126->qe,func127->qf,func128->qg,func129->qh,func13->rz,func130->qi,func131->qj,func132->qk,func133->qK,func134->qL,func135->qM,func136->qN,func137->qO,func138->qm,func139->qo,func14->rA,func140->qp,func141->qq,func142->qr,func143->qs,func144->qu,func145->qv,func146->qw,func147->qx,func148->qP,func149->qy,func15->rB,func16->rC,func17->rD,func18->rE,func19->rF,func20->rG,func21->rH,func22->rI,func23->rJ,func24->rK,func25->rL,func26->rM,func27->rN,func28->rO,func29->rP,func30->rQ,func31->rR,func32->rS,func33->rT,func34->rU,func35->rV,func36->rW,func37->rX,func38->rY,func39->rZ,func4->tP,func40->r9,func41->sa,func42->sb,func43->sc,func44->sd,func45->se,func46->sf,func47->sg,func48->kj,func49->si,func50->sj,func51->sm,func52->sn,func53->km,func54->kn,func55->tp,func56->so,func57->sq,func58->sw,func59->tu,func6->tQ,func60->sx,func61->sy,func62->sA,func63->sB,func64->sC,func65->sD,func66->sE,func67->sF,func68->sG,func69->ko,func7->tR,func70->tn,func71->s9,func72->io,func73->sH,func74->sI,func75->sJ,func76->kp,func77->sK,func78->sL,func79->tt,func8->tS,func80->sM,func81->sN,func82->sO,func83->sP,func84->sQ,func85->sR,func86->sS,func87->sT,func88->sU,func89->tq,func9->tT,func90->tm,func91->ta,func92->td,func93->sV,func94->sW,func95->sX,func96->sY,func97->sZ,func98->s7,func99->s8,isAgg0->te,isAgg120->pm,isAgg121->pj,isAgg174->pn,isAgg202->pq,isAgg203->pu,isAgg207->pw,isAgg210->pz,isAgg212->pB,isAgg231->pD,isAgg235->pE,isAgg252->pF,isAgg253->pG,isAgg3->tf,isAgg4->th,isAgg49->gV,isAgg5->ti,isAgg9->tj,ntmps123->jz,ntmps55->q8,ntmps70->q7,ntmps72->qW,ntmps90->qY,prog->bd,sizeOf0->qQ,sizeOf120->oT,sizeOf121->oR,sizeOf174->oU,sizeOf202->oV,sizeOf203->oW,sizeOf207->oY,sizeOf210->oZ,sizeOf212->o5,sizeOf231->o6,sizeOf235->o7,sizeOf252->o8,sizeOf253->o9,sizeOf3->qR,sizeOf4->qT,sizeOf49->gM,sizeOf5->qU,sizeOf9->qV,underlying0->nV,underlying120->nc,underlying121->iS,underlying174->nf,underlying202->ng,underlying203->nh,underlying207->ni,underlying210->nj,underlying212->nk,underlying231->nl,underlying235->nn,underlying252->np,underlying253->nq,underlying3->nW,underlying4->nX,underlying5->nY,underlying81->nJ,underlying9->nZ,zeroValue0->od,zeroValue120->ny,zeroValue121->nx,zeroValue174->nz,zeroValue202->nA,zeroValue203->nB,zeroValue207->nC,zeroValue210->nD,zeroValue212->nE,zeroValue231->nF,zeroValue235->nG,zeroValue252->nH,zeroValue253->nI,zeroValue3->og,zeroValue4->oh,zeroValue5->ol,zeroValue9->om
open List renaming all_eq_true->ay,append_toArray->gj,cons_append->aJ,length_cons->aq,length_nil->aV,nil_append->bo,push_toArray->gQ,size_toArray->bP
open Nat renaming le_refl->aj,le_trans->aM,reduceAdd->gZ,reduceSub->je
open Option renaming getD_some->aX
open Option.some renaming injEq->aa
set_option maxHeartbeats 16000000
namespace Dv.Tryz
open Go (Program)
open Go.RowKit
open Go (Value World Act Oper Operand Code Ending Exit MapEntry Fence CallsIn KeepsWalks)
noncomputable abbrev P:Program:=bd
def tl:List (Nat × Nat):=[(3,2),(4,7),(5,13),(9,53),(22,10),(23,9),(24,14),(26,0),(27,38),(28,6),(32,36),(33,3),(36,66),(39,70),(49,65),(51,72),(52,16),(54,15),(58,20),(60,19),(61,18),(63,17),(65,39),(69,37),(72,40),(81,75),(89,73),(91,71),(93,31),(95,29),(112,21),(121,67),(130,4),(132,28),(146,30),(150,1),(153,35),(157,32),(174,12),(177,56),(179,55),(183,33),(190,22),(195,11),(202,79),(210,78),(212,63),(213,76),(214,77),(217,74),(220,59),(222,58),(223,62),(231,82),(238,80),(242,81),(245,57),(248,26),(255,64)]
def fl:List (Nat × Nat):=[(4,432),(6,179),(7,2),(8,180),(9,340),(10,345),(11,350),(13,339),(14,184),(15,348),(16,318),(17,129),(18,61),(19,181),(20,191),(21,192),(22,15),(23,367),(24,368),(25,71),(26,369),(27,370),(28,324),(29,375),(30,316),(31,131),(32,352),(33,342),(34,346),(35,359),(36,193),(37,94),(38,199),(39,200),(40,194),(41,198),(42,195),(43,67),(44,69),(45,70),(46,72),(47,73),(48,74),(49,75),(50,76),(51,106),(52,385),(53,386),(54,105),(55,388),(56,387),(57,354),(58,355),(59,356),(60,139),(61,133),(62,150),(63,151),(64,325),(65,380),(66,113),(67,201),(68,202),(69,107),(71,361),(72,409),(73,331),(74,334),(75,335),(76,362),(77,142),(78,140),(79,165),(80,166),(81,167),(82,168),(83,22),(84,87),(85,3),(86,7),(87,169),(88,363),(89,96),(93,364),(94,365),(95,366),(96,264),(97,157),(98,172),(99,159),(100,158),(101,161),(102,160),(103,162),(104,175),(105,83),(106,84),(107,62),(108,14),(109,63),(110,176),(121,404),(122,383),(123,384),(124,281),(125,282),(126,173),(127,174),(128,66),(129,110),(130,68),(131,102),(132,122),(138,405),(139,406),(140,407),(141,297),(142,298),(143,312),(144,311),(145,299),(146,300),(147,104),(149,123)]
def T:Phi:=y92 tl
def F:Phi:=y92 fl
theorem types:y3i P E T:=ycj (by kernel_rfl)
theorem mixed:P.follows .mixedOrders=true:=by kernel_rfl
theorem ybm:y3j P F:=zlf (by kernel_rfl)
theorem l4:FnL P T F 4 f432:=zb tP
theorem l6:FnL P T F 6 f179:=zb tQ
theorem l7:FnL P T F 7 f2:=zb tR
theorem l8:FnL P T F 8 f180:=zb tS
theorem l9:FnL P T F 9 f340:=zb tT
theorem l10:FnL P T F 10 f345:=zb rx
theorem l11:FnL P T F 11 f350:=zb ry
theorem l13:FnL P T F 13 f339:=zb rz
theorem l14:FnL P T F 14 f184:=zb rA
theorem l15:FnL P T F 15 f348:=zb rB
theorem l16:FnL P T F 16 f318:=zb rC
theorem l17:FnL P T F 17 f129:=zb rD
theorem l18:FnL P T F 18 f61:=zb rE
theorem l19:FnL P T F 19 f181:=zb rF
theorem l20:FnL P T F 20 f191:=zb rG
theorem l21:FnL P T F 21 f192:=zb rH
theorem l22:FnL P T F 22 f15:=zb rI
theorem l23:FnL P T F 23 f367:=zb rJ
theorem l24:FnL P T F 24 f368:=zb rK
theorem l25:FnL P T F 25 f71:=zb rL
theorem l26:FnL P T F 26 f369:=zb rM
theorem l27:FnL P T F 27 f370:=zb rN
theorem l28:FnL P T F 28 f324:=zb rO
theorem l29:FnL P T F 29 f375:=zb rP
theorem l30:FnL P T F 30 f316:=zb rQ
theorem l31:FnL P T F 31 f131:=zb rR
theorem l32:FnL P T F 32 f352:=zb rS
theorem l33:FnL P T F 33 f342:=zb rT
theorem l34:FnL P T F 34 f346:=zb rU
theorem l35:FnL P T F 35 f359:=zb rV
theorem l36:FnL P T F 36 f193:=zb rW
theorem l37:FnL P T F 37 f94:=zb rX
theorem l38:FnL P T F 38 f199:=zb rY
theorem l39:FnL P T F 39 f200:=zb rZ
theorem l40:FnL P T F 40 f194:=zb r9
theorem l41:FnL P T F 41 f198:=zb sa
theorem l42:FnL P T F 42 f195:=zb sb
theorem l43:FnL P T F 43 f67:=zb sc
theorem l44:FnL P T F 44 f69:=zb sd
theorem l45:FnL P T F 45 f70:=zb se
theorem l46:FnL P T F 46 f72:=zb sf
theorem l47:FnL P T F 47 f73:=zb sg
theorem l48:FnL P T F 48 f74:=zb kj
theorem l49:FnL P T F 49 f75:=zb si
theorem l50:FnL P T F 50 f76:=zb sj
theorem l51:FnL P T F 51 f106:=zb sm
theorem l52:FnL P T F 52 f385:=zb sn
theorem l53:FnL P T F 53 f386:=zb km
theorem l54:FnL P T F 54 f105:=zb kn
theorem l56:FnL P T F 56 f387:=zb so
theorem l57:FnL P T F 57 f354:=zb sq
theorem l58:FnL P T F 58 f355:=zb sw
theorem l60:FnL P T F 60 f139:=zb sx
theorem l61:FnL P T F 61 f133:=zb sy
theorem l62:FnL P T F 62 f150:=zb sA
theorem l63:FnL P T F 63 f151:=zb sB
theorem l64:FnL P T F 64 f325:=zb sC
theorem l65:FnL P T F 65 f380:=zb sD
theorem l66:FnL P T F 66 f113:=zb sE
theorem l67:FnL P T F 67 f201:=zb sF
theorem l68:FnL P T F 68 f202:=zb sG
theorem l69:FnL P T F 69 f107:=zb ko
theorem l72:FnL P T F 72 f409:=zb io
theorem l73:FnL P T F 73 f331:=zb sH
theorem l74:FnL P T F 74 f334:=zb sI
theorem l75:FnL P T F 75 f335:=zb sJ
theorem l76:FnL P T F 76 f362:=zb kp
theorem l77:FnL P T F 77 f142:=zb sK
theorem l78:FnL P T F 78 f140:=zb sL
theorem l80:FnL P T F 80 f166:=zb sM
theorem l81:FnL P T F 81 f167:=zb sN
theorem l82:FnL P T F 82 f168:=zb sO
theorem l83:FnL P T F 83 f22:=zb sP
theorem l84:FnL P T F 84 f87:=zb sQ
theorem l85:FnL P T F 85 f3:=zb sR
theorem l86:FnL P T F 86 f7:=zb sS
theorem l87:FnL P T F 87 f169:=zb sT
theorem l88:FnL P T F 88 f363:=zb sU
theorem l93:FnL P T F 93 f364:=zb sV
theorem l94:FnL P T F 94 f365:=zb sW
theorem l95:FnL P T F 95 f366:=zb sX
theorem l96:FnL P T F 96 f264:=zb sY
theorem l97:FnL P T F 97 f157:=zb sZ
theorem l98:FnL P T F 98 f172:=zb s7
theorem l99:FnL P T F 99 f159:=zb s8
theorem l100:FnL P T F 100 f158:=zb pT
theorem l101:FnL P T F 101 f161:=zb pU
theorem l102:FnL P T F 102 f160:=zb pV
theorem l103:FnL P T F 103 f162:=zb pW
theorem l104:FnL P T F 104 f175:=zb pX
theorem l105:FnL P T F 105 f83:=zb pY
theorem l106:FnL P T F 106 f84:=zb pZ
theorem l107:FnL P T F 107 f62:=zb p5
theorem l108:FnL P T F 108 f14:=zb p6
theorem l109:FnL P T F 109 f63:=zb p7
theorem l110:FnL P T F 110 f176:=zb p8
theorem l121:FnL P T F 121 f404:=zb p9
theorem l122:FnL P T F 122 f383:=zb qa
theorem l124:FnL P T F 124 f281:=zb qc
theorem l125:FnL P T F 125 f282:=zb qd
theorem l126:FnL P T F 126 f173:=zb qe
theorem l127:FnL P T F 127 f174:=zb qf
theorem l128:FnL P T F 128 f66:=zb qg
theorem l129:FnL P T F 129 f110:=zb qh
theorem l130:FnL P T F 130 f68:=zb qi
theorem l131:FnL P T F 131 f102:=zb qj
theorem l132:FnL P T F 132 f122:=zb qk
theorem l138:FnL P T F 138 f405:=zb qm
theorem l139:FnL P T F 139 f406:=zb qo
theorem l140:FnL P T F 140 f407:=zb qp
theorem l141:FnL P T F 141 f297:=zb qq
theorem l142:FnL P T F 142 f298:=zb qr
theorem l143:FnL P T F 143 f312:=zb qs
theorem l144:FnL P T F 144 f311:=zb qu
theorem l145:FnL P T F 145 f299:=zb qv
theorem l146:FnL P T F 146 f300:=zb qw
theorem l147:FnL P T F 147 f104:=zb qx
theorem l149:FnL P T F 149 f123:=zb qy
section
open Go Go.Proofs Go.RowKit
set_option maxRecDepth 100000 in
theorem zrz(base:Option Addr)(w:World):Calls bd 123 #[.slice base 0 0,.int .i64 0] w fun e w'=>e=.returned (.slice base 0 0)/\w'=w:=by
 go_enter jP,jz
 go_wp2
 go_ret
 exact⟨rfl,rfl⟩
set_option maxRecDepth 100000 in
theorem zs0(i0:TypeInfo)(z:Value)(hi0:bd.info? 5=some i0)(hz0:i0.zero=some z)(hs0:0<i0.size)(base:Option Addr)(n:Nat)(w:World)(hroom:0<n)(hbig:n*i0.bytes<=140737488355328)(h63:n<=4611686018427387904) :
  Calls bd 123 #[.slice base 0 0,.int .i64 n] w fun e w'=>e=.returned (.slice (some ⟨w.heap.size,0,none⟩) 0 (grownCap w n 0 5)) /\
   w'=w.drew.alloc (.cells (Builtin.zeroCells z.cells n++Builtin.zeroCells z.cells (grownCap w n 0 5 - n)) 5):=by
 have h1 : ¬ ((n:Int)<0):=by omega
 have h4:(n:Int) > 0:=by omega
 have hw0:wrap64 (n:Int)=(n:Int):=by unfold wrap64;omega
 have hrz:∀ ty,(Builtin.append_ #[146,3] ty #[.slice base 0 0,.int .i64 (n:Int)]).run bd w =
   .ok (.slice (some ⟨w.heap.size,0,none⟩) n (grownCap w n 0 5)) (w.drew.alloc (.cells (Builtin.zeroCells z.cells n++Builtin.zeroCells z.cells (grownCap w n 0 5 - n)) 5)):=fun ty=>by
  have y57:(Builtin.firstCells i0.size 0 (.slice base 0 0)).run bd w.drew=.ok ([]:List Value).toArray w.drew:=by
   cases base with
   |none=>exact run_firstCells_none w.drew i0.size 0 0 0
   |some a=>exact run_firstCells_some w.drew i0.size 0 a 0 0 [] (by simp) (fun j v hj=>by simp at hj)
  have h:=Lib.run_append_grow_zeros w 146 3 ty 5 i0 z .i64 .i64 (by kernel_rfl) (by kernel_rfl) hi0 hz0 base 0 0 [] y57 n (by omega) hs0 (by omega) (by omega)
   (by omega) (by rw[Nat.zero_add];exact growslice_fits hroom hbig)
  simpa using h
 go_enter jP,jz
 go_wp2_with (at_builtin;refine Lib.wpList_append_run _ rfl _ _ _ _ rfl _ _ rfl rfl _ _ (hrz _) ?_)
 all_goals (go_ret;exact⟨rfl,rfl⟩)
end
theorem zc7(z:Array Go.Value)(n:Nat):(cm z n).size=n*z.size:=by simp[cm]
theorem z7r:∀{l:List Go.Value} {ds:List D},y2h l=some ds->l.length=ds.length
 |[],ds,h=>by simp[y2h]at h;subst h;rfl
 |v::l,ds,h=>by
  simp only[y2h]at h;split at h
  ·rename_i d r h1 h2;simp only[aa]at h;subst h;simp[z7r h2]
  ·simp at h
theorem yhg:yc7 P 123 (E.ty 13).bytes (E.ty 13).size:=by
 obtain⟨i0,hi0,hsz,hby,hz⟩:=(types 5 13 rfl).info;obtain⟨z,hz0,hzl,_⟩:=hz (by decide) (by decide)
 have hzs:z.cells.size=(E.ty 13).size:=by have:=z7r hzl;rw[cO]at this;rw[this];decide
 have hpos:0<i0.size:=by rw[hsz];decide
 rw[<- hsz,<- hby];constructor
 ·intro base w;exact zrz base w
 ·intro base n w hn hb hn2;have:=zs0 i0 z hi0 hz0 hpos base n w hn hb hn2;have hG:=Go.grownCap_ge w n 0 5;generalize Go.grownCap w n 0 5=G at this hG;refine this.mono ?_;rintro e w' ⟨rfl,rfl⟩;refine⟨G,5,_,?_,rfl,rfl,⟨rfl,rfl,rfl,Nat.le_succ _⟩⟩;simp only[Array.size_append,zc7,hzs,hsz];rw[<- Nat.add_mul,show n+(G - n)=G from by omega]
theorem l123:y7x P E T F (33,0) 123 384:=znw (c:=30) (i:=2) (e:=13) (G:=f384) rfl rfl rfl rfl yhg
def yct:Go.Shelf.Ren:={ f:=fun | 6=>71 | 15=>92 | 14=>91 | 28=>119 | 29=>120 | 20=>111 | 21=>112 | 22=>113 | 23=>114 | 24=>115 | 25=>116 | 26=>117 | 27=>118 | 46=>133 | 47=>134 | 48=>135 | 49=>136 | 50=>137 | 57=>148 | n=>n,t:=fun | 22=>121 | 24=>49 | 25=>120 | 3=>3 | 39=>174 | 0=>0 | 53=>210 | 55=>212 | 4=>4 | 46=>203 | 45=>202 | 50=>207 | 5=>5 | 9=>9 | 66=>231 | 70=>235 | 76=>252 | 77=>253 | n=>n,g:=fun n=>n }
set_option maxRecDepth 100000 in
theorem yak:kq P yct where
 mixed:=mixed
 f6:=⟨ "slices.SortFunc[[]overflight/api.Account,overflight/api.Account]",by decide,s9.trans (congrArg some (by kernel_rfl))⟩
 f14:=⟨ "slices.pdqsortCmpFunc[overflight/api.Account]",by decide,ta.trans (congrArg some (by kernel_rfl))⟩
 f15:=td.trans (congrArg some (by kernel_rfl))
 f20:=⟨ "slices.insertionSortCmpFunc[overflight/api.Account]",by decide,qz.trans (congrArg some (by kernel_rfl))⟩
 f21:=⟨ "slices.heapSortCmpFunc[overflight/api.Account]",by decide,qA.trans (congrArg some (by kernel_rfl))⟩
 f22:=⟨ "slices.breakPatternsCmpFunc[overflight/api.Account]",by decide,qB.trans (congrArg some (by kernel_rfl))⟩
 f23:=⟨ "slices.choosePivotCmpFunc[overflight/api.Account]",by decide,qC.trans (congrArg some (by kernel_rfl))⟩
 f24:=⟨ "slices.reverseRangeCmpFunc[overflight/api.Account]",by decide,qD.trans (congrArg some (by kernel_rfl))⟩
 f25:=⟨ "slices.partialInsertionSortCmpFunc[overflight/api.Account]",by decide,qF.trans (congrArg some (by kernel_rfl))⟩
 f26:=⟨ "slices.partitionEqualCmpFunc[overflight/api.Account]",by decide,qG.trans (congrArg some (by kernel_rfl))⟩
 f27:=⟨ "slices.partitionCmpFunc[overflight/api.Account]",by decide,qH.trans (congrArg some (by kernel_rfl))⟩
 f28:=qI.trans (congrArg some (by kernel_rfl))
 f29:=qJ.trans (congrArg some (by kernel_rfl))
 f46:=⟨ "slices.siftDownCmpFunc[overflight/api.Account]",by decide,qK.trans (congrArg some (by kernel_rfl))⟩
 f47:=qL.trans (congrArg some (by kernel_rfl))
 f48:=qM.trans (congrArg some (by kernel_rfl))
 f49:=⟨ "slices.medianAdjacentCmpFunc[overflight/api.Account]",by decide,qN.trans (congrArg some (by kernel_rfl))⟩
 f50:=⟨ "slices.medianCmpFunc[overflight/api.Account]",by decide,qO.trans (congrArg some (by kernel_rfl))⟩
 f57:=⟨ "slices.order2CmpFunc[overflight/api.Account]",by decide,qP.trans (congrArg some (by kernel_rfl))⟩
 t0:=nV
 a0:=te
 z0:=qQ
 v0:=od
 t3:=nW
 a3:=tf
 z3:=qR
 v3:=og
 t4:=nX
 a4:=th
 z4:=qT
 v4:=oh
 t5:=nY
 a5:=ti
 z5:=qU
 v5:=ol
 t9:=nZ
 a9:=tj
 z9:=qV
 v9:=om
 t22:=iS
 a22:=pj
 z22:=oR
 v22:=nx
 t25:=nc
 a25:=pm
 z25:=oT
 v25:=ny
 t39:=nf
 a39:=pn
 z39:=oU
 v39:=nz
 t45:=ng
 a45:=pq
 z45:=oV
 v45:=nA
 t46:=nh
 a46:=pu
 z46:=oW
 v46:=nB
 t50:=ni
 a50:=pw
 z50:=oY
 v50:=nC
 t53:=nj
 a53:=pz
 z53:=oZ
 v53:=nD
 t55:=nk
 a55:=pB
 z55:=o5
 v55:=nE
 t66:=nl
 a66:=pD
 z66:=o6
 v66:=nF
 t70:=nn
 a70:=pE
 z70:=o7
 v70:=nG
 t76:=np
 a76:=pF
 z76:=o8
 v76:=nH
 t77:=nq
 a77:=pG
 z77:=o9
 v77:=nI
def flA:List (Nat × Nat):=[(48,74),(53,386),(54,105),(69,107),(76,362)]
def FA:Phi:=y92 flA
theorem yhm:y3j P FA:=zlf (by kernel_rfl)
theorem a48:FnL P T FA 48 f74:=zb kj
theorem a53:FnL P T FA 53 f386:=zb km
theorem a54:FnL P T FA 54 f105:=zb kn
theorem a69:FnL P T FA 69 f107:=zb ko
theorem a76:FnL P T FA 76 f362:=zb kp
theorem tieA:Tie P E T FA:=zyf (pt:=(33,0)) types mixed yhm (y1b (z8 a48 rfl) (y1b (z8 a53 rfl) (y1b (z8 a54 rfl) (y1b (z8 a69 rfl) (y1b (z8 a76 rfl) (alln))))))
theorem yi1(a b c d:Int):orI [y3q a c,y3q b d]=cfP (a,b) (c,d):=by
 unfold cfP y3q;simp only[orI]
 repeat' split
 all_goals first | rfl | omega
theorem yax:y9a P 53:=y9a.of_sim tieA (g:=53) (g':=386) rfl fun a b c d=>by rw[<- yi1];exact z8h (ykt a b c d)
theorem yen:y9a P 76:=y9a.of_sim tieA (g:=76) (g':=362) rfl fun a b c d=>by rw[<- yi1];exact z8h (yku a b c d)
theorem cmpN(g k:Nat)(h:F g=some k)(hk:[362,386].contains k=true):g=53\/g=76:=by
 have h1:=z51 h;have h2:(fl.all fun p=>![362,386].contains p.2 || p.1 == 53 || p.1 == 76)=true:=by decide +kernel
 have h3:=ay.1 h2 _ h1;simp only[hk,kJ,gX]at h3;simpa using h3
theorem l71:y7x P E T F (33,0) 71 361:=zme (p:=0) (cmp:=[362,386]) (G:=f361) rfl rfl rfl rfl
 (fun g k h hk=>by
  rcases cmpN g k h hk with rfl | rfl
  ·exact y66.of yak rfl gV gM yax
  ·exact y66.of yak rfl gV gM yen)
 (fun p cap fv w=>gJ yak p cap fv w)
set_option maxRecDepth 100000 in
theorem zvq(F:Fence)(n:Nat)(h10:F.fn 72)(hro:F.round=none)(hn:1<=n)(l Bm off b clock:Nat)(es:Array MapEntry)(ks:List (Int × Int))(hst:y3r es clock)(hks:es.toList.map (fun e=>e.key)=ks.map y7z)(J:List (Int × Int)->World->Prop)
  (hY:∀ pre x W,J pre W->pre.length<ks.length->mP F (n - 1) bd l #[y7z x] W fun e W'=>e=.returned (.bool true)/\J (pre++[x]) W'/\KeepsWalks W W')
  (W:World) (hJ:y9b W.heap.size J) (hm:W.cell? ⟨Bm,off,none⟩=some (.map (some b))) (hb:W.heap[b]? = some (.map es clock)) (h0:J [] W) :
  CallsIn F n bd 72 #[.func (.yield l) #[] #[],.pointer (some ⟨Bm,off,none⟩)] W fun e W'=>(∃ v,e=.returned v) /\ ∃ ss:List (Int × Int),ss.Perm ks/\J ss W':=by
 refine jw io rfl h10 ?_ hro;simp only[qW,bP,aq,aV,gZ,je,eH,f9,gQ,gj,bo,aJ]
 gi_wp2_with (first
  |(gi_at_range;refine yca _ rfl _ 81 49 3 rfl nJ b es clock rfl hb ?_;intro w0 hb0 hr0 hg0 hs0 hd0)
  |gi_in)
 go_frame
 gi_loopw [3] (fun _ wr=>∃(seen:Array Nat) (ss:List (Int × Int)),wr.heap[b]? = some (.map es clock)/\wr.heap[W.heap.size]? = some (.mapIter (some b) clock seen clock)/\y5y ks es.toList seen ss/\J ss wr)
  (fun _ wr=>wr.rangeLeft b W.heap.size)
 case atStart=>exact⟨#[],[],hb0,hr0,by unfold y5y y4k;rw[List.map_nil,bo,<- hks,List.filter_eq_self.2 (by simp)],hJ [] W w0 none h0 hg0 hd0 (fun r e=>by cases e)⟩
 case round=>
  obtain⟨seen,ss,hbr,hrr,hC,hJs⟩:=hrel
  gi_wp2_with (first
   |(gi_at_next;refine yg6 _ rfl _ rfl b W.heap.size clock es seen hst rfl hbr hrr ?_ ?_)
   |gi_in)
  ·intro hl
   gi_wp2
   go_end0
   exact⟨⟨_,rfl⟩,ss,hC.done hl,hJs⟩
  ·intro e w2 he hb2 hr2 hg2 hs2 hd2 hen;have hlen:=hC.len;obtain⟨x,hx⟩:=hC.key he;have hC2:=hC.step hst.2 he hx;have hlt:ss.length<ks.length:=by have:0<(y4k es.toList seen).length:=List.length_pos_of_mem he;omega
   obtain⟨key,val,born⟩:=e;simp only at hx hen hr2 hC2;subst hx;have hJ2:J ss w2:=hJ ss wr w2 (some W.heap.size) hJs hg2 hd2 (fun r e=>by cases e;exact⟨aj _,_,hrr,rfl⟩)
   have hJ3:J ss (w2.alloc (.cells #[.int .i64 x.1,.int .i64 x.2] 49)):=hJ ss w2 _ none hJ2 (Go.World.grownBy_alloc w2 _ none) (aj _) (fun r e=>by cases e)
   have hb3:(w2.alloc (.cells #[.int .i64 x.1,.int .i64 x.2] 49)).heap[b]? = some (.map es clock):=(Below.heap_alloc _ _ b (z28 hb2)).trans hb2;have hr3:(w2.alloc (.cells #[.int .i64 x.1,.int .i64 x.2] 49)).heap[W.heap.size]? = some (.mapIter (some b) clock (seen.push born) clock):=(Below.heap_alloc _ _ W.heap.size (z28 hr2)).trans hr2;obtain⟨fn,tmps,assign,body,hy,hR⟩:=hY ss x _ hJ3 hlt;clear hs2 hd2
   gi_wp2
   refine hR.mono ?_;rintro e W3 ⟨rfl,hJ3,hk3⟩
   gi_wp2
   have hb4:=hk3.same b _ hb3 rfl;have hr4:=hk3.same W.heap.size _ hr3 rfl
   go_roundw
   case rel=>exact⟨seen.push born,ss++[x],hb4,hr4,hC2,hJ3⟩
   case measure=>have hlen2:=hC2.len;unfold Go.World.rangeLeft;rw[hb4,hr4,hbr,hrr];simp only[];rw[<- cO,<- cO,z54,z54];simp only[List.length_append,aq,aV]at hlen2;omega
theorem zne(F:Fence)(n:Nat)(h10:F.fn 72)(hro:F.round=none)(hn:1<=n)(Bm off b clock:Nat)(es:Array MapEntry)(ks:List (Int × Int))(hst:y3r es clock)(hks:es.toList.map (fun e=>e.key)=ks.map y7z)(w:World)(hBm:Bm<w.heap.size)
  (hm:w.cell? ⟨Bm,off,none⟩=some (.map (some b))) (hb:w.heap[b]? = some (.map es clock)) :
  yly F n bd 72 #[.pointer (some ⟨Bm,off,none⟩)] (fun ss=>ss.Perm ks) ks.length w:=fun l J W hW hJ hY h0=>
 zvq F n h10 hro hn l Bm off b clock es ks hst hks J hY W hJ ((hW.cell (p:=⟨Bm,off,none⟩) hBm).trans hm) ((hW.block b (z28 hb)).trans hb) h0
def y7u:Code->Code × Code
 |.seq _ (.seq (.seq _ (.block _ (.rangeFunc _ _ a b))) _)=>(a,b)
 |_=>(.skip,.skip)
noncomputable def ylw:Code:=(y7u (gD.body.getD .skip)).1
noncomputable def ylv:Code:=(y7u (gD.body.getD .skip)).2
noncomputable def y6n(fn:Nat)(sv:Value)(Bs D:Nat)(st:Go.LoopState)(pend:Option Code):Go.Loop:=
 { state:=st,pending:=pend,fn,tmps:=#[.slice none 0 0,sv,.pointer (some ⟨Bs,0,none⟩),bq,.slice none 0 0,bq,sv,bq,bq,bq,bq,bq,bq],params:=#[7],assign:=ylw,body:=ylv,defers:=D }
structure yfx(w0:World)(fn:Nat)(sv:Value)(Bs l D:Nat)(ss:List (Int × Int))(W:World):Prop where
 box:∃ v,W.heap[Bs]? = some (.cells #[v] 121 (0,0))/\W.ownsRow w0.heap.size 49 2 v ss.length (ss.flatMap y4x)/\(v=.slice none 0 0 ↔ ss=[])
 L:W.heap[l]? = some (.loop (y6n fn sv Bs D .ready none))
 K:W.heap[D]? = some (.deferred (some []))
 below:Below w0.heap.size w0 W
 dr:w0.drawn<=W.drawn
theorem zhm(w0:World)(fn:Nat)(sv:Value)(Bs l D B:Nat)(hB:w0.heap.size<=B):y9b B (yfx w0 fn sv Bs l D):=fun s W W' row h hg hd hrow=>by
 have hrow':∀ r,row=some r->∃ o:Go.Obj,W.heap[r]? = some o/\o.isWalk=true:=fun r e=>(hrow r e).2
 obtain⟨v,hv,hr,hn⟩:=h.box;exact⟨⟨v,(jx hg hrow' hv rfl).trans hv,zmj hr hg hrow',hn⟩,(jx hg hrow' h.L rfl).trans h.L,(jx hg hrow' h.K rfl).trans h.K,
  h.below.grown hg h.below.size (fun k e=>aM hB (hrow k e).1),aM h.dr hd⟩
theorem ylg:(bd.info? 49).map (fun i=>(i.zero,i.size,i.bytes))=some (some (.agg #[.int .i64 0,.int .i64 0]),2,16):=by kernel_rfl
set_option maxRecDepth 100000 in
theorem yfa(F:Fence)(m:Nat)(w0:World)(fn:Nat)(hfn:F.fn fn)(sv:Value)(Bs l D:Nat)(hBl:Bs ≠ l)(hDl:D ≠ l)(hDB:D ≠ Bs)(h0B:w0.heap.size<=Bs)(h0l:w0.heap.size<=l)
  (N:Nat) (hN:N<=fK) (hNb:N*16<=140737488355328) (ss:List (Int × Int)) (x:Int × Int) (W0:World) (h0:yfx w0 fn sv Bs l D ss W0) (hlen:ss.length<N) :
  mP F m bd l #[y7z x] W0 fun e W'=>e=.returned (.bool true)/\yfx w0 fn sv Bs l D (ss++[x]) W'/\KeepsWalks W0 W':=by
 obtain⟨i0,hi,hz0,hz1,hz2⟩:=Go.info_parts ylg;have h1:yfx w0 fn sv Bs l D ss (W0.alloc (.cells #[.int .i64 x.1,.int .i64 x.2] 49)):=zhm w0 fn sv Bs l D W0.heap.size h0.below.size ss W0 _ none h0 (World.grownBy_alloc W0 _ none) (aj _) (fun r e=>by cases e)
 refine⟨fn,#[.slice none 0 0,sv,.pointer (some ⟨Bs,0,none⟩),bq,.slice none 0 0,bq,sv,y7z x,bq,bq,bq,bq,bq],ylw,ylv,by simpa[y6n]using Go.run_yield (P:=bd) (args:=#[y7z x]) h0.L rfl,Go.roundIn_of_wpIn hfn ?_⟩
 obtain⟨W,hW⟩:∃ W,W=W0.alloc (.cells #[.int .i64 x.1,.int .i64 x.2] 49):=⟨_,rfl⟩;rw[<- hW]at h1;have hdr0:w0.drawn<=W.drawn:=by rw[hW];exact h0.dr
 have hk0:KeepsWalks W0 W:=by rw[hW];exact KeepsWalks.alloc _ _
 obtain⟨v,hv,hrow,_⟩:=h1.box;have hl:l<W.heap.size:=(aG.1 h1.L).1;have hbr:=Go.run_beginRound (P:=bd) h1.L rfl;obtain⟨W2,hW2⟩:∃ W2,W.putObj l (.loop { y6n fn sv Bs D .ready none with state:=.busy })=W2:=⟨_,rfl⟩;rw[hW2]at hbr;have hg2:W.grownBy W2 (some l):=by rw[<- hW2];exact y4v _ _ _
 have hk2:KeepsWalks W W2:=by rw[<- hW2];exact KeepsWalks.putObj _ h1.L rfl
 have hv2:W2.heap[Bs]? = some (.cells #[v] 121 (0,0)):=by rw[<- hW2];exact(World.putObj_heap_other hBl).trans hv
 have hK2:W2.heap[D]? = some (.deferred (some [])):=by rw[<- hW2];exact(World.putObj_heap_other hDl).trans h1.K
 have hL2:W2.heap[l]? = some (.loop { y6n fn sv Bs D .ready none with state:=.busy }):=by rw[<- hW2];exact World.putObj_heap_same hl
 have hrow2:W2.ownsRow w0.heap.size 49 2 v ss.length (ss.flatMap y4x):=hrow.kept hg2 (zcv hrow h1.L (fun cur e=>by cases e))
 have hb2:Below w0.heap.size w0 W2:=h1.below.grown hg2 h1.below.size (fun k e=>by cases e;exact h0l)
 have hl0:l<W0.heap.size:=(aG.1 h0.L).1;have hxb:W2.heap[W0.heap.size]? = some (.cells #[.int .i64 x.1,.int .i64 x.2] 49 (0,0)):=by rw[<- hW2,hW];exact(World.putObj_heap_other (by omega)).trans (World.alloc_heap_new W0 _)
 have hx1:W2.cell? ⟨W0.heap.size,0,none⟩=some (.int .i64 x.1):=by simp[World.cell?,hxb]
 have hx2:W2.cell? ⟨W0.heap.size,1,none⟩=some (.int .i64 x.2):=by simp[World.cell?,hxb]
 obtain⟨hc2,hf2⟩:=zfb hv2;have hBlt:Bs<W2.heap.size:=(aG.1 hv2).1;have hl2:l<W2.heap.size:=(aG.1 hL2).1;have hDlt:D<W2.heap.size:=(aG.1 hK2).1;have ne_of:∀{j:Nat} {o:Go.Obj},W2.heap[j]? = some o->(∀ cur,o ≠ .cells cur 49 (0,0))->some j ≠ v.ownBlock:=fun hj hno=>by
  rcases zcv hrow2 hj hno with e | e
  ·rw[e];simp
  ·exact fun e'=>e e'.symm
 have hdr2:w0.drawn<=W2.drawn:=by rw[<- hW2];exact hdr0
 clear hW2;unfold ylw;simp only[gD,y7u,aX];rw[hW]at hbr
 gi_wp2_with (rw[cK _ _ _ (fun c h=>by cases h)];go_simp;try go_bits)
 unfold ylv;simp only[gD,y7u,aX]
 gi_wp2_with (first
  |(
   gi_at_builtin;refine yg7 (hg:=rfl) _ _ _ 121 rfl w0.heap.size 49 i0 (.agg #[.int .i64 0,.int .i64 0]) 2 16 iS hi hz0 hz1 hz2 rfl (by decide) _ _ _ rfl (hrow2.alloc _) ⟨W2.heap.size,0,none⟩ 1 1 (y4x x) rfl rfl (zv8 W2 x 49) (by intro u hu;simp at hu;rcases hu with rfl | rfl <;> rfl) (by omega) (by omega) (by have:=hb2.size;simp;omega) ?_;intro v' w3 hown' hg3 hd3
   have hv3:w3.heap[Bs]? = some (.cells #[v] 121 (0,0)):=(hg3.block Bs (by simp;omega) (ne_of hv2 (fun cur e=>by cases e))).trans ((Below.heap_alloc _ _ Bs hBlt).trans hv2)
   obtain⟨hc3,hf3⟩:=zfb hv3;obtain⟨g',cap',cur',rfl,hbase',hgb',hr1,hr2,hr3,hr4⟩:∃ g' cap' cur',v'=.slice (some ⟨g',0,none⟩) (ss.length+1) cap'/\w0.heap.size<=g'/\w3.heap[g']? = some (.cells cur' 49 (0,0))/\ss.length+1<=cap'/\cap'<=fK/\cur'.size=cap'*2/\cur'.toList.take ((ss.length+1)*2)=ss.flatMap y4x++y4x x:=by
    rcases hown'.2 with⟨_,h0⟩ | h'
    ·exact absurd h0 (by omega)
    ·exact h'
   go_frame)
  |(rw[cK _ _ _ (fun c h=>by cases h)];go_simp;try go_bits))
 have hg3':(W2.alloc (.cells #[.int .i64 x.1,.int .i64 x.2] 49)).grownBy w3 v.ownBlock:=hg3;have hL3:w3.heap[l]? = some (.loop { y6n fn sv Bs D .ready none with state:=.busy }):=(hg3'.block l (by simp;omega) (ne_of hL2 (fun cur e=>by cases e))).trans ((Below.heap_alloc _ _ l hl2).trans hL2)
 have hK3:w3.heap[D]? = some (.deferred (some [])):=(hg3'.block D (by simp;omega) (ne_of hK2 (fun cur e=>by cases e))).trans ((Below.heap_alloc _ _ D hDlt).trans hK2)
 obtain⟨w4,hw4⟩:∃ w4,w3.setCell ⟨Bs,0,none⟩ (.slice (some ⟨g',0,none⟩) (ss.length+1) cap')=w4:=⟨_,rfl⟩;rw[hw4];have hg4:w3.grownBy w4 (some Bs):=by rw[<- hw4];exact ybl _ _ _
 have hv4:w4.heap[Bs]? = some (.cells #[.slice (some ⟨g',0,none⟩) (ss.length+1) cap'] 121 (0,0)):=by rw[<- hw4];exact yeu _ hv3
 have hL4:w4.heap[l]? = some (.loop { y6n fn sv Bs D .ready none with state:=.busy }):=(hg4.block l (aG.1 hL3).1 (fun e=>hBl (by cases e;rfl))).trans hL3
 have hK4:w4.heap[D]? = some (.deferred (some [])):=(hg4.block D (aG.1 hK3).1 (fun e=>hDB (by cases e;rfl))).trans hK3
 have hrow4:=hown'.kept hg4 (zcv hown' hv3 (fun cur e=>by cases e))
 have hl4:l<w4.heap.size:=(aG.1 hL4).1;have hb3:Below w0.heap.size w0 w3:=(hb2.alloc hb2.size _).grown hg3' (by have:=hb2.size;simp;omega) (fun k e=>(hrow2.lt k e).1)
 have hb4:Below w0.heap.size w0 w4:=hb3.grown hg4 hb3.size (fun k e=>by cases e;exact h0B)
 have hk4:KeepsWalks W0 w4:=(hk0.trans hk2).trans (((KeepsWalks.alloc _ _).trans (KeepsWalks.of_grownBy hg3' (zgc (hrow2.alloc _)))).trans (by rw[<- hw4];exact KeepsWalks.setCell _ _ _))
 have hdr4:w0.drawn<=w4.drawn:=by rw[<- hw4];exact aM hdr2 hd3
 clear hw4;refine⟨_,_,Go.run_endRound none hL4,rfl,⟨⟨_,(World.putObj_heap_other hBl).trans hv4,?_,by simp⟩,World.putObj_heap_same hl4,(World.putObj_heap_other hDl).trans hK4,hb4.grown (y4v _ _ _) hb4.size (fun k e=>by cases e;exact h0l),hdr4⟩,hk4.trans (KeepsWalks.putObj _ hL4 rfl)⟩
 have:=hrow4.kept (y4v w4 l (.loop { { y6n fn sv Bs D .ready none with state:=.busy } with state:=if(none:Option Code).isNone then .ready else .done,pending:=none })) (zcv hrow4 hL4 (fun cur e=>by cases e))
 simpa using this
set_option maxRecDepth 100000 in
theorem zhl(F:Fence)(n:Nat)(h11:F.fn 90)(hro:F.round=none)(hn:2<=n)(g:Nat)(lb:Array Value)(hFg:F.fn g)(eg:∀ args w,(iT g args).run bd w=.ok (.enter g args) w)
  (S:List (Int × Int)->Prop) (N:Nat) (hN:N<=fK) (hNb:N*16<=140737488355328) (w:World) (hseq:yly F (n - 1) bd g lb S N w) :
  CallsIn F n bd 90 #[.slice none 0 0,.func (.func g) #[] lb] w fun e w'=>∃(v:Value) (ss:List (Int × Int)),e=.returned v/\S ss/\w'.ownsRow w.heap.size 49 2 v ss.length (ss.flatMap y4x)/\(v=.slice none 0 0 ↔ ss=[])/\Below w.heap.size w w'/\w.drawn<=w'.drawn:=by
 have h1:1<=n:=by omega
 refine Go.callsIn_of_wp_marks tm rfl h11 ?_ hro;simp only[qY,bP,aq,aV,gZ,je,eH,f9,gQ,gj,bo,aJ]
 gi_wp2
 refine Go.wpIn_rangeFunc ?_;intro fn hfn;rw[hro];obtain⟨W0,hW0⟩:∃ W0,w.alloc (.cells #[.slice none 0 0] 121)=W0:=⟨_,rfl⟩;have hs0:W0.heap.size=w.heap.size+1:=by rw[<- hW0];simp
 have hv0:W0.heap[w.heap.size]? = some (.cells #[.slice none 0 0] 121 (0,0)):=by rw[<- hW0];exact World.alloc_heap_new w _
 have hb0:Below w.heap.size w W0:=by rw[<- hW0];exact(Below.refl _ w).alloc (aj _) _
 have hd0:w.drawn=W0.drawn:=by rw[<- hW0];rfl
 rw[hW0];obtain⟨W1,hW1⟩:∃ W1,(W0.alloc (.deferred (some []))).alloc (.loop (y6n fn (.func (.func g) #[] lb) w.heap.size W0.heap.size .ready none))=W1:=⟨_,rfl⟩;have y57:∀ k,k<W0.heap.size->W1.heap[k]? = W0.heap[k]?:=fun k hk=>by rw[<- hW1];exact(Below.heap_alloc _ _ k (by simp;omega)).trans (Below.heap_alloc _ _ k hk)
 have hb1:Below w.heap.size w W1:=by rw[<- hW1];exact(hb0.alloc hb0.size _).alloc (by have:=hb0.size;simp;omega) _
 have hs1:W1.heap.size=W0.heap.size+2:=by rw[<- hW1];simp
 have hM:yfx w fn (.func (.func g) #[] lb) w.heap.size (W0.heap.size+1) W0.heap.size [] W1:=
  ⟨⟨_,(y57 w.heap.size (by omega)).trans hv0,⟨rfl,.inl ⟨rfl,rfl⟩⟩,by simp⟩,
   by rw[<- hW1];have:=World.alloc_heap_new (W0.alloc (.deferred (some []))) (.loop (y6n fn (.func (.func g) #[] lb) w.heap.size W0.heap.size .ready none));rwa [World.size_alloc]at this,
   by rw[<- hW1];exact(Below.heap_alloc _ _ _ (by simp)).trans (World.alloc_heap_new W0 _),hb1,by rw[<- hW1];exact Nat.le_of_eq hd0⟩
 refine⟨W0.heap.size+1,[{ target:=.collected W0.heap.size,args:=#[] }],W1,{ target:=.fn (.func g) lb,args:=#[.func (.yield (W0.heap.size+1)) #[] #[]] },W1,g,
  #[.func (.yield (W0.heap.size+1)) #[] #[]]++lb,W1,?_,?_,?_,?_,fun _=>h1,?_⟩
 ·rw[<- hW1];exact Go.run_enterLoop_outer _ _ _ _ _
 ·simp[Go.resolve,go_sem]
 ·intro f' hf';simp[Go.Target.leads]at hf';subst hf';exact hFg
 ·simp[Go.invoke,go_sem,eg]
 ·refine(hseq (W0.heap.size+1) (yfx w fn (.func (.func g) #[] lb) w.heap.size (W0.heap.size+1) W0.heap.size) W1 hb1 (zhm _ _ _ _ _ _ _ hb1.size)
   (fun pre x W hJ hl=>yfa F (n - 1 - 1) w fn hfn _ w.heap.size (W0.heap.size+1) W0.heap.size (by omega) (by omega) (by omega) (aj _) (by omega) N hN hNb pre x W hJ hl) hM).mono ?_
  rintro e W2 ⟨⟨v0,rfl⟩,ss,hS,h2⟩;obtain⟨v,hv,hrow,hnil⟩:=h2.box;have hend:=Go.run_endLoop (P:=bd) h2.L (by simp[y6n])
  obtain⟨W3,hW3⟩:∃ W3,W2.putObj (W0.heap.size+1) (.loop { y6n fn (.func (.func g) #[] lb) w.heap.size W0.heap.size .ready none with state:=.exhausted })=W3:=⟨_,rfl⟩;rw[hW3]at hend;have hg3:W2.grownBy W3 (some (W0.heap.size+1)):=by rw[<- hW3];exact y4v _ _ _
  have hv3:W3.heap[w.heap.size]? = some (.cells #[v] 121 (0,0)):=by rw[<- hW3];exact(World.putObj_heap_other (by omega)).trans hv
  have hK3:W3.heap[W0.heap.size]? = some (.deferred (some [])):=by rw[<- hW3];exact(World.putObj_heap_other (by omega)).trans h2.K
  have hrow3:=hrow.kept hg3 (zcv hrow h2.L (fun cur e=>by cases e))
  have hb3:Below w.heap.size w W3:=h2.below.grown hg3 h2.below.size (fun k e=>by cases e;omega)
  have hd3:w.drawn<=W3.drawn:=by rw[<- hW3];exact h2.dr
  obtain⟨hc3,hf3⟩:=zfb hv3;clear hW3;refine⟨none,W3,hend,?_⟩
  gi_wp2
  rw[<- hs0];refine⟨by simp,.inl ⟨_,_,rfl,Go.run_takeDeferred hK3,?_⟩⟩
  exact⟨_,Go.results_tmp rfl _ _ _,v,ss,rfl,hS,hrow3.kept (y4v _ _ _) (zcv hrow3 hK3 (fun cur e=>by cases e)),hnil,hb3.grown (y4v _ _ _) hb3.size (fun k e=>by cases e;omega),hd3⟩
theorem zo8(F:Fence)(n:Nat)(h8:F.fn 70)(h11:F.fn 90)(hro:F.round=none)(hn:3<=n)(g:Nat)(lb:Array Value)(hFg:F.fn g)(eg:∀ args w,(iT g args).run bd w=.ok (.enter g args) w)
  (S:List (Int × Int)->Prop) (N:Nat) (hN:N<=fK) (hNb:N*16<=140737488355328) (w:World) (hseq:yly F (n - 1 - 1) bd g lb S N w) :
  CallsIn F n bd 70 #[.func (.func g) #[] lb] w fun e w'=>∃(v:Value) (ss:List (Int × Int)),e=.returned v/\S ss/\w'.ownsRow w.heap.size 49 2 v ss.length (ss.flatMap y4x)/\(v=.slice none 0 0 ↔ ss=[])/\Below w.heap.size w w'/\w.drawn<=w'.drawn:=by
 have h1:1<=n:=by omega
 refine jw tn rfl h8 ?_ hro;simp only[q7,bP,aq,aV,gZ,je,eH,f9,gQ,gj,bo,aJ]
 gi_wp2_with (gi_at_call 90;refine(zhl F (n - 1) h11 hro (by omega) g lb hFg eg S N hN hNb _ hseq).mono ?_;rintro e w' ⟨v,ss,rfl,hS,hrow,hnil,hb,hd⟩)
 go_ret
 exact⟨v,ss,rfl,hS,hrow,hnil,hb,hd⟩
theorem zpv(k:Nat)(C:y66 bd 71 k)(hN:∀(p:Option Go.Addr) (cap:Nat) (fv:Value) (w:World),Go.Calls bd 71 #[.slice p 0 cap,fv] w fun e w'=>e=.returned (.tuple #[])/\w'=w)
  (Bm off b clock:Nat) (es:Array MapEntry) (ks:List (Int × Int)) (hst:y3r es clock) (hks:es.toList.map (fun e=>e.key)=ks.map y7z) (hlen:ks.length<=1000000) (w:World) (hG:GL w)
  (hm:w.cell? ⟨Bm,off,none⟩=some (.map (some b))) (hb:w.heap[b]? = some (.map es clock)) :
  CallsIn Fence.wide 6 bd 55 #[.func (.func 72) #[] #[.pointer (some ⟨Bm,off,none⟩)],.func (.func k) #[] #[]] w (y7l w ks):=by
 have hBm:Bm<w.heap.size:=by rw[cell?_eq]at hm;exact z3x hm
 have hseq:=zne Fence.wide (6 - 1 - 1 - 1) trivial rfl (by omega) Bm off b clock es ks hst hks w hBm hm hb
 refine jw tp rfl trivial ?_ rfl;simp only[q8,bP,aq,aV,gZ,je,eH,f9,gQ,gj,bo,aJ]
 gi_wp2
 refine⟨trivial,?_⟩;refine(zo8 Fence.wide (6 - 1) trivial trivial rfl (by omega) 72 _ trivial (Go.Proofs.enters_of io (by kernel_rfl) rfl) _ ks.length (by unfold fK;omega) (by omega) _ hseq).mono ?_
 rintro e w1 ⟨v,ss,rfl,hS,hrow,hnil,hb1,hd1⟩
 gi_wp2
 refine⟨trivial,?_⟩;have hlen2:ss.length=ks.length:=hS.length_eq
 by_cases h0:ss=[]
 ·have hv:=hnil.2 h0;subst hv;refine(eI.2 (hN none 0 _ w1)).mono ?_;rintro e w2 ⟨rfl,rfl⟩
  gi_wp2
  go_ret
  have hk0:ks=[]:=by rw[h0]at hlen2;exact List.eq_nil_of_length_eq_zero hlen2.symm
  exact⟨hb1,hd1,.inl ⟨hk0,rfl⟩⟩
 ·obtain⟨g,cap,rfl⟩:∃ g cap,v=.slice (some ⟨g,0,none⟩) ss.length cap:=by
   rcases hrow.2 with⟨h1,_⟩ | ⟨g',cap',cur,hv,_⟩
   ·exact absurd (hnil.1 h1) h0
   ·exact⟨g',cap',hv⟩
  obtain⟨_,arr,hgc,_,hbase,hlc,_⟩:=row_holds hrow;refine(eI.2 (zg8 C hrow (by omega) hG hb1)).mono ?_
  rintro e w2 ⟨rfl,hb2,hd2,hcell⟩
  gi_wp2
  go_ret
  refine⟨hb1.trans hb2,aM hd1 hd2,.inr ⟨g,cap,rfl,by omega,hbase,?_⟩⟩
  rw[<- zei hS];exact hcell
theorem keyN(gi kk:Nat)(h:F gi=some kk)(hk:[409].contains kk=true):gi=72:=by
 have h1:=z51 h;have h2:(fl.all fun p=>![409].contains p.2 || p.1 == 72)=true:=by decide +kernel
 have h3:=ay.1 h2 _ h1;simp only[hk,kJ,gX]at h3;simpa using h3
theorem keyC(g k:Nat)(h:F g=some k)(hk:[386].contains k=true):g=53:=by
 have h1:=z51 h;have h2:(fl.all fun p=>![386].contains p.2 || p.1 == 53)=true:=by decide +kernel
 have h3:=ay.1 h2 _ h1;simp only[hk,kJ,gX]at h3;simpa using h3
theorem ydq:yc5 P 55 72 53:=fun Bm off b clock es ks w hst hks hlen hG hm hb=>eI.1 (zpv 53 (y66.of yak rfl gV gM yax) (fun p cap fv w=>gJ yak p cap fv w) Bm off b clock es ks hst hks hlen w hG hm hb)
theorem l55:y7x P E T F (33,0) 55 388:=znd (p:=1) (it:=[409]) (cmp:=[386]) (G:=f388) rfl rfl rfl rfl (fun gi kk g k h1 h2 hi hk=>by
 rw[keyN gi kk h1 hi,keyC g k h2 hk];exact ydq)
theorem l89:∀ n,y1v P (CLk T F true) F (y1g E (dC E n) 96) 89:=z8x (c:=6) (fn:=ly) (code:=ly.body.getD .skip) types ybm rfl tq rfl rfl rfl (by kernel_rfl)
theorem l79:∀ n,y1v P (CLk T F true) F (y1g E (dC E n) 165) 79:=z8x (c:=4) (fn:=lz) (code:=lz.body.getD .skip) types ybm rfl tt rfl rfl rfl (by kernel_rfl)
theorem l59:∀ n,y1v P (CLk T F true) F (y1g E (dC E n) 356) 59:=z8x (c:=70) (fn:=lA) (code:=lA.body.getD .skip) types ybm rfl tu rfl rfl rfl (by kernel_rfl)
set_option maxRecDepth 100000 in
theorem tie:Tie P E T F:=zyf (pt:=(33,0)) types mixed ybm (y1b (z8 l4 rfl) (y1b (z8 l6 rfl) (y1b (z8 l7 rfl) (y1b (z8 l8 rfl) (y1b (z8 l9 rfl) (y1b (z8 l10 rfl) (y1b (z8 l11 rfl) (y1b (z8 l13 rfl) (y1b (z8 l14 rfl) (y1b (z8 l15 rfl) (y1b (z8 l16 rfl) (y1b (z8 l17 rfl) (y1b (z8 l18 rfl) (y1b (z8 l19 rfl) (y1b (z8 l20 rfl) (y1b (z8 l21 rfl) (y1b (z8 l22 rfl) (y1b (z8 l23 rfl) (y1b (z8 l24 rfl) (y1b (z8 l25 rfl) (y1b (z8 l26 rfl) (y1b (z8 l27 rfl) (y1b (z8 l28 rfl) (y1b (z8 l29 rfl) (y1b (z8 l30 rfl) (y1b (z8 l31 rfl) (y1b (z8 l32 rfl) (y1b (z8 l33 rfl) (y1b (z8 l34 rfl) (y1b (z8 l35 rfl) (y1b (z8 l36 rfl) (y1b (z8 l37 rfl) (y1b (z8 l38 rfl) (y1b (z8 l39 rfl) (y1b (z8 l40 rfl) (y1b (z8 l41 rfl) (y1b (z8 l42 rfl) (y1b (z8 l43 rfl) (y1b (z8 l44 rfl) (y1b (z8 l45 rfl) (y1b (z8 l46 rfl) (y1b (z8 l47 rfl) (y1b (z8 l48 rfl) (y1b (z8 l49 rfl) (y1b (z8 l50 rfl) (y1b (z8 l51 rfl) (y1b (z8 l52 rfl) (y1b (z8 l53 rfl) (y1b (z8 l54 rfl) (y1b (z8n l55) (y1b (z8 l56 rfl) (y1b (z8 l57 rfl) (y1b (z8 l58 rfl) (y1b (z8o l59) (y1b (z8 l60 rfl) (y1b (z8 l61 rfl) (y1b (z8 l62 rfl) (y1b (z8 l63 rfl) (y1b (z8 l64 rfl) (y1b (z8 l65 rfl) (y1b (z8 l66 rfl) (y1b (z8 l67 rfl) (y1b (z8 l68 rfl) (y1b (z8 l69 rfl) (y1b (z8n l71) (y1b (z8 l72 rfl) (y1b (z8 l73 rfl) (y1b (z8 l74 rfl) (y1b (z8 l75 rfl) (y1b (z8 l76 rfl) (y1b (z8 l77 rfl) (y1b (z8 l78 rfl) (y1b (z8o l79) (y1b (z8 l80 rfl) (y1b (z8 l81 rfl) (y1b (z8 l82 rfl) (y1b (z8 l83 rfl) (y1b (z8 l84 rfl) (y1b (z8 l85 rfl) (y1b (z8 l86 rfl) (y1b (z8 l87 rfl) (y1b (z8 l88 rfl) (y1b (z8o l89) (y1b (z8 l93 rfl) (y1b (z8 l94 rfl) (y1b (z8 l95 rfl) (y1b (z8 l96 rfl) (y1b (z8 l97 rfl) (y1b (z8 l98 rfl) (y1b (z8 l99 rfl) (y1b (z8 l100 rfl) (y1b (z8 l101 rfl) (y1b (z8 l102 rfl) (y1b (z8 l103 rfl) (y1b (z8 l104 rfl) (y1b (z8 l105 rfl) (y1b (z8 l106 rfl) (y1b (z8 l107 rfl) (y1b (z8 l108 rfl) (y1b (z8 l109 rfl) (y1b (z8 l110 rfl) (y1b (z8 l121 rfl) (y1b (z8 l122 rfl) (y1b (z8n l123) (y1b (z8 l124 rfl) (y1b (z8 l125 rfl) (y1b (z8 l126 rfl) (y1b (z8 l127 rfl) (y1b (z8 l128 rfl) (y1b (z8 l129 rfl) (y1b (z8 l130 rfl) (y1b (z8 l131 rfl) (y1b (z8 l132 rfl) (y1b (z8 l138 rfl) (y1b (z8 l139 rfl) (y1b (z8 l140 rfl) (y1b (z8 l141 rfl) (y1b (z8 l142 rfl) (y1b (z8 l143 rfl) (y1b (z8 l144 rfl) (y1b (z8 l145 rfl) (y1b (z8 l146 rfl) (y1b (z8 l147 rfl) (y1b (z8 l149 rfl) (alln)))))))))))))))))))))))))))))))))))))))))))))))))))))))))))))))))))))))))))))))))))))))))))))))))))))))))))))))))))))))))))))
end Dv.Tryz
