/- Texts that a proof of this claim uses, joined: Dv.LinkTryz. -/
import Derived.Test.YtfagnjchgplecaaGreatDoorDvd
import Derived.Test.YtfagnjchgplecaaGreatDoorCode
import Derived.WalkKit
import Derived.Lib.Walk
import Derived.Lib.SliceRun
import Derived.Lib.AppendZerosOnto
import Derived.Test.YtfagnjchgplecaaGreatDoorSh
import Derived.Test.YtfagnjchgplecaaGreatDoorWa
import Derived.Test.YtfagnjchgplecaaGreatDoorChecked
import Derived.KernelRfl
set_option linter.all false
open Array renaming getElem?_eq_some_iff->aG,length_toList->cF,replicate_succ->dT,replicate_zero->fM
open Bool renaming false_or->gJ,not_true->jV
open Go renaming YieldAt->li,callFunc->iu,callsIn_of_wp->i9,callsIn_wide->dU,grownBy_keeps->ja,maxLen->fE,undef->bj
open Go.Builtin renaming zeroCells->bW
open Go.Oper renaming semAt_eq->cD
open Go.Proofs.AnyF renaming slices_SortFunc_none->gq
open Go.Proofs.SlLaysF0 renaming n6->jJ
open Go.Proofs.Tryz renaming f123->fT,f73->kq,func11->pW,func110->nV,func111->nW,func112->nX,func113->nY,func114->nZ,func115->oY,func116->oZ,func117->n4,func118->n5,func119->n7,func12->pX,func120->n8,func121->n9,func123->pI,func13->pY,func138->oa,func139->oc,func140->od,func141->o5,func142->o6,func143->o7,func144->o8,func145->o9,func146->pd,func147->pe,func148->pf,func149->pg,func15->pZ,func150->ph,func151->og,func152->oh,func153->jq,func154->ol,func155->om,func16->p5,func163->oq,func164->ot,func165->ou,func166->ov,func167->pj,func168->pm,func169->pn,func17->p6,func170->pq,func171->pu,func172->ow,func173->oz,func174->oB,func175->oC,func176->oD,func177->oG,func178->oH,func179->oJ,func18->p7,func180->oK,func182->oP,func183->oQ,func184->oR,func185->oT,func186->oU,func187->oV,func188->oW,func189->pw,func19->p8,func20->p9,func21->qa,func22->qb,func23->qc,func26->qd,func32->qe,func33->qf,func34->qg,func35->qh,func36->qi,func37->qj,func38->qk,func39->ql,func4->rI,func41->qm,func42->qn,func43->qo,func44->qp,func45->qq,func46->qr,func47->qs,func48->qu,func49->qv,func5->rJ,func50->qw,func58->qx,func59->qy,func60->qz,func61->qA,func62->qB,func63->jE,func64->qC,func65->qD,func66->qF,func67->qG,func68->jF,func69->jG,func70->re,func71->qH,func72->qI,func73->rf,func78->qJ,func79->qK,func80->qL,func81->qM,func82->qN,func83->qO,func84->qP,func85->qY,func86->jH,func87->qQ,func88->qR,func89->qT,func90->qU,func91->qV,func92->qW,func96->jI,func97->rc,func98->gX,isAgg0->qZ,isAgg105->nv,isAgg128->nw,isAgg183->nx,isAgg214->ny,isAgg215->nz,isAgg219->nA,isAgg222->nB,isAgg224->nC,isAgg246->nD,isAgg250->nE,isAgg271->nF,isAgg272->nG,isAgg3->q7,isAgg4->q8,isAgg5->q9,isAgg56->gG,isAgg9->ra,ntmps123->nH,ntmps153->jd,ntmps70->pL,ntmps97->pK,ntmps98->pH,prog->aY,sizeOf0->pz,sizeOf105->m9,sizeOf128->na,sizeOf183->nb,sizeOf214->nc,sizeOf215->nf,sizeOf219->ng,sizeOf222->nh,sizeOf224->ni,sizeOf246->nj,sizeOf250->nk,sizeOf271->nl,sizeOf272->nn,sizeOf3->pB,sizeOf4->pD,sizeOf5->pF,sizeOf56->gv,sizeOf9->pG,underlying0->mz,underlying105->ir,underlying128->lB,underlying183->lD,underlying214->lE,underlying215->lF,underlying219->lG,underlying222->lH,underlying224->lI,underlying246->lJ,underlying250->lK,underlying271->lL,underlying272->lM,underlying3->mA,underlying4->mB,underlying5->mC,underlying88->l9,underlying9->mD,zeroValue0->mI,zeroValue105->lR,zeroValue128->lS,zeroValue183->lT,zeroValue214->lU,zeroValue215->lV,zeroValue219->lW,zeroValue222->lX,zeroValue224->lY,zeroValue246->lZ,zeroValue250->l6,zeroValue271->l7,zeroValue272->l8,zeroValue3->mJ,zeroValue4->mK,zeroValue5->mL,zeroValue9->mM
open List renaming all_eq_true->aD,append_toArray->fS,cons_append->aO,length_cons->aA,length_nil->ba,nil_append->bh,push_toArray->gA,size_toArray->bL
open Nat renaming le_refl->ai,le_trans->aJ,reduceAdd->gK,reduceSub->iK
open Option renaming getD_some->cC
open Option.some renaming injEq->aa
set_option maxHeartbeats 16000000
namespace Dv.Tryz
open Go (Program)

open Go.RowKit
open Go (Value World Act Oper Operand Code Ending Exit MapEntry Fence CallsIn KeepsWalks)
noncomputable abbrev P:Program:=aY

def tl:List (Nat × Nat):=[(3,2),(4,7),(5,13),(9,53),(22,10),(23,9),(24,14),(26,0),(27,38),(28,6),(32,36),(33,3),(36,66),(39,70),(56,65),(58,72),(59,16),(61,15),(65,20),(67,19),(68,18),(70,17),(72,39),(76,37),(79,40),(88,75),(95,73),(97,71),(99,31),(101,29),(105,67),(120,21),(135,4),(137,28),(151,30),(161,1),(164,35),(168,32),(183,12),(186,56),(188,55),(194,33),(201,22),(206,11),(214,79),(222,78),(224,63),(225,76),(226,77),(229,74),(232,59),(234,58),(235,62),(246,82),(253,80),(257,81),(260,57),(263,26),(274,64)]

def fl:List (Nat × Nat):=[(4,427),(5,429),(11,340),(12,345),(13,350),(15,339),(16,344),(17,428),(18,346),(19,352),(20,430),(21,431),(22,342),(23,324),(26,318),(32,15),(33,367),(34,368),(35,71),(36,369),(37,370),(38,375),(39,316),(41,360),(42,433),(43,434),(44,317),(45,325),(46,371),(47,435),(48,319),(49,354),(50,359),(58,67),(59,69),(60,70),(61,72),(62,73),(63,74),(64,75),(65,76),(66,106),(67,385),(68,386),(69,105),(70,388),(71,387),(72,355),(73,356),(78,358),(79,376),(80,377),(81,389),(82,373),(83,374),(84,357),(85,361),(86,362),(87,363),(88,436),(89,331),(90,334),(91,335),(92,380),(96,107),(98,409),(110,378),(111,379),(112,390),(113,391),(114,392),(117,393),(118,364),(119,365),(120,366),(121,264),(138,410),(139,411),(140,270),(151,404),(152,383),(153,384),(154,281),(155,282),(163,418),(164,419),(165,286),(166,287),(172,405),(173,406),(174,407),(175,297),(176,298),(177,312),(178,311),(179,299),(180,300),(182,421),(183,422),(184,423),(185,301),(186,302),(187,304),(188,303)]

def T:Phi:=y84 tl
def F:Phi:=y84 fl

theorem types:y3d P E T:=zw6 (by kernel_rfl)
theorem mixed:P.follows .mixedOrders=true:=by kernel_rfl
theorem ych:y3e P F:=zjl (by kernel_rfl)

theorem l4:FnL P T F 4 f427:=zb rI (by kernel_rfl) (by kernel_rfl)
theorem l5:FnL P T F 5 f429:=zb rJ (by kernel_rfl) (by kernel_rfl)
theorem l11:FnL P T F 11 f340:=zb pW (by kernel_rfl) (by kernel_rfl)
theorem l12:FnL P T F 12 f345:=zb pX (by kernel_rfl) (by kernel_rfl)
theorem l13:FnL P T F 13 f350:=zb pY (by kernel_rfl) (by kernel_rfl)
theorem l15:FnL P T F 15 f339:=zb pZ (by kernel_rfl) (by kernel_rfl)
theorem l16:FnL P T F 16 f344:=zb p5 (by kernel_rfl) (by kernel_rfl)
theorem l17:FnL P T F 17 f428:=zb p6 (by kernel_rfl) (by kernel_rfl)
theorem l18:FnL P T F 18 f346:=zb p7 (by kernel_rfl) (by kernel_rfl)
theorem l19:FnL P T F 19 f352:=zb p8 (by kernel_rfl) (by kernel_rfl)
theorem l20:FnL P T F 20 f430:=zb p9 (by kernel_rfl) (by kernel_rfl)
theorem l21:FnL P T F 21 f431:=zb qa (by kernel_rfl) (by kernel_rfl)
theorem l22:FnL P T F 22 f342:=zb qb (by kernel_rfl) (by kernel_rfl)
theorem l23:FnL P T F 23 f324:=zb qc (by kernel_rfl) (by kernel_rfl)
theorem l26:FnL P T F 26 f318:=zb qd (by kernel_rfl) (by kernel_rfl)
theorem l32:FnL P T F 32 f15:=zb qe (by kernel_rfl) (by kernel_rfl)
theorem l33:FnL P T F 33 f367:=zb qf (by kernel_rfl) (by kernel_rfl)
theorem l34:FnL P T F 34 f368:=zb qg (by kernel_rfl) (by kernel_rfl)
theorem l35:FnL P T F 35 f71:=zb qh (by kernel_rfl) (by kernel_rfl)
theorem l36:FnL P T F 36 f369:=zb qi (by kernel_rfl) (by kernel_rfl)
theorem l37:FnL P T F 37 f370:=zb qj (by kernel_rfl) (by kernel_rfl)
theorem l38:FnL P T F 38 f375:=zb qk (by kernel_rfl) (by kernel_rfl)
theorem l39:FnL P T F 39 f316:=zb ql (by kernel_rfl) (by kernel_rfl)
theorem l41:FnL P T F 41 f360:=zb qm (by kernel_rfl) (by kernel_rfl)
theorem l42:FnL P T F 42 f433:=zb qn (by kernel_rfl) (by kernel_rfl)
theorem l43:FnL P T F 43 f434:=zb qo (by kernel_rfl) (by kernel_rfl)
theorem l44:FnL P T F 44 f317:=zb qp (by kernel_rfl) (by kernel_rfl)
theorem l45:FnL P T F 45 f325:=zb qq (by kernel_rfl) (by kernel_rfl)
theorem l46:FnL P T F 46 f371:=zb qr (by kernel_rfl) (by kernel_rfl)
theorem l47:FnL P T F 47 f435:=zb qs (by kernel_rfl) (by kernel_rfl)
theorem l48:FnL P T F 48 f319:=zb qu (by kernel_rfl) (by kernel_rfl)
theorem l49:FnL P T F 49 f354:=zb qv (by kernel_rfl) (by kernel_rfl)
theorem l50:FnL P T F 50 f359:=zb qw (by kernel_rfl) (by kernel_rfl)
theorem l58:FnL P T F 58 f67:=zb qx (by kernel_rfl) (by kernel_rfl)
theorem l59:FnL P T F 59 f69:=zb qy (by kernel_rfl) (by kernel_rfl)
theorem l60:FnL P T F 60 f70:=zb qz (by kernel_rfl) (by kernel_rfl)
theorem l61:FnL P T F 61 f72:=zb qA (by kernel_rfl) (by kernel_rfl)
theorem l62:FnL P T F 62 f73:=zb qB (by kernel_rfl) (by kernel_rfl)
theorem l63:FnL P T F 63 f74:=zb jE (by kernel_rfl) (by kernel_rfl)
theorem l64:FnL P T F 64 f75:=zb qC (by kernel_rfl) (by kernel_rfl)
theorem l65:FnL P T F 65 f76:=zb qD (by kernel_rfl) (by kernel_rfl)
theorem l66:FnL P T F 66 f106:=zb qF (by kernel_rfl) (by kernel_rfl)
theorem l67:FnL P T F 67 f385:=zb qG (by kernel_rfl) (by kernel_rfl)
theorem l68:FnL P T F 68 f386:=zb jF (by kernel_rfl) (by kernel_rfl)
theorem l69:FnL P T F 69 f105:=zb jG (by kernel_rfl) (by kernel_rfl)
theorem l71:FnL P T F 71 f387:=zb qH (by kernel_rfl) (by kernel_rfl)
theorem l72:FnL P T F 72 f355:=zb qI (by kernel_rfl) (by kernel_rfl)
theorem l78:FnL P T F 78 f358:=zb qJ (by kernel_rfl) (by kernel_rfl)
theorem l79:FnL P T F 79 f376:=zb qK (by kernel_rfl) (by kernel_rfl)
theorem l80:FnL P T F 80 f377:=zb qL (by kernel_rfl) (by kernel_rfl)
theorem l81:FnL P T F 81 f389:=zb qM (by kernel_rfl) (by kernel_rfl)
theorem l82:FnL P T F 82 f373:=zb qN (by kernel_rfl) (by kernel_rfl)
theorem l83:FnL P T F 83 f374:=zb qO (by kernel_rfl) (by kernel_rfl)
theorem l84:FnL P T F 84 f357:=zb qP (by kernel_rfl) (by kernel_rfl)
theorem l86:FnL P T F 86 f362:=zb jH (by kernel_rfl) (by kernel_rfl)
theorem l87:FnL P T F 87 f363:=zb qQ (by kernel_rfl) (by kernel_rfl)
theorem l88:FnL P T F 88 f436:=zb qR (by kernel_rfl) (by kernel_rfl)
theorem l89:FnL P T F 89 f331:=zb qT (by kernel_rfl) (by kernel_rfl)
theorem l90:FnL P T F 90 f334:=zb qU (by kernel_rfl) (by kernel_rfl)
theorem l91:FnL P T F 91 f335:=zb qV (by kernel_rfl) (by kernel_rfl)
theorem l92:FnL P T F 92 f380:=zb qW (by kernel_rfl) (by kernel_rfl)
theorem l96:FnL P T F 96 f107:=zb jI (by kernel_rfl) (by kernel_rfl)
theorem l98:FnL P T F 98 f409:=zb gX (by kernel_rfl) (by kernel_rfl)
theorem l110:FnL P T F 110 f378:=zb nV (by kernel_rfl) (by kernel_rfl)
theorem l111:FnL P T F 111 f379:=zb nW (by kernel_rfl) (by kernel_rfl)
theorem l112:FnL P T F 112 f390:=zb nX (by kernel_rfl) (by kernel_rfl)
theorem l113:FnL P T F 113 f391:=zb nY (by kernel_rfl) (by kernel_rfl)
theorem l114:FnL P T F 114 f392:=zb nZ (by kernel_rfl) (by kernel_rfl)
theorem l117:FnL P T F 117 f393:=zb n4 (by kernel_rfl) (by kernel_rfl)
theorem l118:FnL P T F 118 f364:=zb n5 (by kernel_rfl) (by kernel_rfl)
theorem l119:FnL P T F 119 f365:=zb n7 (by kernel_rfl) (by kernel_rfl)
theorem l120:FnL P T F 120 f366:=zb n8 (by kernel_rfl) (by kernel_rfl)
theorem l121:FnL P T F 121 f264:=zb n9 (by kernel_rfl) (by kernel_rfl)
theorem l138:FnL P T F 138 f410:=zb oa (by kernel_rfl) (by kernel_rfl)
theorem l139:FnL P T F 139 f411:=zb oc (by kernel_rfl) (by kernel_rfl)
theorem l140:FnL P T F 140 f270:=zb od (by kernel_rfl) (by kernel_rfl)
theorem l151:FnL P T F 151 f404:=zb og (by kernel_rfl) (by kernel_rfl)
theorem l152:FnL P T F 152 f383:=zb oh (by kernel_rfl) (by kernel_rfl)
theorem l154:FnL P T F 154 f281:=zb ol (by kernel_rfl) (by kernel_rfl)
theorem l155:FnL P T F 155 f282:=zb om (by kernel_rfl) (by kernel_rfl)
theorem l163:FnL P T F 163 f418:=zb oq (by kernel_rfl) (by kernel_rfl)
theorem l164:FnL P T F 164 f419:=zb ot (by kernel_rfl) (by kernel_rfl)
theorem l165:FnL P T F 165 f286:=zb ou (by kernel_rfl) (by kernel_rfl)
theorem l166:FnL P T F 166 f287:=zb ov (by kernel_rfl) (by kernel_rfl)
theorem l172:FnL P T F 172 f405:=zb ow (by kernel_rfl) (by kernel_rfl)
theorem l173:FnL P T F 173 f406:=zb oz (by kernel_rfl) (by kernel_rfl)
theorem l174:FnL P T F 174 f407:=zb oB (by kernel_rfl) (by kernel_rfl)
theorem l175:FnL P T F 175 f297:=zb oC (by kernel_rfl) (by kernel_rfl)
theorem l176:FnL P T F 176 f298:=zb oD (by kernel_rfl) (by kernel_rfl)
theorem l177:FnL P T F 177 f312:=zb oG (by kernel_rfl) (by kernel_rfl)
theorem l178:FnL P T F 178 f311:=zb oH (by kernel_rfl) (by kernel_rfl)
theorem l179:FnL P T F 179 f299:=zb oJ (by kernel_rfl) (by kernel_rfl)
theorem l180:FnL P T F 180 f300:=zb oK (by kernel_rfl) (by kernel_rfl)
theorem l182:FnL P T F 182 f421:=zb oP (by kernel_rfl) (by kernel_rfl)
theorem l183:FnL P T F 183 f422:=zb oQ (by kernel_rfl) (by kernel_rfl)
theorem l184:FnL P T F 184 f423:=zb oR (by kernel_rfl) (by kernel_rfl)
theorem l185:FnL P T F 185 f301:=zb oT (by kernel_rfl) (by kernel_rfl)
theorem l186:FnL P T F 186 f302:=zb oU (by kernel_rfl) (by kernel_rfl)
theorem l187:FnL P T F 187 f304:=zb oV (by kernel_rfl) (by kernel_rfl)
theorem l188:FnL P T F 188 f303:=zb oW (by kernel_rfl) (by kernel_rfl)

section
open Go Go.Proofs Go.RowKit
set_option maxRecDepth 100000 in
theorem zpi(base:Option Addr)(w:World):Calls aY 153 #[.slice base 0 0,.int .i64 0] w fun e w'=>e=.returned (.slice base 0 0)/\w'=w:=by
 go_enter jq,jd
 go_wp2
 go_ret
 exact⟨rfl,rfl⟩

set_option maxRecDepth 100000 in
theorem zpj(i0:TypeInfo)(z:Value)(hi0:aY.info? 5=some i0)(hz0:i0.zero=some z)(hs0:0<i0.size)(base:Option Addr)(n:Nat)(w:World)(hroom:0<n)(hbig:n*i0.bytes<=140737488355328)(h63:n<=4611686018427387904) :
  Calls aY 153 #[.slice base 0 0,.int .i64 n] w fun e w'=>e=.returned (.slice (some ⟨w.heap.size,0,none⟩) 0 (grownCap w n 0 5)) /\
   w'=w.drew.alloc (.cells (Builtin.zeroCells z.cells n++Builtin.zeroCells z.cells (grownCap w n 0 5 - n)) 5):=by
 have h1 : ¬ ((n:Int)<0):=by omega
 have h4:(n:Int) > 0:=by omega
 have hw0:wrap64 (n:Int)=(n:Int):=by unfold wrap64;omega
 have hrz:∀ ty,(Builtin.append_ #[151,3] ty #[.slice base 0 0,.int .i64 (n:Int)]).run aY w =
   .ok (.slice (some ⟨w.heap.size,0,none⟩) n (grownCap w n 0 5)) (w.drew.alloc (.cells (Builtin.zeroCells z.cells n++Builtin.zeroCells z.cells (grownCap w n 0 5 - n)) 5)):=fun ty=>by
  have y5r:(Builtin.firstCells i0.size 0 (.slice base 0 0)).run aY w.drew=.ok ([]:List Value).toArray w.drew:=by
   cases base with
   |none=>exact run_firstCells_none w.drew i0.size 0 0 0
   |some a=>exact run_firstCells_some w.drew i0.size 0 a 0 0 [] (by simp) (fun j v hj=>by simp at hj)
  have h:=Lib.run_append_grow_zeros w 151 3 ty 5 i0 z .i64 .i64 (by kernel_rfl) (by kernel_rfl) hi0 hz0 base 0 0 [] y5r n (by omega) hs0 (by omega) (by omega)
   (by omega) (by rw[Nat.zero_add];exact growslice_fits hroom hbig)
  simpa using h
 go_enter jq,jd
 go_wp2_with (at_builtin;refine Lib.wpList_append_run _ rfl _ _ _ _ rfl _ _ rfl rfl _ _ (hrz _) ?_)
 all_goals (go_ret;exact⟨rfl,rfl⟩)
end

theorem zbr(z:Array Go.Value)(n:Nat):(bW z n).size=n*z.size:=by simp[bW]

theorem z7e:∀{l:List Go.Value} {ds:List D},y26 l=some ds->l.length=ds.length
 |[],ds,h=>by simp[y26] at h;subst h;rfl
 |v::l,ds,h=>by
  simp only[y26] at h
  split at h
  ·rename_i d r h1 h2
   simp only[aa] at h;subst h
   simp[z7e h2]
  ·simp at h

theorem yce:yav P 153 (E.ty 13).bytes (E.ty 13).size:=by
 obtain⟨i0,hi0,hsz,hby,hz⟩:=(types 5 13 rfl).info
 obtain⟨z,hz0,hzl,_⟩:=hz (by decide) (by decide)
 have hzs:z.cells.size=(E.ty 13).size:=by
  have:=z7e hzl
  rw[cF] at this
  rw[this];decide
 have hpos:0<i0.size:=by rw[hsz];decide
 rw[<- hsz,<- hby]
 constructor
 ·intro base w
  exact zpi base w
 ·intro base n w hn hb hn2
  have:=zpj i0 z hi0 hz0 hpos base n w hn hb hn2
  have hG:=Go.grownCap_ge w n 0 5
  generalize Go.grownCap w n 0 5=G at this hG
  refine this.mono ?_
  rintro e w' ⟨rfl,rfl⟩
  refine⟨G,5,_,?_,rfl,rfl,⟨rfl,rfl,rfl,Nat.le_succ _⟩⟩
  simp only[Array.size_append,zbr,hzs,hsz]
  rw[<- Nat.add_mul,show n+(G - n)=G from by omega]

theorem l153:y79 P E T F (33,0) 153 384:=zma (c:=30) (i:=2) (e:=13) (G:=f384) rfl rfl rfl rfl yce


def yaz:Go.Shelf.Ren:={ f:=fun | 6=>85 | 15=>116 | 14=>115 | 28=>149 | 29=>150 | 20=>141 | 21=>142 | 22=>143 | 23=>144 | 24=>145 | 25=>146 | 26=>147 | 27=>148 | 46=>167 | 47=>168 | 48=>169 | 49=>170 | 50=>171 | 57=>189 | n=>n,t:=fun | 22=>105 | 24=>56 | 25=>128 | 3=>3 | 39=>183 | 0=>0 | 53=>222 | 55=>224 | 4=>4 | 46=>215 | 45=>214 | 50=>219 | 5=>5 | 9=>9 | 66=>246 | 70=>250 | 76=>271 | 77=>272 | n=>n,g:=fun n=>n }
set_option maxRecDepth 100000 in
theorem y99:jJ P yaz where
 mixed:=mixed
 f6:=⟨ "slices.SortFunc[[]overflight/api.Account,overflight/api.Account]",by decide,qY.trans (congrArg some (by kernel_rfl))⟩
 f14:=⟨ "slices.pdqsortCmpFunc[overflight/api.Account]",by decide,oY.trans (congrArg some (by kernel_rfl))⟩
 f15:=oZ.trans (congrArg some (by kernel_rfl))
 f20:=⟨ "slices.insertionSortCmpFunc[overflight/api.Account]",by decide,o5.trans (congrArg some (by kernel_rfl))⟩
 f21:=⟨ "slices.heapSortCmpFunc[overflight/api.Account]",by decide,o6.trans (congrArg some (by kernel_rfl))⟩
 f22:=⟨ "slices.breakPatternsCmpFunc[overflight/api.Account]",by decide,o7.trans (congrArg some (by kernel_rfl))⟩
 f23:=⟨ "slices.choosePivotCmpFunc[overflight/api.Account]",by decide,o8.trans (congrArg some (by kernel_rfl))⟩
 f24:=⟨ "slices.reverseRangeCmpFunc[overflight/api.Account]",by decide,o9.trans (congrArg some (by kernel_rfl))⟩
 f25:=⟨ "slices.partialInsertionSortCmpFunc[overflight/api.Account]",by decide,pd.trans (congrArg some (by kernel_rfl))⟩
 f26:=⟨ "slices.partitionEqualCmpFunc[overflight/api.Account]",by decide,pe.trans (congrArg some (by kernel_rfl))⟩
 f27:=⟨ "slices.partitionCmpFunc[overflight/api.Account]",by decide,pf.trans (congrArg some (by kernel_rfl))⟩
 f28:=pg.trans (congrArg some (by kernel_rfl))
 f29:=ph.trans (congrArg some (by kernel_rfl))
 f46:=⟨ "slices.siftDownCmpFunc[overflight/api.Account]",by decide,pj.trans (congrArg some (by kernel_rfl))⟩
 f47:=pm.trans (congrArg some (by kernel_rfl))
 f48:=pn.trans (congrArg some (by kernel_rfl))
 f49:=⟨ "slices.medianAdjacentCmpFunc[overflight/api.Account]",by decide,pq.trans (congrArg some (by kernel_rfl))⟩
 f50:=⟨ "slices.medianCmpFunc[overflight/api.Account]",by decide,pu.trans (congrArg some (by kernel_rfl))⟩
 f57:=⟨ "slices.order2CmpFunc[overflight/api.Account]",by decide,pw.trans (congrArg some (by kernel_rfl))⟩
 t0:=mz
 a0:=qZ
 z0:=pz
 v0:=mI
 t3:=mA
 a3:=q7
 z3:=pB
 v3:=mJ
 t4:=mB
 a4:=q8
 z4:=pD
 v4:=mK
 t5:=mC
 a5:=q9
 z5:=pF
 v5:=mL
 t9:=mD
 a9:=ra
 z9:=pG
 v9:=mM
 t22:=ir
 a22:=nv
 z22:=m9
 v22:=lR
 t25:=lB
 a25:=nw
 z25:=na
 v25:=lS
 t39:=lD
 a39:=nx
 z39:=nb
 v39:=lT
 t45:=lE
 a45:=ny
 z45:=nc
 v45:=lU
 t46:=lF
 a46:=nz
 z46:=nf
 v46:=lV
 t50:=lG
 a50:=nA
 z50:=ng
 v50:=lW
 t53:=lH
 a53:=nB
 z53:=nh
 v53:=lX
 t55:=lI
 a55:=nC
 z55:=ni
 v55:=lY
 t66:=lJ
 a66:=nD
 z66:=nj
 v66:=lZ
 t70:=lK
 a70:=nE
 z70:=nk
 v70:=l6
 t76:=lL
 a76:=nF
 z76:=nl
 v76:=l7
 t77:=lM
 a77:=nG
 z77:=nn
 v77:=l8
def flA:List (Nat × Nat):=[(63,74),(68,386),(69,105),(86,362),(96,107)]
def FA:Phi:=y84 flA
theorem ycg:y3e P FA:=zjl (by kernel_rfl)
theorem a63:FnL P T FA 63 f74:=zb jE (by kernel_rfl) (by kernel_rfl)
theorem a68:FnL P T FA 68 f386:=zb jF (by kernel_rfl) (by kernel_rfl)
theorem a69:FnL P T FA 69 f105:=zb jG (by kernel_rfl) (by kernel_rfl)
theorem a86:FnL P T FA 86 f362:=zb jH (by kernel_rfl) (by kernel_rfl)
theorem a96:FnL P T FA 96 f107:=zb jI (by kernel_rfl) (by kernel_rfl)
theorem tieA:Tie P E T FA:=zur (pt:=(33,0)) types mixed ycg (y1g (z6 a63 rfl) (y1g (z6 a68 rfl) (y1g (z6 a69 rfl) (y1g (z6 a86 rfl) (y1g (z6 a96 rfl) (alln))))))
theorem zzy(a b c d:Int):orI [y54 a c,y54 b d]=cfP (a,b) (c,d):=by
 unfold cfP y54
 simp only[orI]
 repeat' split
 all_goals first | rfl | omega
theorem y9m:y89 P 68:=y89.of_sim tieA (g:=68) (g':=386) rfl fun a b c d=>by
 rw[<- zzy]
 exact z6k (yf9 a b c d)
theorem ybc:y89 P 86:=y89.of_sim tieA (g:=86) (g':=362) rfl fun a b c d=>by
 rw[<- zzy]
 exact z6k (yfa a b c d)
theorem cmpN(g k:Nat)(h:F g=some k)(hk:[362,386].contains k=true):g=68\/g=86:=by
 have h1:=z4u h
 have h2:(fl.all fun p=>![362,386].contains p.2 || p.1 == 68 || p.1 == 86)=true:=by decide +kernel
 have h3:=aD.1 h2 _ h1
 simp only[hk,jV,gJ] at h3
 simpa using h3
theorem l85:y79 P E T F (33,0) 85 361:=zku (p:=0) (cmp:=[362,386]) (G:=f361) rfl rfl rfl rfl
 (fun g k h hk=>by
  rcases cmpN g k h hk with rfl | rfl
  ·exact y5l.of y99 rfl gG gv y9m
  ·exact y5l.of y99 rfl gG gv ybc)
 (fun p cap fv w=>gq y99 p cap fv w)

set_option maxRecDepth 100000 in
theorem zso(F:Fence)(n:Nat)(h10:F.fn 98)(hro:F.round=none)(hn:1<=n)(l Bm off b clock:Nat)(es:Array MapEntry)(ks:List (Int × Int))(hst:y3l es clock)(hks:es.toList.map (fun e=>e.key)=ks.map y7b)(J:List (Int × Int)->World->Prop)
  (hY:∀ pre x W,J pre W->pre.length<ks.length->li F (n - 1) aY l #[y7b x] W fun e W'=>e=.returned (.bool true)/\J (pre++[x]) W'/\KeepsWalks W W')
  (W:World) (hJ:y8a W.heap.size J) (hm:W.cell? ⟨Bm,off,none⟩=some (.map (some b))) (hb:W.heap[b]? = some (.map es clock)) (h0:J [] W) :
  CallsIn F n aY 98 #[.func (.yield l) #[] #[],.pointer (some ⟨Bm,off,none⟩)] W fun e W'=>(∃ v,e=.returned v) /\ ∃ ss:List (Int × Int),ss.Perm ks/\J ss W':=by
 refine i9 gX rfl h10 ?_ hro
 simp only[pH,bL,aA,ba,gK,iK,dT,fM,gA,fS,bh,aO]
 gi_wp2_with (first
  |(gi_at_range;refine yay _ rfl _ 88 56 3 rfl l9 b es clock rfl hb ?_;intro w0 hb0 hr0 hg0 hs0 hd0)
  |gi_in)
 go_frame
 gi_loopw [3] (fun _ wr=>∃(seen:Array Nat) (ss:List (Int × Int)),wr.heap[b]? = some (.map es clock)/\wr.heap[W.heap.size]? = some (.mapIter (some b) clock seen clock)/\y5e ks es.toList seen ss/\J ss wr)
  (fun _ wr=>wr.rangeLeft b W.heap.size)
 case atStart=>
  exact⟨#[],[],hb0,hr0,by unfold y5e y46;rw[List.map_nil,bh,<- hks,List.filter_eq_self.2 (by simp)],hJ [] W w0 none h0 hg0 hd0 (fun r e=>by cases e)⟩
 case round=>
  obtain⟨seen,ss,hbr,hrr,hC,hJs⟩:=hrel
  gi_wp2_with (first
   |(gi_at_next;refine ybw _ rfl _ rfl b W.heap.size clock es seen hst rfl hbr hrr ?_ ?_)
   |gi_in)
  ·intro hl
   gi_wp2
   go_end0
   exact⟨⟨_,rfl⟩,ss,hC.done hl,hJs⟩
  ·intro e w2 he hb2 hr2 hg2 hs2 hd2 hen
   have hlen:=hC.len
   obtain⟨x,hx⟩:=hC.key he
   have hC2:=hC.step hst.2 he hx
   have hlt:ss.length<ks.length:=by
    have:0<(y46 es.toList seen).length:=List.length_pos_of_mem he
    omega
   obtain⟨key,val,born⟩:=e
   simp only at hx hen hr2 hC2
   subst hx
   have hJ2:J ss w2:=hJ ss wr w2 (some W.heap.size) hJs hg2 hd2 (fun r e=>by cases e;exact⟨ai _,_,hrr,rfl⟩)
   have hJ3:J ss (w2.alloc (.cells #[.int .i64 x.1,.int .i64 x.2] 56)):=hJ ss w2 _ none hJ2 (Go.World.grownBy_alloc w2 _ none) (ai _) (fun r e=>by cases e)
   have hb3:(w2.alloc (.cells #[.int .i64 x.1,.int .i64 x.2] 56)).heap[b]? = some (.map es clock):=(Below.heap_alloc _ _ b (z23 hb2)).trans hb2
   have hr3:(w2.alloc (.cells #[.int .i64 x.1,.int .i64 x.2] 56)).heap[W.heap.size]? = some (.mapIter (some b) clock (seen.push born) clock):=(Below.heap_alloc _ _ W.heap.size (z23 hr2)).trans hr2
   obtain⟨fn,tmps,assign,body,hy,hR⟩:=hY ss x _ hJ3 hlt
   clear hs2 hd2
   gi_wp2
   refine hR.mono ?_
   rintro e W3 ⟨rfl,hJ3,hk3⟩
   gi_wp2
   have hb4:=hk3.same b _ hb3 rfl
   have hr4:=hk3.same W.heap.size _ hr3 rfl
   go_roundw
   case rel=>exact⟨seen.push born,ss++[x],hb4,hr4,hC2,hJ3⟩
   case measure=>
    have hlen2:=hC2.len
    unfold Go.World.rangeLeft
    rw[hb4,hr4,hbr,hrr]
    simp only[]
    rw[<- cF,<- cF,z4v,z4v]
    simp only[List.length_append,aA,ba] at hlen2
    omega

theorem zls(F:Fence)(n:Nat)(h10:F.fn 98)(hro:F.round=none)(hn:1<=n)(Bm off b clock:Nat)(es:Array MapEntry)(ks:List (Int × Int))(hst:y3l es clock)(hks:es.toList.map (fun e=>e.key)=ks.map y7b)(w:World)(hBm:Bm<w.heap.size)
  (hm:w.cell? ⟨Bm,off,none⟩=some (.map (some b))) (hb:w.heap[b]? = some (.map es clock)) :
  ygd F n aY 98 #[.pointer (some ⟨Bm,off,none⟩)] (fun ss=>ss.Perm ks) ks.length w:=fun l J W hW hJ hY h0=>
 zso F n h10 hro hn l Bm off b clock es ks hst hks J hY W hJ ((hW.cell (p:=⟨Bm,off,none⟩) hBm).trans hm) ((hW.block b (z23 hb)).trans hb) h0
def y75:Code->Code × Code
 |.seq _ (.seq (.seq _ (.block _ (.rangeFunc _ _ a b))) _)=>(a,b)
 |_=>(.skip,.skip)
noncomputable def yga:Code:=(y75 (fT.body.getD .skip)).1
noncomputable def yg9:Code:=(y75 (fT.body.getD .skip)).2

noncomputable def y64(fn:Nat)(sv:Value)(Bs D:Nat)(st:Go.LoopState)(pend:Option Code):Go.Loop:=
 { state:=st,pending:=pend,fn,tmps:=#[.slice none 0 0,sv,.pointer (some ⟨Bs,0,none⟩),bj,.slice none 0 0,bj,sv,bj,bj,bj,bj,bj,bj],params:=#[7],assign:=yga,body:=yg9,defers:=D }

structure ybv(w0:World)(fn:Nat)(sv:Value)(Bs l D:Nat)(ss:List (Int × Int))(W:World):Prop where
 box:∃ v,W.heap[Bs]? = some (.cells #[v] 105 (0,0))/\W.ownsRow w0.heap.size 56 2 v ss.length (ss.flatMap y4i)/\(v=.slice none 0 0 ↔ ss=[])
 L:W.heap[l]? = some (.loop (y64 fn sv Bs D .ready none))
 K:W.heap[D]? = some (.deferred (some []))
 below:Below w0.heap.size w0 W
 dr:w0.drawn<=W.drawn

theorem zgh(w0:World)(fn:Nat)(sv:Value)(Bs l D B:Nat)(hB:w0.heap.size<=B):y8a B (ybv w0 fn sv Bs l D):=fun s W W' row h hg hd hrow=>by
 have hrow':∀ r,row=some r->∃ o:Go.Obj,W.heap[r]? = some o/\o.isWalk=true:=fun r e=>(hrow r e).2
 obtain⟨v,hv,hr,hn⟩:=h.box
 exact⟨⟨v,(ja hg hrow' hv rfl).trans hv,zky hr hg hrow',hn⟩,(ja hg hrow' h.L rfl).trans h.L,(ja hg hrow' h.K rfl).trans h.K,
  h.below.grown hg h.below.size (fun k e=>aJ hB (hrow k e).1),aJ h.dr hd⟩

theorem yft:(aY.info? 56).map (fun i=>(i.zero,i.size,i.bytes))=some (some (.agg #[.int .i64 0,.int .i64 0]),2,16):=by kernel_rfl

set_option maxRecDepth 100000 in
theorem ybd(F:Fence)(m:Nat)(w0:World)(fn:Nat)(hfn:F.fn fn)(sv:Value)(Bs l D:Nat)(hBl:Bs ≠ l)(hDl:D ≠ l)(hDB:D ≠ Bs)(h0B:w0.heap.size<=Bs)(h0l:w0.heap.size<=l)
  (N:Nat) (hN:N<=fE) (hNb:N*16<=140737488355328) (ss:List (Int × Int)) (x:Int × Int) (W0:World) (h0:ybv w0 fn sv Bs l D ss W0) (hlen:ss.length<N) :
  li F m aY l #[y7b x] W0 fun e W'=>e=.returned (.bool true)/\ybv w0 fn sv Bs l D (ss++[x]) W'/\KeepsWalks W0 W':=by
 obtain⟨i0,hi,hz0,hz1,hz2⟩:=Go.info_parts yft
 have h1:ybv w0 fn sv Bs l D ss (W0.alloc (.cells #[.int .i64 x.1,.int .i64 x.2] 56)):=zgh w0 fn sv Bs l D W0.heap.size h0.below.size ss W0 _ none h0 (World.grownBy_alloc W0 _ none) (ai _) (fun r e=>by cases e)
 refine⟨fn,#[.slice none 0 0,sv,.pointer (some ⟨Bs,0,none⟩),bj,.slice none 0 0,bj,sv,y7b x,bj,bj,bj,bj,bj],yga,yg9,by simpa[y64] using Go.run_yield (P:=aY) (args:=#[y7b x]) h0.L rfl,Go.roundIn_of_wpIn hfn ?_⟩
 obtain⟨W,hW⟩:∃ W,W=W0.alloc (.cells #[.int .i64 x.1,.int .i64 x.2] 56):=⟨_,rfl⟩
 rw[<- hW] at h1
 have hdr0:w0.drawn<=W.drawn:=by rw[hW];exact h0.dr
 have hk0:KeepsWalks W0 W:=by rw[hW];exact KeepsWalks.alloc _ _
 obtain⟨v,hv,hrow,_⟩:=h1.box
 have hl:l<W.heap.size:=(aG.1 h1.L).1
 have hbr:=Go.run_beginRound (P:=aY) h1.L rfl
 obtain⟨W2,hW2⟩:∃ W2,W.putObj l (.loop { y64 fn sv Bs D .ready none with state:=.busy })=W2:=⟨_,rfl⟩
 rw[hW2] at hbr
 have hg2:W.grownBy W2 (some l):=by rw[<- hW2];exact y4h _ _ _
 have hk2:KeepsWalks W W2:=by rw[<- hW2];exact KeepsWalks.putObj _ h1.L rfl
 have hv2:W2.heap[Bs]? = some (.cells #[v] 105 (0,0)):=by rw[<- hW2];exact(World.putObj_heap_other hBl).trans hv
 have hK2:W2.heap[D]? = some (.deferred (some [])):=by rw[<- hW2];exact(World.putObj_heap_other hDl).trans h1.K
 have hL2:W2.heap[l]? = some (.loop { y64 fn sv Bs D .ready none with state:=.busy }):=by rw[<- hW2];exact World.putObj_heap_same hl
 have hrow2:W2.ownsRow w0.heap.size 56 2 v ss.length (ss.flatMap y4i):=hrow.kept hg2 (zc6 hrow h1.L (fun cur e=>by cases e))
 have hb2:Below w0.heap.size w0 W2:=h1.below.grown hg2 h1.below.size (fun k e=>by cases e;exact h0l)
 have hl0:l<W0.heap.size:=(aG.1 h0.L).1
 have hxb:W2.heap[W0.heap.size]? = some (.cells #[.int .i64 x.1,.int .i64 x.2] 56 (0,0)):=by
  rw[<- hW2,hW];exact(World.putObj_heap_other (by omega)).trans (World.alloc_heap_new W0 _)
 have hx1:W2.cell? ⟨W0.heap.size,0,none⟩=some (.int .i64 x.1):=by simp[World.cell?,hxb]
 have hx2:W2.cell? ⟨W0.heap.size,1,none⟩=some (.int .i64 x.2):=by simp[World.cell?,hxb]
 obtain⟨hc2,hf2⟩:=zef hv2
 have hBlt:Bs<W2.heap.size:=(aG.1 hv2).1
 have hl2:l<W2.heap.size:=(aG.1 hL2).1
 have hDlt:D<W2.heap.size:=(aG.1 hK2).1
 have ne_of:∀{j:Nat} {o:Go.Obj},W2.heap[j]? = some o->(∀ cur,o ≠ .cells cur 56 (0,0))->some j ≠ v.ownBlock:=fun hj hno=>by
  rcases zc6 hrow2 hj hno with e | e
  ·rw[e];simp
  ·exact fun e'=>e e'.symm
 have hdr2:w0.drawn<=W2.drawn:=by rw[<- hW2];exact hdr0
 clear hW2
 unfold yga
 simp only[fT,y75,cC]
 rw[hW] at hbr
 gi_wp2_with (rw[cD _ _ _ (fun c h=>by cases h)];go_simp;try go_bits)
 unfold yg9
 simp only[fT,y75,cC]
 gi_wp2_with (first
  |(
   gi_at_builtin;refine ybx (hg:=rfl) _ _ _ 105 rfl w0.heap.size 56 i0 (.agg #[.int .i64 0,.int .i64 0]) 2 16 ir hi hz0 hz1 hz2 rfl (by decide) _ _ _ rfl (hrow2.alloc _) ⟨W2.heap.size,0,none⟩ 1 1 (y4i x) rfl rfl (zs8 W2 x 56) (by intro u hu;simp at hu;rcases hu with rfl | rfl <;> rfl) (by omega) (by omega) (by have:=hb2.size;simp;omega) ?_;intro v' w3 hown' hg3 hd3
   have hv3:w3.heap[Bs]? = some (.cells #[v] 105 (0,0)):=(hg3.block Bs (by simp;omega) (ne_of hv2 (fun cur e=>by cases e))).trans ((Below.heap_alloc _ _ Bs hBlt).trans hv2)
   obtain⟨hc3,hf3⟩:=zef hv3
   obtain⟨g',cap',cur',rfl,hbase',hgb',hr1,hr2,hr3,hr4⟩:∃ g' cap' cur',v'=.slice (some ⟨g',0,none⟩) (ss.length+1) cap'/\w0.heap.size<=g'/\w3.heap[g']? = some (.cells cur' 56 (0,0))/\ss.length+1<=cap'/\cap'<=fE/\cur'.size=cap'*2/\cur'.toList.take ((ss.length+1)*2)=ss.flatMap y4i++y4i x:=by
    rcases hown'.2 with⟨_,h0⟩ | h'
    ·exact absurd h0 (by omega)
    ·exact h'
   go_frame)
  |(rw[cD _ _ _ (fun c h=>by cases h)];go_simp;try go_bits))
 have hg3':(W2.alloc (.cells #[.int .i64 x.1,.int .i64 x.2] 56)).grownBy w3 v.ownBlock:=hg3
 have hL3:w3.heap[l]? = some (.loop { y64 fn sv Bs D .ready none with state:=.busy }):=(hg3'.block l (by simp;omega) (ne_of hL2 (fun cur e=>by cases e))).trans ((Below.heap_alloc _ _ l hl2).trans hL2)
 have hK3:w3.heap[D]? = some (.deferred (some [])):=(hg3'.block D (by simp;omega) (ne_of hK2 (fun cur e=>by cases e))).trans ((Below.heap_alloc _ _ D hDlt).trans hK2)
 obtain⟨w4,hw4⟩:∃ w4,w3.setCell ⟨Bs,0,none⟩ (.slice (some ⟨g',0,none⟩) (ss.length+1) cap')=w4:=⟨_,rfl⟩
 rw[hw4]
 have hg4:w3.grownBy w4 (some Bs):=by rw[<- hw4];exact yab _ _ _
 have hv4:w4.heap[Bs]? = some (.cells #[.slice (some ⟨g',0,none⟩) (ss.length+1) cap'] 105 (0,0)):=by rw[<- hw4];exact zxs _ hv3
 have hL4:w4.heap[l]? = some (.loop { y64 fn sv Bs D .ready none with state:=.busy }):=(hg4.block l (aG.1 hL3).1 (fun e=>hBl (by cases e;rfl))).trans hL3
 have hK4:w4.heap[D]? = some (.deferred (some [])):=(hg4.block D (aG.1 hK3).1 (fun e=>hDB (by cases e;rfl))).trans hK3
 have hrow4:=hown'.kept hg4 (zc6 hown' hv3 (fun cur e=>by cases e))
 have hl4:l<w4.heap.size:=(aG.1 hL4).1
 have hb3:Below w0.heap.size w0 w3:=(hb2.alloc hb2.size _).grown hg3' (by have:=hb2.size;simp;omega) (fun k e=>(hrow2.lt k e).1)
 have hb4:Below w0.heap.size w0 w4:=hb3.grown hg4 hb3.size (fun k e=>by cases e;exact h0B)
 have hk4:KeepsWalks W0 w4:=(hk0.trans hk2).trans (((KeepsWalks.alloc _ _).trans (KeepsWalks.of_grownBy hg3' (zfa (hrow2.alloc _)))).trans (by rw[<- hw4];exact KeepsWalks.setCell _ _ _))
 have hdr4:w0.drawn<=w4.drawn:=by rw[<- hw4];exact aJ hdr2 hd3
 clear hw4
 refine⟨_,_,Go.run_endRound none hL4,rfl,⟨⟨_,(World.putObj_heap_other hBl).trans hv4,?_,by simp⟩,World.putObj_heap_same hl4,(World.putObj_heap_other hDl).trans hK4,hb4.grown (y4h _ _ _) hb4.size (fun k e=>by cases e;exact h0l),hdr4⟩,hk4.trans (KeepsWalks.putObj _ hL4 rfl)⟩
 have:=hrow4.kept (y4h w4 l (.loop { { y64 fn sv Bs D .ready none with state:=.busy } with state:=if(none:Option Code).isNone then .ready else .done,pending:=none })) (zc6 hrow4 hL4 (fun cur e=>by cases e))
 simpa using this

set_option maxRecDepth 100000 in
theorem zgg(F:Fence)(n:Nat)(h11:F.fn 123)(hro:F.round=none)(hn:2<=n)(g:Nat)(lb:Array Value)(hFg:F.fn g)(eg:∀ args w,(iu g args).run aY w=.ok (.enter g args) w)
  (S:List (Int × Int)->Prop) (N:Nat) (hN:N<=fE) (hNb:N*16<=140737488355328) (w:World) (hseq:ygd F (n - 1) aY g lb S N w) :
  CallsIn F n aY 123 #[.slice none 0 0,.func (.func g) #[] lb] w fun e w'=>∃(v:Value) (ss:List (Int × Int)),e=.returned v/\S ss/\w'.ownsRow w.heap.size 56 2 v ss.length (ss.flatMap y4i)/\(v=.slice none 0 0 ↔ ss=[])/\Below w.heap.size w w'/\w.drawn<=w'.drawn:=by
 have h1:1<=n:=by omega
 refine Go.callsIn_of_wp_marks pI rfl h11 ?_ hro
 simp only[nH,bL,aA,ba,gK,iK,dT,fM,gA,fS,bh,aO]
 gi_wp2
 refine Go.wpIn_rangeFunc ?_
 intro fn hfn
 rw[hro]
 obtain⟨W0,hW0⟩:∃ W0,w.alloc (.cells #[.slice none 0 0] 105)=W0:=⟨_,rfl⟩
 have hs0:W0.heap.size=w.heap.size+1:=by rw[<- hW0];simp
 have hv0:W0.heap[w.heap.size]? = some (.cells #[.slice none 0 0] 105 (0,0)):=by rw[<- hW0];exact World.alloc_heap_new w _
 have hb0:Below w.heap.size w W0:=by rw[<- hW0];exact(Below.refl _ w).alloc (ai _) _
 have hd0:w.drawn=W0.drawn:=by rw[<- hW0];rfl
 rw[hW0]
 obtain⟨W1,hW1⟩:∃ W1,(W0.alloc (.deferred (some []))).alloc (.loop (y64 fn (.func (.func g) #[] lb) w.heap.size W0.heap.size .ready none))=W1:=⟨_,rfl⟩
 have y5r:∀ k,k<W0.heap.size->W1.heap[k]? = W0.heap[k]?:=fun k hk=>by
  rw[<- hW1];exact(Below.heap_alloc _ _ k (by simp;omega)).trans (Below.heap_alloc _ _ k hk)
 have hb1:Below w.heap.size w W1:=by rw[<- hW1];exact(hb0.alloc hb0.size _).alloc (by have:=hb0.size;simp;omega) _
 have hs1:W1.heap.size=W0.heap.size+2:=by rw[<- hW1];simp
 have hM:ybv w fn (.func (.func g) #[] lb) w.heap.size (W0.heap.size+1) W0.heap.size [] W1:=
  ⟨⟨_,(y5r w.heap.size (by omega)).trans hv0,⟨rfl,.inl ⟨rfl,rfl⟩⟩,by simp⟩,
   by rw[<- hW1];have:=World.alloc_heap_new (W0.alloc (.deferred (some []))) (.loop (y64 fn (.func (.func g) #[] lb) w.heap.size W0.heap.size .ready none));rwa [World.size_alloc] at this,
   by rw[<- hW1];exact(Below.heap_alloc _ _ _ (by simp)).trans (World.alloc_heap_new W0 _),hb1,by rw[<- hW1];exact Nat.le_of_eq hd0⟩
 refine⟨W0.heap.size+1,[{ target:=.collected W0.heap.size,args:=#[] }],W1,{ target:=.fn (.func g) lb,args:=#[.func (.yield (W0.heap.size+1)) #[] #[]] },W1,g,
  #[.func (.yield (W0.heap.size+1)) #[] #[]]++lb,W1,?_,?_,?_,?_,fun _=>h1,?_⟩
 ·rw[<- hW1];exact Go.run_enterLoop_outer _ _ _ _ _
 ·simp[Go.resolve,go_sem]
 ·intro f' hf';simp[Go.Target.leads] at hf';subst hf';exact hFg
 ·simp[Go.invoke,go_sem,eg]
 ·refine(hseq (W0.heap.size+1) (ybv w fn (.func (.func g) #[] lb) w.heap.size (W0.heap.size+1) W0.heap.size) W1 hb1 (zgh _ _ _ _ _ _ _ hb1.size)
   (fun pre x W hJ hl=>ybd F (n - 1 - 1) w fn hfn _ w.heap.size (W0.heap.size+1) W0.heap.size (by omega) (by omega) (by omega) (ai _) (by omega) N hN hNb pre x W hJ hl) hM).mono ?_
  rintro e W2 ⟨⟨v0,rfl⟩,ss,hS,h2⟩
  obtain⟨v,hv,hrow,hnil⟩:=h2.box
  have hend:=Go.run_endLoop (P:=aY) h2.L (by simp[y64])
  obtain⟨W3,hW3⟩:∃ W3,W2.putObj (W0.heap.size+1) (.loop { y64 fn (.func (.func g) #[] lb) w.heap.size W0.heap.size .ready none with state:=.exhausted })=W3:=⟨_,rfl⟩
  rw[hW3] at hend
  have hg3:W2.grownBy W3 (some (W0.heap.size+1)):=by rw[<- hW3];exact y4h _ _ _
  have hv3:W3.heap[w.heap.size]? = some (.cells #[v] 105 (0,0)):=by rw[<- hW3];exact(World.putObj_heap_other (by omega)).trans hv
  have hK3:W3.heap[W0.heap.size]? = some (.deferred (some [])):=by rw[<- hW3];exact(World.putObj_heap_other (by omega)).trans h2.K
  have hrow3:=hrow.kept hg3 (zc6 hrow h2.L (fun cur e=>by cases e))
  have hb3:Below w.heap.size w W3:=h2.below.grown hg3 h2.below.size (fun k e=>by cases e;omega)
  have hd3:w.drawn<=W3.drawn:=by rw[<- hW3];exact h2.dr
  obtain⟨hc3,hf3⟩:=zef hv3
  clear hW3
  refine⟨none,W3,hend,?_⟩
  gi_wp2
  rw[<- hs0]
  refine⟨by simp,.inl ⟨_,_,rfl,Go.run_takeDeferred hK3,?_⟩⟩
  exact⟨_,Go.results_tmp rfl _ _ _,v,ss,rfl,hS,hrow3.kept (y4h _ _ _) (zc6 hrow3 hK3 (fun cur e=>by cases e)),hnil,hb3.grown (y4h _ _ _) hb3.size (fun k e=>by cases e;omega),hd3⟩

theorem zmn(F:Fence)(n:Nat)(h8:F.fn 97)(h11:F.fn 123)(hro:F.round=none)(hn:3<=n)(g:Nat)(lb:Array Value)(hFg:F.fn g)(eg:∀ args w,(iu g args).run aY w=.ok (.enter g args) w)
  (S:List (Int × Int)->Prop) (N:Nat) (hN:N<=fE) (hNb:N*16<=140737488355328) (w:World) (hseq:ygd F (n - 1 - 1) aY g lb S N w) :
  CallsIn F n aY 97 #[.func (.func g) #[] lb] w fun e w'=>∃(v:Value) (ss:List (Int × Int)),e=.returned v/\S ss/\w'.ownsRow w.heap.size 56 2 v ss.length (ss.flatMap y4i)/\(v=.slice none 0 0 ↔ ss=[])/\Below w.heap.size w w'/\w.drawn<=w'.drawn:=by
 have h1:1<=n:=by omega
 refine i9 rc rfl h8 ?_ hro
 simp only[pK,bL,aA,ba,gK,iK,dT,fM,gA,fS,bh,aO]
 gi_wp2_with (gi_at_call 123;refine(zgg F (n - 1) h11 hro (by omega) g lb hFg eg S N hN hNb _ hseq).mono ?_;rintro e w' ⟨v,ss,rfl,hS,hrow,hnil,hb,hd⟩)
 go_ret
 exact⟨v,ss,rfl,hS,hrow,hnil,hb,hd⟩
theorem zny(k:Nat)(C:y5l aY 85 k)(hN:∀(p:Option Go.Addr) (cap:Nat) (fv:Value) (w:World),Go.Calls aY 85 #[.slice p 0 cap,fv] w fun e w'=>e=.returned (.tuple #[])/\w'=w)
  (Bm off b clock:Nat) (es:Array MapEntry) (ks:List (Int × Int)) (hst:y3l es clock) (hks:es.toList.map (fun e=>e.key)=ks.map y7b) (hlen:ks.length<=1000000) (w:World) (hG:GL w)
  (hm:w.cell? ⟨Bm,off,none⟩=some (.map (some b))) (hb:w.heap[b]? = some (.map es clock)) :
  CallsIn Fence.wide 6 aY 70 #[.func (.func 98) #[] #[.pointer (some ⟨Bm,off,none⟩)],.func (.func k) #[] #[]] w (y6w w ks):=by
 have hBm:Bm<w.heap.size:=by
  rw[cell?_eq] at hm;exact z3w hm
 have hseq:=zls Fence.wide (6 - 1 - 1 - 1) trivial rfl (by omega) Bm off b clock es ks hst hks w hBm hm hb
 refine i9 re rfl trivial ?_ rfl
 simp only[pL,bL,aA,ba,gK,iK,dT,fM,gA,fS,bh,aO]
 gi_wp2
 refine⟨trivial,?_⟩
 refine(zmn Fence.wide (6 - 1) trivial trivial rfl (by omega) 98 _ trivial (Go.Proofs.enters_of gX (by kernel_rfl) rfl) _ ks.length (by unfold fE;omega) (by omega) _ hseq).mono ?_
 rintro e w1 ⟨v,ss,rfl,hS,hrow,hnil,hb1,hd1⟩
 gi_wp2
 refine⟨trivial,?_⟩
 have hlen2:ss.length=ks.length:=hS.length_eq
 by_cases h0:ss=[]
 ·have hv:=hnil.2 h0
  subst hv
  refine(dU.2 (hN none 0 _ w1)).mono ?_
  rintro e w2 ⟨rfl,rfl⟩
  gi_wp2
  go_ret
  have hk0:ks=[]:=by
   rw[h0] at hlen2
   exact List.eq_nil_of_length_eq_zero hlen2.symm
  exact⟨hb1,hd1,.inl ⟨hk0,rfl⟩⟩
 ·obtain⟨g,cap,rfl⟩:∃ g cap,v=.slice (some ⟨g,0,none⟩) ss.length cap:=by
   rcases hrow.2 with⟨h1,_⟩ | ⟨g',cap',cur,hv,_⟩
   ·exact absurd (hnil.1 h1) h0
   ·exact⟨g',cap',hv⟩
  obtain⟨_,arr,hgc,_,hbase,hlc,_⟩:=row_holds hrow
  refine(dU.2 (zf6 C hrow (by omega) hG hb1)).mono ?_
  rintro e w2 ⟨rfl,hb2,hd2,hcell⟩
  gi_wp2
  go_ret
  refine⟨hb1.trans hb2,aJ hd1 hd2,.inr ⟨g,cap,rfl,by omega,hbase,?_⟩⟩
  rw[<- zdk hS]
  exact hcell
theorem keyN(gi kk:Nat)(h:F gi=some kk)(hk:[409].contains kk=true):gi=98:=by
 have h1:=z4u h
 have h2:(fl.all fun p=>![409].contains p.2 || p.1 == 98)=true:=by decide +kernel
 have h3:=aD.1 h2 _ h1
 simp only[hk,jV,gJ] at h3
 simpa using h3
theorem keyC(g k:Nat)(h:F g=some k)(hk:[386].contains k=true):g=68:=by
 have h1:=z4u h
 have h2:(fl.all fun p=>![386].contains p.2 || p.1 == 68)=true:=by decide +kernel
 have h3:=aD.1 h2 _ h1
 simp only[hk,jV,gJ] at h3
 simpa using h3
theorem yb4:yau P 70 98 68:=fun Bm off b clock es ks w hst hks hlen hG hm hb=>
 dU.1 (zny 68 (y5l.of y99 rfl gG gv y9m) (fun p cap fv w=>gq y99 p cap fv w) Bm off b clock es ks hst hks hlen w hG hm hb)
theorem l70:y79 P E T F (33,0) 70 388:=zlr (p:=1) (it:=[409]) (cmp:=[386]) (G:=f388) rfl rfl rfl rfl (fun gi kk g k h1 h2 hi hk=>by
 rw[keyN gi kk h1 hi,keyC g k h2 hk]
 exact yb4)

theorem l73:∀ n,y1v P (CLk T F true) F (y1o E (dC E n) 356) 73:=zms (c:=70) (fn:=kq) (code:=kq.body.getD .skip) types ych rfl rf rfl rfl rfl (by kernel_rfl)

set_option maxRecDepth 100000 in
theorem tie:Tie P E T F:=zur (pt:=(33,0)) types mixed ych (y1g (z6 l4 rfl) (y1g (z6 l5 rfl) (y1g (z6 l11 rfl) (y1g (z6 l12 rfl) (y1g (z6 l13 rfl) (y1g (z6 l15 rfl) (y1g (z6 l16 rfl) (y1g (z6 l17 rfl) (y1g (z6 l18 rfl) (y1g (z6 l19 rfl) (y1g (z6 l20 rfl) (y1g (z6 l21 rfl) (y1g (z6 l22 rfl) (y1g (z6 l23 rfl) (y1g (z6 l26 rfl) (y1g (z6 l32 rfl) (y1g (z6 l33 rfl) (y1g (z6 l34 rfl) (y1g (z6 l35 rfl) (y1g (z6 l36 rfl) (y1g (z6 l37 rfl) (y1g (z6 l38 rfl) (y1g (z6 l39 rfl) (y1g (z6 l41 rfl) (y1g (z6 l42 rfl) (y1g (z6 l43 rfl) (y1g (z6 l44 rfl) (y1g (z6 l45 rfl) (y1g (z6 l46 rfl) (y1g (z6 l47 rfl) (y1g (z6 l48 rfl) (y1g (z6 l49 rfl) (y1g (z6 l50 rfl) (y1g (z6 l58 rfl) (y1g (z6 l59 rfl) (y1g (z6 l60 rfl) (y1g (z6 l61 rfl) (y1g (z6 l62 rfl) (y1g (z6 l63 rfl) (y1g (z6 l64 rfl) (y1g (z6 l65 rfl) (y1g (z6 l66 rfl) (y1g (z6 l67 rfl) (y1g (z6 l68 rfl) (y1g (z6 l69 rfl) (y1g (z83 l70) (y1g (z6 l71 rfl) (y1g (z6 l72 rfl) (y1g (zmb l73) (y1g (z6 l78 rfl) (y1g (z6 l79 rfl) (y1g (z6 l80 rfl) (y1g (z6 l81 rfl) (y1g (z6 l82 rfl) (y1g (z6 l83 rfl) (y1g (z6 l84 rfl) (y1g (z83 l85) (y1g (z6 l86 rfl) (y1g (z6 l87 rfl) (y1g (z6 l88 rfl) (y1g (z6 l89 rfl) (y1g (z6 l90 rfl) (y1g (z6 l91 rfl) (y1g (z6 l92 rfl) (y1g (z6 l96 rfl) (y1g (z6 l98 rfl) (y1g (z6 l110 rfl) (y1g (z6 l111 rfl) (y1g (z6 l112 rfl) (y1g (z6 l113 rfl) (y1g (z6 l114 rfl) (y1g (z6 l117 rfl) (y1g (z6 l118 rfl) (y1g (z6 l119 rfl) (y1g (z6 l120 rfl) (y1g (z6 l121 rfl) (y1g (z6 l138 rfl) (y1g (z6 l139 rfl) (y1g (z6 l140 rfl) (y1g (z6 l151 rfl) (y1g (z6 l152 rfl) (y1g (z83 l153) (y1g (z6 l154 rfl) (y1g (z6 l155 rfl) (y1g (z6 l163 rfl) (y1g (z6 l164 rfl) (y1g (z6 l165 rfl) (y1g (z6 l166 rfl) (y1g (z6 l172 rfl) (y1g (z6 l173 rfl) (y1g (z6 l174 rfl) (y1g (z6 l175 rfl) (y1g (z6 l176 rfl) (y1g (z6 l177 rfl) (y1g (z6 l178 rfl) (y1g (z6 l179 rfl) (y1g (z6 l180 rfl) (y1g (z6 l182 rfl) (y1g (z6 l183 rfl) (y1g (z6 l184 rfl) (y1g (z6 l185 rfl) (y1g (z6 l186 rfl) (y1g (z6 l187 rfl) (y1g (z6 l188 rfl) (alln)))))))))))))))))))))))))))))))))))))))))))))))))))))))))))))))))))))))))))))))))))))))))))))))))))))))))

end Dv.Tryz
