/- Texts that a proof of this claim uses, joined: Dv.LinkTryd. -/
import Derived.Test.YtfagnjchgplecaaDoorDvd
import Derived.Test.YtfagnjchgplecaaDoorCode
import Derived.WalkKit
import Derived.RecoverIn
import Derived.Lib.Walk
import Derived.Lib.SliceRun
import Derived.Lib.AppendZerosOnto
import Derived.Test.YtfagnjchgplecaaDoorSh
import Derived.Test.YtfagnjchgplecaaDoorWa
import Derived.Test.YtfagnjchgplecaaDoorChecked
import Derived.KernelRfl
set_option linter.all false
open Go renaming Value->mJ,run_makeInterface->fq
open Go.Builtin renaming zeroCells->bT
open Go.Proofs.AnyF renaming slices_SortFunc_none->jY
open Go.Proofs.SlLaysF0 renaming n6->jk
open Go.Proofs.Tryd renaming f48->jV,func103->iT,func114->nL,func115->nM,func116->nN,func117->nO,func118->nP,func119->nQ,func120->nR,func121->nS,func122->nT,func123->nU,func124->iU,func125->nC,func126->nD,func127->nE,func128->nF,func129->nG,func130->nH,func131->nI,func132->nJ,func133->nK,func14->oJ,func140->nV,func141->nW,func142->nX,func143->nY,func144->nZ,func150->n5,func16->oK,func18->oP,func20->oQ,func21->oT,func22->oU,func23->oV,func24->oW,func25->oY,func26->oZ,func27->o5,func29->o6,func30->o7,func31->o8,func45->o9,func46->pb,func47->pd,func48->pM,func5->p9,func51->pe,func53->pE,func54->jg,func55->pf,func56->pg,func57->ph,func58->pj,func59->pm,func80->pq,func81->pF,func82->pG,func83->jh,func84->ji,func85->pw,func86->pz,func87->jj,func88->pB,func89->pD,isAgg0->pH,isAgg139->mZ,isAgg142->na,isAgg147->nb,isAgg180->m7,isAgg181->m8,isAgg185->m9,isAgg202->nc,isAgg205->nf,isAgg212->nh,isAgg213->ni,isAgg25->iW,isAgg3->pI,isAgg39->od,isAgg4->pJ,isAgg5->pK,isAgg9->pL,isAgg99->og,ntmps87->iV,prog->dQ,sizeOf0->n7,sizeOf139->mL,sizeOf142->mP,sizeOf147->mQ,sizeOf180->mM,sizeOf181->mN,sizeOf185->mO,sizeOf202->mR,sizeOf205->mS,sizeOf212->mT,sizeOf213->mU,sizeOf25->iD,sizeOf3->n8,sizeOf39->mX,sizeOf4->n9,sizeOf5->oa,sizeOf9->oc,sizeOf99->mY,underlying0->lU,underlying139->k7,underlying142->lc,underlying147->lg,underlying180->k8,underlying181->k9,underlying185->la,underlying202->lh,underlying205->lj,underlying212->lm,underlying213->lp,underlying3->lV,underlying39->lw,underlying4->lW,underlying5->lX,underlying9->lY,underlying99->ly,zeroValue0->mb,zeroValue139->lz,zeroValue142->lD,zeroValue147->lE,zeroValue180->lA,zeroValue181->lB,zeroValue185->lC,zeroValue202->lF,zeroValue205->lG,zeroValue212->lH,zeroValue213->lI,zeroValue3->mc,zeroValue39->lZ,zeroValue4->mf,zeroValue5->mg,zeroValue9->mh,zeroValue99->l4
open Option.some renaming injEq->aa
set_option maxHeartbeats 16000000
namespace Dv.Tryd
open Go (Program)

open Go.RowKit
open Go (Value World Act Oper Operand Code Ending Exit MapEntry Fence CallsIn KeepsWalks)
noncomputable abbrev P:Program:=dQ

def tl:List (Nat × Nat):=[(3,2),(4,7),(5,13),(9,53),(22,70),(23,66),(25,65),(28,3),(35,69),(39,67),(43,68),(46,73),(48,71),(50,72),(51,6),(57,30),(61,54),(68,56),(70,55),(73,10),(74,9),(75,14),(77,0),(78,36),(107,60),(110,18),(112,17),(113,16),(115,15),(117,37),(124,75),(139,12),(142,78),(143,76),(144,77),(147,63),(148,74),(151,59),(153,58),(154,62),(162,20),(164,21),(168,19),(180,79),(189,80),(193,81),(196,57),(202,82),(207,64)]

def fl:List (Nat × Nat):=[(5,326),(14,314),(16,316),(18,318),(20,320),(21,322),(22,323),(23,324),(24,325),(25,327),(26,329),(27,331),(29,334),(30,335),(31,337),(45,353),(46,354),(47,355),(48,356),(51,359),(53,361),(54,362),(55,363),(56,364),(57,365),(58,366),(59,264),(80,380),(83,105),(84,74),(85,404),(86,383),(87,384),(88,281),(89,282),(103,386),(124,107),(125,405),(126,406),(127,407),(128,297),(129,298),(130,312),(131,311),(132,299),(133,300)]

def T:Phi:=y73 tl
def F:Phi:=y73 fl

theorem types:y2o P E T:=zs3 (by kernel_rfl)
theorem mixed:P.follows .mixedOrders=true:=by kernel_rfl
theorem ybe:y2n P F:=zgt (by kernel_rfl)

theorem pt1:P.concrete (28,0).1=true:=by kernel_rfl
theorem pt2:P.concrete (28,0).2=true:=by kernel_rfl
theorem l5:FnL P T F 5 f326:=zi p9 (by kernel_rfl) (by kernel_rfl)
theorem l14:FnL P T F 14 f314:=zi oJ (by kernel_rfl) (by kernel_rfl)
theorem l16:FnL P T F 16 f316:=zi oK (by kernel_rfl) (by kernel_rfl)
theorem l18:FnL P T F 18 f318:=zi oP (by kernel_rfl) (by kernel_rfl)
theorem l20:FnL P T F 20 f320:=zi oQ (by kernel_rfl) (by kernel_rfl)
theorem l21:FnL P T F 21 f322:=zi oT (by kernel_rfl) (by kernel_rfl)
theorem l22:FnL P T F 22 f323:=zi oU (by kernel_rfl) (by kernel_rfl)
theorem l23:FnL P T F 23 f324:=zi oV (by kernel_rfl) (by kernel_rfl)
theorem l24:FnL P T F 24 f325:=zi oW (by kernel_rfl) (by kernel_rfl)
theorem l25:FnL P T F 25 f327:=zi oY (by kernel_rfl) (by kernel_rfl)
theorem l26:FnL P T F 26 f329:=zi oZ (by kernel_rfl) (by kernel_rfl)
theorem l27:FnL P T F 27 f331:=zi o5 (by kernel_rfl) (by kernel_rfl)
theorem l29:FnL P T F 29 f334:=zi o6 (by kernel_rfl) (by kernel_rfl)
theorem l30:FnL P T F 30 f335:=zi o7 (by kernel_rfl) (by kernel_rfl)
theorem l31:FnL P T F 31 f337:=zi o8 (by kernel_rfl) (by kernel_rfl)
theorem l45:FnL P T F 45 f353:=zi o9 (by kernel_rfl) (by kernel_rfl)
theorem l46:FnL P T F 46 f354:=zi pb (by kernel_rfl) (by kernel_rfl)
theorem l47:FnL P T F 47 f355:=zi pd (by kernel_rfl) (by kernel_rfl)
theorem l51:FnL P T F 51 f359:=zi pe (by kernel_rfl) (by kernel_rfl)
theorem l54:FnL P T F 54 f362:=zi jg (by kernel_rfl) (by kernel_rfl)
theorem l55:FnL P T F 55 f363:=zi pf (by kernel_rfl) (by kernel_rfl)
theorem l56:FnL P T F 56 f364:=zi pg (by kernel_rfl) (by kernel_rfl)
theorem l57:FnL P T F 57 f365:=zi ph (by kernel_rfl) (by kernel_rfl)
theorem l58:FnL P T F 58 f366:=zi pj (by kernel_rfl) (by kernel_rfl)
theorem l59:FnL P T F 59 f264:=zi pm (by kernel_rfl) (by kernel_rfl)
theorem l80:FnL P T F 80 f380:=zi pq (by kernel_rfl) (by kernel_rfl)
theorem l83:FnL P T F 83 f105:=zi jh (by kernel_rfl) (by kernel_rfl)
theorem l84:FnL P T F 84 f74:=zi ji (by kernel_rfl) (by kernel_rfl)
theorem l85:FnL P T F 85 f404:=zi pw (by kernel_rfl) (by kernel_rfl)
theorem l86:FnL P T F 86 f383:=zi pz (by kernel_rfl) (by kernel_rfl)
theorem l88:FnL P T F 88 f281:=zi pB (by kernel_rfl) (by kernel_rfl)
theorem l89:FnL P T F 89 f282:=zi pD (by kernel_rfl) (by kernel_rfl)
theorem l103:FnL P T F 103 f386:=zi iT (by kernel_rfl) (by kernel_rfl)
theorem l124:FnL P T F 124 f107:=zi iU (by kernel_rfl) (by kernel_rfl)
theorem l125:FnL P T F 125 f405:=zi nC (by kernel_rfl) (by kernel_rfl)
theorem l126:FnL P T F 126 f406:=zi nD (by kernel_rfl) (by kernel_rfl)
theorem l127:FnL P T F 127 f407:=zi nE (by kernel_rfl) (by kernel_rfl)
theorem l128:FnL P T F 128 f297:=zi nF (by kernel_rfl) (by kernel_rfl)
theorem l129:FnL P T F 129 f298:=zi nG (by kernel_rfl) (by kernel_rfl)
theorem l130:FnL P T F 130 f312:=zi nH (by kernel_rfl) (by kernel_rfl)
theorem l131:FnL P T F 131 f311:=zi nI (by kernel_rfl) (by kernel_rfl)
theorem l132:FnL P T F 132 f299:=zi nJ (by kernel_rfl) (by kernel_rfl)
theorem l133:FnL P T F 133 f300:=zi nK (by kernel_rfl) (by kernel_rfl)

theorem hmk(b:Bool)(v:mJ)(w:Go.World):(Go.Instr.makeInterface (if b=true then((28,0):Nat × Nat).2 else((28,0):Nat × Nat).1) v).run P w=.ok (.iface (if b=true then((28,0):Nat × Nat).2 else((28,0):Nat × Nat).1) v) w:=by
 cases b
 ·exact fq w _ v pt1
 ·exact fq w _ v pt2


section
open Go Go.Proofs Go.RowKit
set_option maxRecDepth 100000 in
theorem zlv(base:Option Addr)(w:World):Calls dQ 87 #[.slice base 0 0,.int .i64 0] w fun e w'=>e=.returned (.slice base 0 0)/\w'=w:=by
 go_enter jj,iV
 go_wp2
 go_ret
 exact⟨rfl,rfl⟩

set_option maxRecDepth 100000 in
theorem zlw(i0:TypeInfo)(z:Value)(hi0:dQ.info? 5=some i0)(hz0:i0.zero=some z)(hs0:0<i0.size)(base:Option Addr)(n:Nat)(w:World)(hroom:0<n)(hbig:n*i0.bytes<=140737488355328)(h63:n<=4611686018427387904) :
  Calls dQ 87 #[.slice base 0 0,.int .i64 n] w fun e w'=>e=.returned (.slice (some ⟨w.heap.size,0,none⟩) 0 (grownCap w n 0 5)) /\
   w'=w.drew.alloc (.cells (Builtin.zeroCells z.cells n++Builtin.zeroCells z.cells (grownCap w n 0 5 - n)) 5):=by
 have h1 : ¬ ((n:Int)<0):=by omega
 have h4:(n:Int) > 0:=by omega
 have hw0:wrap64 (n:Int)=(n:Int):=by unfold wrap64;omega
 have hrz:∀ ty,(Builtin.append_ #[57,3] ty #[.slice base 0 0,.int .i64 (n:Int)]).run dQ w =
   .ok (.slice (some ⟨w.heap.size,0,none⟩) n (grownCap w n 0 5)) (w.drew.alloc (.cells (Builtin.zeroCells z.cells n++Builtin.zeroCells z.cells (grownCap w n 0 5 - n)) 5)):=fun ty=>by
  have y5k:(Builtin.firstCells i0.size 0 (.slice base 0 0)).run dQ w.drew=.ok ([]:List Value).toArray w.drew:=by
   cases base with
   |none=>exact run_firstCells_none w.drew i0.size 0 0 0
   |some a=>exact run_firstCells_some w.drew i0.size 0 a 0 0 [] (by simp) (fun j v hj=>by simp at hj)
  have h:=Lib.run_append_grow_zeros w 57 3 ty 5 i0 z .i64 .i64 (by kernel_rfl) (by kernel_rfl) hi0 hz0 base 0 0 [] y5k n (by omega) hs0 (by omega) (by omega)
   (by omega) (by rw[Nat.zero_add];exact growslice_fits hroom hbig)
  simpa using h
 go_enter jj,iV
 go_wp2_with (at_builtin;refine Lib.wpList_append_run _ rfl _ _ _ _ rfl _ _ rfl rfl _ _ (hrz _) ?_)
 all_goals (go_ret;exact⟨rfl,rfl⟩)
end

theorem za3(z:Array mJ)(n:Nat):(bT z n).size=n*z.size:=by simp[bT]

theorem z68:∀{l:List mJ} {ds:List D},y20 l=some ds->l.length=ds.length
 |[],ds,h=>by simp[y20] at h;subst h;rfl
 |v::l,ds,h=>by
  simp only[y20] at h
  split at h
  ·rename_i d r h1 h2
   simp only[aa] at h;subst h
   simp[z68 h2]
  ·simp at h

theorem ybb:y9s P 87 (E.ty 13).bytes (E.ty 13).size:=by
 obtain⟨i0,hi0,hsz,hby,hz⟩:=(types 5 13 rfl).info
 obtain⟨z,hz0,hzl,_⟩:=hz (by decide) (by decide)
 have hzs:z.cells.size=(E.ty 13).size:=by
  have:=z68 hzl
  rw[Array.length_toList] at this
  rw[this];decide
 have hpos:0<i0.size:=by rw[hsz];decide
 rw[<- hsz,<- hby]
 constructor
 ·intro base w
  exact zlv base w
 ·intro base n w hn hb hn2
  have:=zlw i0 z hi0 hz0 hpos base n w hn hb hn2
  have hG:=Go.grownCap_ge w n 0 5
  generalize Go.grownCap w n 0 5=G at this hG
  refine this.mono ?_
  rintro e w' ⟨rfl,rfl⟩
  refine⟨G,5,_,?_,rfl,rfl,⟨rfl,rfl,rfl,Nat.le_succ _⟩⟩
  simp only[Array.size_append,za3,hzs,hsz]
  rw[<- Nat.add_mul,show n+(G - n)=G from by omega]

theorem l87:y6e P E T F (28,0) 87 384:=zix (c:=30) (i:=2) (e:=13) (G:=f384) rfl rfl rfl rfl ybb


def y9w:Go.Shelf.Ren:={ f:=fun | 6=>53 | 15=>82 | 14=>81 | 28=>122 | 29=>123 | 20=>114 | 21=>115 | 22=>116 | 23=>117 | 24=>118 | 25=>119 | 26=>120 | 27=>121 | 46=>140 | 47=>141 | 48=>142 | 49=>143 | 50=>144 | 57=>150 | n=>n,t:=fun | 22=>39 | 24=>25 | 25=>99 | 3=>3 | 39=>139 | 0=>0 | 53=>142 | 55=>147 | 4=>4 | 46=>181 | 45=>180 | 50=>185 | 5=>5 | 9=>9 | 66=>202 | 70=>205 | 76=>212 | 77=>213 | n=>n,g:=fun n=>n }
set_option maxRecDepth 100000 in
theorem y9x:jk P y9w where
 mixed:=mixed
 f6:=⟨ "slices.SortFunc[[]overflight/api.Account,overflight/api.Account]",by decide,pE.trans (congrArg some (by kernel_rfl))⟩
 f14:=⟨ "slices.pdqsortCmpFunc[overflight/api.Account]",by decide,pF.trans (congrArg some (by kernel_rfl))⟩
 f15:=pG.trans (congrArg some (by kernel_rfl))
 f20:=⟨ "slices.insertionSortCmpFunc[overflight/api.Account]",by decide,nL.trans (congrArg some (by kernel_rfl))⟩
 f21:=⟨ "slices.heapSortCmpFunc[overflight/api.Account]",by decide,nM.trans (congrArg some (by kernel_rfl))⟩
 f22:=⟨ "slices.breakPatternsCmpFunc[overflight/api.Account]",by decide,nN.trans (congrArg some (by kernel_rfl))⟩
 f23:=⟨ "slices.choosePivotCmpFunc[overflight/api.Account]",by decide,nO.trans (congrArg some (by kernel_rfl))⟩
 f24:=⟨ "slices.reverseRangeCmpFunc[overflight/api.Account]",by decide,nP.trans (congrArg some (by kernel_rfl))⟩
 f25:=⟨ "slices.partialInsertionSortCmpFunc[overflight/api.Account]",by decide,nQ.trans (congrArg some (by kernel_rfl))⟩
 f26:=⟨ "slices.partitionEqualCmpFunc[overflight/api.Account]",by decide,nR.trans (congrArg some (by kernel_rfl))⟩
 f27:=⟨ "slices.partitionCmpFunc[overflight/api.Account]",by decide,nS.trans (congrArg some (by kernel_rfl))⟩
 f28:=nT.trans (congrArg some (by kernel_rfl))
 f29:=nU.trans (congrArg some (by kernel_rfl))
 f46:=⟨ "slices.siftDownCmpFunc[overflight/api.Account]",by decide,nV.trans (congrArg some (by kernel_rfl))⟩
 f47:=nW.trans (congrArg some (by kernel_rfl))
 f48:=nX.trans (congrArg some (by kernel_rfl))
 f49:=⟨ "slices.medianAdjacentCmpFunc[overflight/api.Account]",by decide,nY.trans (congrArg some (by kernel_rfl))⟩
 f50:=⟨ "slices.medianCmpFunc[overflight/api.Account]",by decide,nZ.trans (congrArg some (by kernel_rfl))⟩
 f57:=⟨ "slices.order2CmpFunc[overflight/api.Account]",by decide,n5.trans (congrArg some (by kernel_rfl))⟩
 t0:=lU
 a0:=pH
 z0:=n7
 v0:=mb
 t3:=lV
 a3:=pI
 z3:=n8
 v3:=mc
 t4:=lW
 a4:=pJ
 z4:=n9
 v4:=mf
 t5:=lX
 a5:=pK
 z5:=oa
 v5:=mg
 t9:=lY
 a9:=pL
 z9:=oc
 v9:=mh
 t22:=lw
 a22:=od
 z22:=mX
 v22:=lZ
 t25:=ly
 a25:=og
 z25:=mY
 v25:=l4
 t39:=k7
 a39:=mZ
 z39:=mL
 v39:=lz
 t45:=k8
 a45:=m7
 z45:=mM
 v45:=lA
 t46:=k9
 a46:=m8
 z46:=mN
 v46:=lB
 t50:=la
 a50:=m9
 z50:=mO
 v50:=lC
 t53:=lc
 a53:=na
 z53:=mP
 v53:=lD
 t55:=lg
 a55:=nb
 z55:=mQ
 v55:=lE
 t66:=lh
 a66:=nc
 z66:=mR
 v66:=lF
 t70:=lj
 a70:=nf
 z70:=mS
 v70:=lG
 t76:=lm
 a76:=nh
 z76:=mT
 v76:=lH
 t77:=lp
 a77:=ni
 z77:=mU
 v77:=lI
def flA:List (Nat × Nat):=[(54,362),(83,105),(84,74),(103,386),(124,107)]
def FA:Phi:=y73 flA
theorem ybd:y2n P FA:=zgt (by kernel_rfl)
theorem a54:FnL P T FA 54 f362:=zi jg (by kernel_rfl) (by kernel_rfl)
theorem a83:FnL P T FA 83 f105:=zi jh (by kernel_rfl) (by kernel_rfl)
theorem a84:FnL P T FA 84 f74:=zi ji (by kernel_rfl) (by kernel_rfl)
theorem a103:FnL P T FA 103 f386:=zi iT (by kernel_rfl) (by kernel_rfl)
theorem a124:FnL P T FA 124 f107:=zi iU (by kernel_rfl) (by kernel_rfl)
theorem tieA:Tie P E T FA:=zqn (pt:=(28,0)) types mixed ybd (y2s (zb a54 rfl) (y2s (zb a83 rfl) (y2s (zb a84 rfl) (y2s (zb a103 rfl) (y2s (zb a124 rfl) (alln))))))
theorem zvm(a b c d:Int):orI [y6g a c,y6g b d]=cfP (a,b) (c,d):=by
 unfold cfP y6g
 simp only[orI]
 repeat' split
 all_goals first | rfl | omega
theorem yaf:y78 P 54:=y78.of_sim tieA (g:=54) (g':=362) rfl fun a b c d=>by
 rw[<- zvm]
 exact z6u (ydj a b c d)
theorem y9c:y78 P 103:=y78.of_sim tieA (g:=103) (g':=386) rfl fun a b c d=>by
 rw[<- zvm]
 exact z6u (ydi a b c d)
theorem cmpN(g k:Nat)(h:F g=some k)(hk:[362,386].contains k=true):g=54\/g=103:=by
 have h1:=z6b h
 have h2:(fl.all fun p=>![362,386].contains p.2 || p.1 == 54 || p.1 == 103)=true:=by decide +kernel
 have h3:=List.all_eq_true.1 h2 _ h1
 simp only[hk,Bool.not_true,Bool.false_or] at h3
 simpa using h3
theorem l53:y6e P E T F (28,0) 53 361:=zhm (p:=0) (cmp:=[362,386]) (G:=f361) rfl rfl rfl rfl
 (fun g k h hk=>by
  rcases cmpN g k h hk with rfl | rfl
  ·exact y64.of y9x rfl iW iD yaf
  ·exact y64.of y9x rfl iW iD y9c)
 (fun p cap fv w=>jY y9x p cap fv w)

theorem l48:∀ n,y1m P (CLk T F true) F (y1h E (dC E n) 356) 48:=zje (c:=70) (fn:=jV) (code:=jV.body.getD .skip) types ybe rfl pM rfl rfl rfl (by kernel_rfl)

theorem tie:Tie P E T F:=zqn (pt:=(28,0)) types mixed ybe (y2s (zb l5 rfl) (y2s (zb l14 rfl) (y2s (zb l16 rfl) (y2s (zb l18 rfl) (y2s (zb l20 rfl) (y2s (zb l21 rfl) (y2s (zb l22 rfl) (y2s (zb l23 rfl) (y2s (zb l24 rfl) (y2s (zb l25 rfl) (y2s (zb l26 rfl) (y2s (zb l27 rfl) (y2s (zb l29 rfl) (y2s (zb l30 rfl) (y2s (zb l31 rfl) (y2s (zb l45 rfl) (y2s (zb l46 rfl) (y2s (zb l47 rfl) (y2s (ziy l48) (y2s (zb l51 rfl) (y2s (zax l53) (y2s (zb l54 rfl) (y2s (zb l55 rfl) (y2s (zb l56 rfl) (y2s (zb l57 rfl) (y2s (zb l58 rfl) (y2s (zb l59 rfl) (y2s (zb l80 rfl) (y2s (zb l83 rfl) (y2s (zb l84 rfl) (y2s (zb l85 rfl) (y2s (zb l86 rfl) (y2s (zax l87) (y2s (zb l88 rfl) (y2s (zb l89 rfl) (y2s (zb l103 rfl) (y2s (zb l124 rfl) (y2s (zb l125 rfl) (y2s (zb l126 rfl) (y2s (zb l127 rfl) (y2s (zb l128 rfl) (y2s (zb l129 rfl) (y2s (zb l130 rfl) (y2s (zb l131 rfl) (y2s (zb l132 rfl) (y2s (zb l133 rfl) (alln)))))))))))))))))))))))))))))))))))))))))))))))

end Dv.Tryd
