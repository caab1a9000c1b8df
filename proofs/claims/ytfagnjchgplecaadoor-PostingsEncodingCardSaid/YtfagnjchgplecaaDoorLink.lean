/- Texts that a proof of this claim uses, joined: Dv.LinkTryd. -/
import Derived.Test.YtfagnjchgplecaaDoorDvd
import Derived.Test.YtfagnjchgplecaaDoorCode
import Derived.WalkKit
import Derived.RecoverIn
import Derived.Lib.Walk
import Derived.Lib.SliceRun
import Derived.Lib.AppendZerosOnto
import Derived.Test.YtfagnjchgplecaaDoorSh
import Derived.Test.YtfagnjchgplecaaDoorWa
import Derived.Test.YtfagnjchgplecaaDoorChecked
import Derived.KernelRfl
set_option linter.all false
open Go renaming Value->mY,run_makeInterface->fy
open Go.Builtin renaming zeroCells->bV
open Go.Proofs.AnyF renaming slices_SortFunc_none->j9
open Go.Proofs.SlLaysF0 renaming n6->jp
open Go.Proofs.Tryd renaming f32->qW,f48->j6,f60->qV,func103->iY,func114->nV,func115->nW,func116->nX,func117->nY,func118->nZ,func119->n5,func120->n7,func121->n8,func122->n9,func123->oa,func124->iZ,func125->nM,func126->nN,func127->nO,func128->nP,func129->nQ,func130->nR,func131->nS,func132->nT,func133->nU,func14->o5,func140->oc,func141->od,func142->og,func143->oh,func144->ol,func150->om,func16->o6,func18->o7,func23->o8,func24->o9,func25->pb,func26->pd,func27->pe,func29->pf,func30->pg,func31->ph,func32->pP,func45->pj,func46->pm,func47->pq,func48->pY,func51->pw,func53->pQ,func54->jl,func55->px,func56->py,func57->pz,func58->pA,func59->pB,func60->pO,func61->pD,func62->pE,func80->pF,func81->pR,func82->pS,func83->jm,func84->jn,func85->pG,func86->pH,func87->jo,func88->pI,func89->pJ,func9->ql,func90->pK,func91->pL,func92->pM,func93->pN,isAgg0->pT,isAgg139->nq,isAgg142->nw,isAgg147->nx,isAgg180->nr,isAgg181->nu,isAgg185->nv,isAgg202->ny,isAgg205->nz,isAgg212->nA,isAgg213->nB,isAgg25->i9,isAgg3->pU,isAgg39->oz,isAgg4->pV,isAgg5->pW,isAgg9->pX,isAgg99->oC,ntmps87->i6,prog->d8,sizeOf0->oq,sizeOf139->m7,sizeOf142->nb,sizeOf147->nc,sizeOf180->m8,sizeOf181->m9,sizeOf185->na,sizeOf202->nf,sizeOf205->ng,sizeOf212->nh,sizeOf213->ni,sizeOf25->iI,sizeOf3->ot,sizeOf39->nn,sizeOf4->ou,sizeOf5->ov,sizeOf9->ow,sizeOf99->np,underlying0->mh,underlying139->lw,underlying142->lB,underlying147->lC,underlying180->ly,underlying181->lz,underlying185->lA,underlying202->lD,underlying205->lE,underlying212->lF,underlying213->lG,underlying3->mj,underlying39->lM,underlying4->ml,underlying5->mn,underlying9->mo,underlying99->lN,zeroValue0->mC,zeroValue139->lO,zeroValue142->lS,zeroValue147->lT,zeroValue180->lP,zeroValue181->lQ,zeroValue185->lR,zeroValue202->lU,zeroValue205->lV,zeroValue212->lW,zeroValue213->lX,zeroValue3->mD,zeroValue39->mq,zeroValue4->mE,zeroValue5->mF,zeroValue9->mG,zeroValue99->mr
open Option.some renaming injEq->aa
set_option maxHeartbeats 16000000
namespace Dv.Tryd
open Go (Program)

open Go.RowKit
open Go (Value World Act Oper Operand Code Ending Exit MapEntry Fence CallsIn KeepsWalks)
noncomputable abbrev P:Program:=d8

def tl:List (Nat × Nat):=[(3,2),(4,7),(5,13),(9,53),(22,70),(23,66),(25,65),(28,3),(35,69),(39,67),(43,68),(46,73),(48,71),(50,72),(51,6),(57,30),(61,54),(68,56),(70,55),(73,10),(74,9),(75,14),(77,0),(78,36),(107,60),(110,18),(112,17),(113,16),(115,15),(117,37),(124,75),(139,12),(142,78),(143,76),(144,77),(147,63),(148,74),(151,59),(153,58),(154,62),(162,20),(164,21),(168,19),(180,79),(189,80),(193,81),(196,57),(202,82),(207,64)]

def fl:List (Nat × Nat):=[(9,336),(14,314),(16,316),(18,318),(23,324),(24,325),(25,327),(26,329),(27,331),(29,334),(30,335),(31,337),(32,272),(45,353),(46,354),(47,355),(48,356),(51,359),(53,361),(54,362),(55,363),(56,364),(57,365),(58,366),(59,264),(60,290),(61,291),(62,292),(80,380),(83,105),(84,74),(85,404),(86,383),(87,384),(88,281),(89,282),(90,305),(91,307),(92,306),(93,308),(103,386),(124,107),(125,405),(126,406),(127,407),(128,297),(129,298),(130,312),(131,311),(132,299),(133,300)]

def T:Phi:=y6v tl
def F:Phi:=y6v fl

theorem types:y2q P E T:=zs6 (by kernel_rfl)
theorem mixed:P.follows .mixedOrders=true:=by kernel_rfl
theorem ya6:y2p P F:=zgy (by kernel_rfl)

theorem pt1:P.concrete (28,0).1=true:=by kernel_rfl
theorem pt2:P.concrete (28,0).2=true:=by kernel_rfl
theorem l9:FnL P T F 9 f336:=zi ql (by kernel_rfl) (by kernel_rfl)
theorem l14:FnL P T F 14 f314:=zi o5 (by kernel_rfl) (by kernel_rfl)
theorem l16:FnL P T F 16 f316:=zi o6 (by kernel_rfl) (by kernel_rfl)
theorem l18:FnL P T F 18 f318:=zi o7 (by kernel_rfl) (by kernel_rfl)
theorem l23:FnL P T F 23 f324:=zi o8 (by kernel_rfl) (by kernel_rfl)
theorem l24:FnL P T F 24 f325:=zi o9 (by kernel_rfl) (by kernel_rfl)
theorem l25:FnL P T F 25 f327:=zi pb (by kernel_rfl) (by kernel_rfl)
theorem l26:FnL P T F 26 f329:=zi pd (by kernel_rfl) (by kernel_rfl)
theorem l27:FnL P T F 27 f331:=zi pe (by kernel_rfl) (by kernel_rfl)
theorem l29:FnL P T F 29 f334:=zi pf (by kernel_rfl) (by kernel_rfl)
theorem l30:FnL P T F 30 f335:=zi pg (by kernel_rfl) (by kernel_rfl)
theorem l31:FnL P T F 31 f337:=zi ph (by kernel_rfl) (by kernel_rfl)
theorem l45:FnL P T F 45 f353:=zi pj (by kernel_rfl) (by kernel_rfl)
theorem l46:FnL P T F 46 f354:=zi pm (by kernel_rfl) (by kernel_rfl)
theorem l47:FnL P T F 47 f355:=zi pq (by kernel_rfl) (by kernel_rfl)
theorem l51:FnL P T F 51 f359:=zi pw (by kernel_rfl) (by kernel_rfl)
theorem l54:FnL P T F 54 f362:=zi jl (by kernel_rfl) (by kernel_rfl)
theorem l55:FnL P T F 55 f363:=zi px (by kernel_rfl) (by kernel_rfl)
theorem l56:FnL P T F 56 f364:=zi py (by kernel_rfl) (by kernel_rfl)
theorem l57:FnL P T F 57 f365:=zi pz (by kernel_rfl) (by kernel_rfl)
theorem l58:FnL P T F 58 f366:=zi pA (by kernel_rfl) (by kernel_rfl)
theorem l59:FnL P T F 59 f264:=zi pB (by kernel_rfl) (by kernel_rfl)
theorem l61:FnM P T F (28,0) 61 f291:=ze2 pD pt1 pt2 (by kernel_rfl) (by kernel_rfl)
theorem l62:FnM P T F (28,0) 62 f292:=ze2 pE pt1 pt2 (by kernel_rfl) (by kernel_rfl)
theorem l80:FnL P T F 80 f380:=zi pF (by kernel_rfl) (by kernel_rfl)
theorem l83:FnL P T F 83 f105:=zi jm (by kernel_rfl) (by kernel_rfl)
theorem l84:FnL P T F 84 f74:=zi jn (by kernel_rfl) (by kernel_rfl)
theorem l85:FnL P T F 85 f404:=zi pG (by kernel_rfl) (by kernel_rfl)
theorem l86:FnL P T F 86 f383:=zi pH (by kernel_rfl) (by kernel_rfl)
theorem l88:FnL P T F 88 f281:=zi pI (by kernel_rfl) (by kernel_rfl)
theorem l89:FnL P T F 89 f282:=zi pJ (by kernel_rfl) (by kernel_rfl)
theorem l90:FnM P T F (28,0) 90 f305:=ze2 pK pt1 pt2 (by kernel_rfl) (by kernel_rfl)
theorem l91:FnL P T F 91 f307:=zi pL (by kernel_rfl) (by kernel_rfl)
theorem l92:FnM P T F (28,0) 92 f306:=ze2 pM pt1 pt2 (by kernel_rfl) (by kernel_rfl)
theorem l93:FnM P T F (28,0) 93 f308:=ze2 pN pt1 pt2 (by kernel_rfl) (by kernel_rfl)
theorem l103:FnL P T F 103 f386:=zi iY (by kernel_rfl) (by kernel_rfl)
theorem l124:FnL P T F 124 f107:=zi iZ (by kernel_rfl) (by kernel_rfl)
theorem l125:FnL P T F 125 f405:=zi nM (by kernel_rfl) (by kernel_rfl)
theorem l126:FnL P T F 126 f406:=zi nN (by kernel_rfl) (by kernel_rfl)
theorem l127:FnL P T F 127 f407:=zi nO (by kernel_rfl) (by kernel_rfl)
theorem l128:FnL P T F 128 f297:=zi nP (by kernel_rfl) (by kernel_rfl)
theorem l129:FnL P T F 129 f298:=zi nQ (by kernel_rfl) (by kernel_rfl)
theorem l130:FnL P T F 130 f312:=zi nR (by kernel_rfl) (by kernel_rfl)
theorem l131:FnL P T F 131 f311:=zi nS (by kernel_rfl) (by kernel_rfl)
theorem l132:FnL P T F 132 f299:=zi nT (by kernel_rfl) (by kernel_rfl)
theorem l133:FnL P T F 133 f300:=zi nU (by kernel_rfl) (by kernel_rfl)

theorem hmk(b:Bool)(v:mY)(w:Go.World):(Go.Instr.makeInterface (if b=true then((28,0):Nat × Nat).2 else((28,0):Nat × Nat).1) v).run P w=.ok (.iface (if b=true then((28,0):Nat × Nat).2 else((28,0):Nat × Nat).1) v) w:=by
 cases b
 ·exact fy w _ v pt1
 ·exact fy w _ v pt2

theorem C60:y8p P E T F (28,0) 60 yc0 shN:=
 zfv (fn:=qV) pO rfl rfl rfl rfl rfl rfl rfl rfl rfl rfl rfl rfl rfl rfl rfl (by kernel_rfl)
theorem l32:y5n P E T F (28,0) 32 272:=
 zft (g:=60) (km:=5) (cs:=[2,3]) (S:=[2,3]) (tl:=tlN) (fn:=qW) (G:=f272) types ya6 rfl rfl pP rfl rfl (zde (by kernel_rfl)) rfl (zw (by kernel_rfl)) rfl rfl rfl rfl rfl rfl rfl
  (zra hmk (by kernel_rfl) (by kernel_rfl))
  (by decide) (by decide) (by decide) (by decide) (by decide) (by decide) C60 (fun _ _ _ _ _=>rfl) (fun j k sl mk hp ex st' _ _ _ h=>zuo (S:=[2,3]) j k sl mk hp ex st' h)

section
open Go Go.Proofs Go.RowKit
set_option maxRecDepth 100000 in
theorem zly(base:Option Addr)(w:World):Calls d8 87 #[.slice base 0 0,.int .i64 0] w fun e w'=>e=.returned (.slice base 0 0)/\w'=w:=by
 go_enter jo,i6
 go_wp2
 go_ret
 exact⟨rfl,rfl⟩

set_option maxRecDepth 100000 in
theorem zlz(i0:TypeInfo)(z:Value)(hi0:d8.info? 5=some i0)(hz0:i0.zero=some z)(hs0:0<i0.size)(base:Option Addr)(n:Nat)(w:World)(hroom:0<n)(hbig:n*i0.bytes<=140737488355328)(h63:n<=4611686018427387904) :
  Calls d8 87 #[.slice base 0 0,.int .i64 n] w fun e w'=>e=.returned (.slice (some ⟨w.heap.size,0,none⟩) 0 (grownCap w n 0 5)) /\
   w'=w.drew.alloc (.cells (Builtin.zeroCells z.cells n++Builtin.zeroCells z.cells (grownCap w n 0 5 - n)) 5):=by
 have h1 : ¬ ((n:Int)<0):=by omega
 have h4:(n:Int) > 0:=by omega
 have hw0:wrap64 (n:Int)=(n:Int):=by unfold wrap64;omega
 have hrz:∀ ty,(Builtin.append_ #[57,3] ty #[.slice base 0 0,.int .i64 (n:Int)]).run d8 w =
   .ok (.slice (some ⟨w.heap.size,0,none⟩) n (grownCap w n 0 5)) (w.drew.alloc (.cells (Builtin.zeroCells z.cells n++Builtin.zeroCells z.cells (grownCap w n 0 5 - n)) 5)):=fun ty=>by
  have y57:(Builtin.firstCells i0.size 0 (.slice base 0 0)).run d8 w.drew=.ok ([]:List Value).toArray w.drew:=by
   cases base with
   |none=>exact run_firstCells_none w.drew i0.size 0 0 0
   |some a=>exact run_firstCells_some w.drew i0.size 0 a 0 0 [] (by simp) (fun j v hj=>by simp at hj)
  have h:=Lib.run_append_grow_zeros w 57 3 ty 5 i0 z .i64 .i64 (by kernel_rfl) (by kernel_rfl) hi0 hz0 base 0 0 [] y57 n (by omega) hs0 (by omega) (by omega)
   (by omega) (by rw[Nat.zero_add];exact growslice_fits hroom hbig)
  simpa using h
 go_enter jo,i6
 go_wp2_with (at_builtin;refine Lib.wpList_append_run _ rfl _ _ _ _ rfl _ _ rfl rfl _ _ (hrz _) ?_)
 all_goals (go_ret;exact⟨rfl,rfl⟩)
end

theorem za5(z:Array mY)(n:Nat):(bV z n).size=n*z.size:=by simp[bV]

theorem z6c:∀{l:List mY} {ds:List D},y1z l=some ds->l.length=ds.length
 |[],ds,h=>by simp[y1z] at h;subst h;rfl
 |v::l,ds,h=>by
  simp only[y1z] at h
  split at h
  ·rename_i d r h1 h2
   simp only[aa] at h;subst h
   simp[z6c h2]
  ·simp at h

theorem yb8:y9n P 87 (E.ty 13).bytes (E.ty 13).size:=by
 obtain⟨i0,hi0,hsz,hby,hz⟩:=(types 5 13 rfl).info
 obtain⟨z,hz0,hzl,_⟩:=hz (by decide) (by decide)
 have hzs:z.cells.size=(E.ty 13).size:=by
  have:=z6c hzl
  rw[Array.length_toList] at this
  rw[this];decide
 have hpos:0<i0.size:=by rw[hsz];decide
 rw[<- hsz,<- hby]
 constructor
 ·intro base w
  exact zly base w
 ·intro base n w hn hb hn2
  have:=zlz i0 z hi0 hz0 hpos base n w hn hb hn2
  have hG:=Go.grownCap_ge w n 0 5
  generalize Go.grownCap w n 0 5=G at this hG
  refine this.mono ?_
  rintro e w' ⟨rfl,rfl⟩
  refine⟨G,5,_,?_,rfl,rfl,⟨rfl,rfl,rfl,Nat.le_succ _⟩⟩
  simp only[Array.size_append,za5,hzs,hsz]
  rw[<- Nat.add_mul,show n+(G - n)=G from by omega]

theorem l87:y5n P E T F (28,0) 87 384:=zj0 (c:=30) (i:=2) (e:=13) (G:=f384) rfl rfl rfl rfl yb8


def y9q:Go.Shelf.Ren:={ f:=fun | 6=>53 | 15=>82 | 14=>81 | 28=>122 | 29=>123 | 20=>114 | 21=>115 | 22=>116 | 23=>117 | 24=>118 | 25=>119 | 26=>120 | 27=>121 | 46=>140 | 47=>141 | 48=>142 | 49=>143 | 50=>144 | 57=>150 | n=>n,t:=fun | 22=>39 | 24=>25 | 25=>99 | 3=>3 | 39=>139 | 0=>0 | 53=>142 | 55=>147 | 4=>4 | 46=>181 | 45=>180 | 50=>185 | 5=>5 | 9=>9 | 66=>202 | 70=>205 | 76=>212 | 77=>213 | n=>n,g:=fun n=>n }
set_option maxRecDepth 100000 in
theorem y9r:jp P y9q where
 mixed:=mixed
 f6:=⟨ "slices.SortFunc[[]overflight/api.Account,overflight/api.Account]",by decide,pQ.trans (congrArg some (by kernel_rfl))⟩
 f14:=⟨ "slices.pdqsortCmpFunc[overflight/api.Account]",by decide,pR.trans (congrArg some (by kernel_rfl))⟩
 f15:=pS.trans (congrArg some (by kernel_rfl))
 f20:=⟨ "slices.insertionSortCmpFunc[overflight/api.Account]",by decide,nV.trans (congrArg some (by kernel_rfl))⟩
 f21:=⟨ "slices.heapSortCmpFunc[overflight/api.Account]",by decide,nW.trans (congrArg some (by kernel_rfl))⟩
 f22:=⟨ "slices.breakPatternsCmpFunc[overflight/api.Account]",by decide,nX.trans (congrArg some (by kernel_rfl))⟩
 f23:=⟨ "slices.choosePivotCmpFunc[overflight/api.Account]",by decide,nY.trans (congrArg some (by kernel_rfl))⟩
 f24:=⟨ "slices.reverseRangeCmpFunc[overflight/api.Account]",by decide,nZ.trans (congrArg some (by kernel_rfl))⟩
 f25:=⟨ "slices.partialInsertionSortCmpFunc[overflight/api.Account]",by decide,n5.trans (congrArg some (by kernel_rfl))⟩
 f26:=⟨ "slices.partitionEqualCmpFunc[overflight/api.Account]",by decide,n7.trans (congrArg some (by kernel_rfl))⟩
 f27:=⟨ "slices.partitionCmpFunc[overflight/api.Account]",by decide,n8.trans (congrArg some (by kernel_rfl))⟩
 f28:=n9.trans (congrArg some (by kernel_rfl))
 f29:=oa.trans (congrArg some (by kernel_rfl))
 f46:=⟨ "slices.siftDownCmpFunc[overflight/api.Account]",by decide,oc.trans (congrArg some (by kernel_rfl))⟩
 f47:=od.trans (congrArg some (by kernel_rfl))
 f48:=og.trans (congrArg some (by kernel_rfl))
 f49:=⟨ "slices.medianAdjacentCmpFunc[overflight/api.Account]",by decide,oh.trans (congrArg some (by kernel_rfl))⟩
 f50:=⟨ "slices.medianCmpFunc[overflight/api.Account]",by decide,ol.trans (congrArg some (by kernel_rfl))⟩
 f57:=⟨ "slices.order2CmpFunc[overflight/api.Account]",by decide,om.trans (congrArg some (by kernel_rfl))⟩
 t0:=mh
 a0:=pT
 z0:=oq
 v0:=mC
 t3:=mj
 a3:=pU
 z3:=ot
 v3:=mD
 t4:=ml
 a4:=pV
 z4:=ou
 v4:=mE
 t5:=mn
 a5:=pW
 z5:=ov
 v5:=mF
 t9:=mo
 a9:=pX
 z9:=ow
 v9:=mG
 t22:=lM
 a22:=oz
 z22:=nn
 v22:=mq
 t25:=lN
 a25:=oC
 z25:=np
 v25:=mr
 t39:=lw
 a39:=nq
 z39:=m7
 v39:=lO
 t45:=ly
 a45:=nr
 z45:=m8
 v45:=lP
 t46:=lz
 a46:=nu
 z46:=m9
 v46:=lQ
 t50:=lA
 a50:=nv
 z50:=na
 v50:=lR
 t53:=lB
 a53:=nw
 z53:=nb
 v53:=lS
 t55:=lC
 a55:=nx
 z55:=nc
 v55:=lT
 t66:=lD
 a66:=ny
 z66:=nf
 v66:=lU
 t70:=lE
 a70:=nz
 z70:=ng
 v70:=lV
 t76:=lF
 a76:=nA
 z76:=nh
 v76:=lW
 t77:=lG
 a77:=nB
 z77:=ni
 v77:=lX
def flA:List (Nat × Nat):=[(54,362),(83,105),(84,74),(103,386),(124,107)]
def FA:Phi:=y6v flA
theorem yba:y2p P FA:=zgy (by kernel_rfl)
theorem a54:FnL P T FA 54 f362:=zi jl (by kernel_rfl) (by kernel_rfl)
theorem a83:FnL P T FA 83 f105:=zi jm (by kernel_rfl) (by kernel_rfl)
theorem a84:FnL P T FA 84 f74:=zi jn (by kernel_rfl) (by kernel_rfl)
theorem a103:FnL P T FA 103 f386:=zi iY (by kernel_rfl) (by kernel_rfl)
theorem a124:FnL P T FA 124 f107:=zi iZ (by kernel_rfl) (by kernel_rfl)
theorem tieA:Tie P E T FA:=zqq (pt:=(28,0)) types mixed yba (y2i (zc a54 rfl) (y2i (zc a83 rfl) (y2i (zc a84 rfl) (y2i (zc a103 rfl) (y2i (zc a124 rfl) (alln))))))
theorem zvl(a b c d:Int):orI [y66 a c,y66 b d]=cfP (a,b) (c,d):=by
 unfold cfP y66
 simp only[orI]
 repeat' split
 all_goals first | rfl | omega
theorem ya9:y73 P 54:=y73.of_sim tieA (g:=54) (g':=362) rfl fun a b c d=>by
 rw[<- zvl]
 exact z6y (ydp a b c d)
theorem y99:y73 P 103:=y73.of_sim tieA (g:=103) (g':=386) rfl fun a b c d=>by
 rw[<- zvl]
 exact z6y (ydo a b c d)
theorem cmpN(g k:Nat)(h:F g=some k)(hk:[362,386].contains k=true):g=54\/g=103:=by
 have h1:=z6g h
 have h2:(fl.all fun p=>![362,386].contains p.2 || p.1 == 54 || p.1 == 103)=true:=by decide +kernel
 have h3:=List.all_eq_true.1 h2 _ h1
 simp only[hk,Bool.not_true,Bool.false_or] at h3
 simpa using h3
theorem l53:y5n P E T F (28,0) 53 361:=zho (p:=0) (cmp:=[362,386]) (G:=f361) rfl rfl rfl rfl
 (fun g k h hk=>by
  rcases cmpN g k h hk with rfl | rfl
  ·exact y5w.of y9r rfl i9 iI ya9
  ·exact y5w.of y9r rfl i9 iI y99)
 (fun p cap fv w=>j9 y9r p cap fv w)

theorem l48:∀ n,y1m P (CLk T F true) F (y16 E (dC E n) 356) 48:=zjh (c:=70) (fn:=j6) (code:=j6.body.getD .skip) types ya6 rfl pY rfl rfl rfl (by kernel_rfl)

set_option maxRecDepth 100000 in
theorem tie:Tie P E T F:=zqq (pt:=(28,0)) types mixed ya6 (y2i (zc l9 rfl) (y2i (zc l14 rfl) (y2i (zc l16 rfl) (y2i (zc l18 rfl) (y2i (zc l23 rfl) (y2i (zc l24 rfl) (y2i (zc l25 rfl) (y2i (zc l26 rfl) (y2i (zc l27 rfl) (y2i (zc l29 rfl) (y2i (zc l30 rfl) (y2i (zc l31 rfl) (y2i (z78 l32) (y2i (zc l45 rfl) (y2i (zc l46 rfl) (y2i (zc l47 rfl) (y2i (zj1 l48) (y2i (zc l51 rfl) (y2i (z78 l53) (y2i (zc l54 rfl) (y2i (zc l55 rfl) (y2i (zc l56 rfl) (y2i (zc l57 rfl) (y2i (zc l58 rfl) (y2i (zc l59 rfl) (y2i (zm1 rfl) (y2i (z4r l61 rfl) (y2i (z4r l62 rfl) (y2i (zc l80 rfl) (y2i (zc l83 rfl) (y2i (zc l84 rfl) (y2i (zc l85 rfl) (y2i (zc l86 rfl) (y2i (z78 l87) (y2i (zc l88 rfl) (y2i (zc l89 rfl) (y2i (z4r l90 rfl) (y2i (zc l91 rfl) (y2i (z4r l92 rfl) (y2i (z4r l93 rfl) (y2i (zc l103 rfl) (y2i (zc l124 rfl) (y2i (zc l125 rfl) (y2i (zc l126 rfl) (y2i (zc l127 rfl) (y2i (zc l128 rfl) (y2i (zc l129 rfl) (y2i (zc l130 rfl) (y2i (zc l131 rfl) (y2i (zc l132 rfl) (y2i (zc l133 rfl) (alln))))))))))))))))))))))))))))))))))))))))))))))))))))

end Dv.Tryd
