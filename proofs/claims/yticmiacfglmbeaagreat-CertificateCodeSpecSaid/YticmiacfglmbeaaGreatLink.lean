/- Texts that a proof of this claim uses, joined: Dv.LinkTryz. -/
import Derived.Test.YticmiacfglmbeaaGreatDvd
import Derived.Test.YticmiacfglmbeaaGreatCode
import Derived.WalkKit
import Derived.RecoverIn
import Derived.Test.YticmiacfglmbeaaGreatChecked
import Derived.KernelRfl
set_option linter.all false
open Go renaming run_makeInterface->fw
open Go.Proofs.Tryz renaming f14->p9,f15->qb,f22->p7,f24->qd,f43->p8,f47->qa,f58->qc,f8->qn,func10->mF,func100->lI,func101->lJ,func102->lK,func103->lL,func104->lM,func105->lN,func106->lO,func107->lP,func108->lQ,func109->lR,func11->mG,func110->lS,func111->lT,func112->lU,func113->lV,func114->lX,func115->lY,func116->lZ,func117->ma,func118->mb,func119->mc,func12->mH,func120->mf,func121->mg,func122->mh,func123->mi,func124->mj,func125->ml,func126->mn,func127->mo,func128->mq,func129->mr,func13->mI,func14->oz,func15->oH,func16->mJ,func17->mK,func18->mL,func19->mM,func20->mN,func21->mO,func22->ov,func23->iK,func24->oK,func25->mP,func26->mQ,func27->mR,func28->mS,func29->mT,func3->pf,func30->mU,func31->mV,func32->mW,func33->mX,func34->mY,func35->mZ,func36->m6,func37->m7,func38->m8,func39->m9,func4->pg,func40->nf,func41->ng,func42->nh,func43->ow,func44->ni,func45->nj,func46->nk,func47->oG,func48->nl,func49->nn,func5->ph,func50->np,func51->nq,func52->nr,func53->nt,func54->nu,func55->nv,func56->nw,func57->nx,func58->oJ,func59->ny,func6->pj,func60->nz,func61->nA,func62->nB,func63->nC,func64->nD,func65->nE,func66->nF,func67->nG,func68->nH,func69->nI,func7->pm,func70->nJ,func71->nK,func72->nL,func73->nM,func74->nN,func75->nO,func76->nP,func77->nQ,func78->nR,func79->nS,func8->pq,func80->nT,func81->nU,func82->nV,func83->nW,func84->nX,func85->nY,func86->nZ,func87->n0,func88->n5,func89->n6,func9->pn,func90->n7,func91->n8,func92->n9,func93->od,func94->og,func95->oh,func96->ol,func97->om,func98->ot,func99->ou,ntmps23->iw,prog->fD
open Nat renaming lt_of_lt_of_le->aH
set_option maxHeartbeats 16000000
namespace Dv.Tryz
open Go (Program)

noncomputable abbrev P:Program:=fD

def tl:List (Nat × Nat):=[(3,2),(4,7),(5,13),(9,53),(22,6),(23,31),(25,29),(26,30),(29,3),(36,10),(37,9),(38,14),(40,0),(45,1),(46,4),(48,56),(50,55),(54,32),(76,20),(78,19),(79,18),(81,17),(82,16),(84,15),(89,47),(90,52),(92,59),(94,58),(95,62),(100,50),(101,49),(103,48),(105,51),(111,44),(114,60),(121,61),(125,21),(137,57),(139,63),(142,22),(147,11),(164,64),(165,12),(167,23),(168,24),(177,25),(179,26),(196,27)]

def fl:List (Nat × Nat):=[(3,251),(4,248),(5,213),(6,252),(7,253),(8,254),(9,255),(10,256),(11,263),(12,230),(13,264),(14,216),(15,231),(16,223),(17,266),(18,267),(19,268),(20,270),(21,269),(22,271),(23,236),(24,272),(25,228),(26,273),(27,274),(28,275),(29,276),(30,277),(31,278),(32,279),(33,20),(34,280),(35,15),(36,159),(37,237),(38,240),(39,238),(40,245),(41,281),(42,282),(43,227),(44,22),(45,229),(46,162),(47,239),(48,241),(49,242),(50,243),(51,283),(52,284),(53,285),(54,286),(55,287),(56,288),(57,289),(58,290),(59,291),(60,292),(61,293),(62,294),(63,295),(64,296),(65,67),(66,69),(67,70),(68,71),(69,72),(70,73),(71,74),(72,75),(73,76),(74,173),(75,14),(76,297),(77,298),(78,312),(79,311),(80,299),(81,300),(82,83),(83,84),(84,24),(85,3),(86,246),(87,9),(88,39),(89,37),(90,301),(91,302),(92,304),(93,303),(94,305),(95,307),(96,306),(97,308),(98,309),(99,310),(100,105),(101,106),(102,107),(103,66),(104,68),(105,110),(106,30),(107,62),(108,63),(109,89),(110,90),(111,104),(112,87),(113,102),(114,122),(115,41),(116,97),(117,123),(118,93),(119,112),(120,94),(121,116),(122,114),(123,115),(124,98),(125,113),(126,124),(127,117),(128,118),(129,125)]

def T:Phi:=look tl
def F:Phi:=look fl

theorem types:TAll P E T:=zps (by kernel_rfl)
theorem mixed:P.follows .mixedOrders=true:=by kernel_rfl
theorem fnsOk:FnsOk P F:=zno (by kernel_rfl)

theorem pt1:P.concrete (29,111).1=true:=by kernel_rfl
theorem pt2:P.concrete (29,111).2=true:=by kernel_rfl
theorem l3:FnL P T F 3 f251:=z6 pf
theorem l4:FnL P T F 4 f248:=z6 pg
theorem l5:FnL P T F 5 f213:=z6 ph
theorem l6:FnL P T F 6 f252:=z6 pj
theorem l7:FnL P T F 7 f253:=z6 pm
theorem l9:FnL P T F 9 f255:=z6 pn
theorem l10:FnL P T F 10 f256:=z6 mF
theorem l11:FnL P T F 11 f263:=z6 mG
theorem l12:FnL P T F 12 f230:=z6 mH
theorem l13:FnL P T F 13 f264:=z6 mI
theorem l16:FnL P T F 16 f223:=z6 mJ
theorem l17:FnL P T F 17 f266:=z6 mK
theorem l18:FnL P T F 18 f267:=z6 mL
theorem l19:FnL P T F 19 f268:=z6 mM
theorem l20:FnL P T F 20 f270:=z6 mN
theorem l21:FnL P T F 21 f269:=z6 mO
theorem l25:FnM P T F (29,111) 25 f228:=z2c mixed mP pt1 pt2 (by kernel_rfl) (by kernel_rfl)
theorem l26:FnM P T F (29,111) 26 f273:=z2c mixed mQ pt1 pt2 (by kernel_rfl) (by kernel_rfl)
theorem l27:FnM P T F (29,111) 27 f274:=z2c mixed mR pt1 pt2 (by kernel_rfl) (by kernel_rfl)
theorem l28:FnM P T F (29,111) 28 f275:=z2c mixed mS pt1 pt2 (by kernel_rfl) (by kernel_rfl)
theorem l29:FnM P T F (29,111) 29 f276:=z2c mixed mT pt1 pt2 (by kernel_rfl) (by kernel_rfl)
theorem l30:FnL P T F 30 f277:=z6 mU
theorem l31:FnL P T F 31 f278:=z6 mV
theorem l32:FnL P T F 32 f279:=z6 mW
theorem l33:FnL P T F 33 f20:=z6 mX
theorem l34:FnL P T F 34 f280:=z6 mY
theorem l35:FnL P T F 35 f15:=z6 mZ
theorem l36:FnL P T F 36 f159:=z6 m6
theorem l37:FnL P T F 37 f237:=z6 m7
theorem l38:FnL P T F 38 f240:=z6 m8
theorem l39:FnL P T F 39 f238:=z6 m9
theorem l40:FnL P T F 40 f245:=z6 nf
theorem l41:FnL P T F 41 f281:=z6 ng
theorem l42:FnL P T F 42 f282:=z6 nh
theorem l44:FnL P T F 44 f22:=z6 ni
theorem l45:FnM P T F (29,111) 45 f229:=z2c mixed nj pt1 pt2 (by kernel_rfl) (by kernel_rfl)
theorem l46:FnL P T F 46 f162:=z6 nk
theorem l48:FnM P T F (29,111) 48 f241:=z2c mixed nl pt1 pt2 (by kernel_rfl) (by kernel_rfl)
theorem l49:FnM P T F (29,111) 49 f242:=z2c mixed nn pt1 pt2 (by kernel_rfl) (by kernel_rfl)
theorem l50:FnM P T F (29,111) 50 f243:=z2c mixed np pt1 pt2 (by kernel_rfl) (by kernel_rfl)
theorem l51:FnL P T F 51 f283:=z6 nq
theorem l52:FnL P T F 52 f284:=z6 nr
theorem l53:FnL P T F 53 f285:=z6 nt
theorem l54:FnL P T F 54 f286:=z6 nu
theorem l55:FnL P T F 55 f287:=z6 nv
theorem l56:FnL P T F 56 f288:=z6 nw
theorem l57:FnL P T F 57 f289:=z6 nx
theorem l59:FnM P T F (29,111) 59 f291:=z2c mixed ny pt1 pt2 (by kernel_rfl) (by kernel_rfl)
theorem l60:FnM P T F (29,111) 60 f292:=z2c mixed nz pt1 pt2 (by kernel_rfl) (by kernel_rfl)
theorem l61:FnM P T F (29,111) 61 f293:=z2c mixed nA pt1 pt2 (by kernel_rfl) (by kernel_rfl)
theorem l62:FnM P T F (29,111) 62 f294:=z2c mixed nB pt1 pt2 (by kernel_rfl) (by kernel_rfl)
theorem l63:FnM P T F (29,111) 63 f295:=z2c mixed nC pt1 pt2 (by kernel_rfl) (by kernel_rfl)
theorem l64:FnL P T F 64 f296:=z6 nD
theorem l65:FnL P T F 65 f67:=z6 nE
theorem l66:FnL P T F 66 f69:=z6 nF
theorem l67:FnL P T F 67 f70:=z6 nG
theorem l68:FnL P T F 68 f71:=z6 nH
theorem l69:FnL P T F 69 f72:=z6 nI
theorem l70:FnL P T F 70 f73:=z6 nJ
theorem l71:FnL P T F 71 f74:=z6 nK
theorem l72:FnL P T F 72 f75:=z6 nL
theorem l73:FnL P T F 73 f76:=z6 nM
theorem l74:FnL P T F 74 f173:=z6 nN
theorem l75:FnL P T F 75 f14:=z6 nO
theorem l76:FnL P T F 76 f297:=z6 nP
theorem l77:FnL P T F 77 f298:=z6 nQ
theorem l78:FnL P T F 78 f312:=z6 nR
theorem l79:FnL P T F 79 f311:=z6 nS
theorem l80:FnL P T F 80 f299:=z6 nT
theorem l81:FnL P T F 81 f300:=z6 nU
theorem l82:FnL P T F 82 f83:=z6 nV
theorem l83:FnL P T F 83 f84:=z6 nW
theorem l84:FnL P T F 84 f24:=z6 nX
theorem l85:FnL P T F 85 f3:=z6 nY
theorem l86:FnM P T F (29,111) 86 f246:=z2c mixed nZ pt1 pt2 (by kernel_rfl) (by kernel_rfl)
theorem l87:FnL P T F 87 f9:=z6 n0
theorem l88:FnL P T F 88 f39:=z6 n5
theorem l89:FnL P T F 89 f37:=z6 n6
theorem l90:FnL P T F 90 f301:=z6 n7
theorem l91:FnL P T F 91 f302:=z6 n8
theorem l92:FnL P T F 92 f304:=z6 n9
theorem l93:FnL P T F 93 f303:=z6 od
theorem l94:FnM P T F (29,111) 94 f305:=z2c mixed og pt1 pt2 (by kernel_rfl) (by kernel_rfl)
theorem l95:FnL P T F 95 f307:=z6 oh
theorem l96:FnM P T F (29,111) 96 f306:=z2c mixed ol pt1 pt2 (by kernel_rfl) (by kernel_rfl)
theorem l97:FnM P T F (29,111) 97 f308:=z2c mixed om pt1 pt2 (by kernel_rfl) (by kernel_rfl)
theorem l98:FnL P T F 98 f309:=z6 ot
theorem l99:FnL P T F 99 f310:=z6 ou
theorem l100:FnL P T F 100 f105:=z6 lI
theorem l101:FnL P T F 101 f106:=z6 lJ
theorem l102:FnL P T F 102 f107:=z6 lK
theorem l103:FnL P T F 103 f66:=z6 lL
theorem l104:FnL P T F 104 f68:=z6 lM
theorem l105:FnL P T F 105 f110:=z6 lN
theorem l106:FnL P T F 106 f30:=z6 lO
theorem l107:FnL P T F 107 f62:=z6 lP
theorem l108:FnL P T F 108 f63:=z6 lQ
theorem l109:FnL P T F 109 f89:=z6 lR
theorem l110:FnL P T F 110 f90:=z6 lS
theorem l111:FnL P T F 111 f104:=z6 lT
theorem l112:FnL P T F 112 f87:=z6 lU
theorem l113:FnL P T F 113 f102:=z6 lV
theorem l114:FnL P T F 114 f122:=z6 lX
theorem l115:FnL P T F 115 f41:=z6 lY
theorem l116:FnL P T F 116 f97:=z6 lZ
theorem l117:FnL P T F 117 f123:=z6 ma
theorem l118:FnL P T F 118 f93:=z6 mb
theorem l119:FnL P T F 119 f112:=z6 mc
theorem l120:FnL P T F 120 f94:=z6 mf
theorem l121:FnL P T F 121 f116:=z6 mg
theorem l122:FnL P T F 122 f114:=z6 mh
theorem l123:FnL P T F 123 f115:=z6 mi
theorem l124:FnL P T F 124 f98:=z6 mj
theorem l125:FnL P T F 125 f113:=z6 ml
theorem l126:FnL P T F 126 f124:=z6 mn
theorem l127:FnL P T F 127 f117:=z6 mo
theorem l128:FnL P T F 128 f118:=z6 mq
theorem l129:FnL P T F 129 f125:=z6 mr

theorem hmk (b:Bool) (v:Go.Value) (w:Go.World):(Go.Instr.makeInterface (if b=true then ((29,111):Nat × Nat).2 else ((29,111):Nat × Nat).1) v).run P w=.ok (.iface (if b=true then ((29,111):Nat × Nat).2 else ((29,111):Nat × Nat).1) v) w:=by
 cases b
 ·exact fw w _ v pt1
 ·exact fw w _ v pt2

section
open Go Go.Proofs
theorem z5t {P:Program} (t xT:TypeId) (v:Value) (b:Bool) (w:World) (h:P.concrete t=true):(Instr.typeAssert (.iface t v) xT t b).run P w=.ok (if b then .tuple #[v,.bool true] else v) w:=by
 unfold Program.concrete at h
 cases hu:P.underlying t with
 | none=>simp [hu] at h
 | some d=>cases d <;> first | (simp [hu] at h;done) | (cases b <;> simp [Instr.typeAssert,run_underlying hu])

set_option maxRecDepth 100000 in
theorem z60 (p:Addr) (x:Value) (n:Int) (w:World) (hc:(w.alloc (.cells #[.int .i64 n] 111)).cell? p=some x) (hz:(w.alloc (.cells #[.int .i64 n] 111)).frozen? p=false) :
  Calls fD 23 #[.iface 111 (.agg #[.int .i64 n]),.pointer (some p)] w fun e w'=>e=.returned (.tuple #[])/\w'=(w.alloc (.cells #[.int .i64 n] 111)).setCell p (.int .i64 n):=by
 have hta:=fun w=>z5t (P:=fD) 111 20 (.agg #[.int .i64 n]) true w (by kernel_rfl)
 simp only [if_true] at hta
 go_enter iK,iw
 go_wp2
 go_end0
 exact ⟨rfl,rfl⟩

set_option maxRecDepth 100000 in
theorem z73 (p:Addr) (w:World):Calls fD 23 #[.nilIface,.pointer (some p)] w fun e w'=>e=.returned (.tuple #[])/\w'=w:=by
 go_enter iK,iw
 go_wp2
 go_end0
 exact ⟨rfl,rfl⟩
end

theorem C22:Closes P E T F (29,111) 22 (effC E 3) shC:=
 z4l (c:=23) (tE:=29) (fn:=p7) types fnsOk ov rfl rfl rfl rfl rfl rfl rfl rfl rfl rfl rfl rfl (fun p x n w h1 h2=>z60 p x n w h1 h2) (fun p w=>z73 p w)
theorem l8:Hatch P E T F (29,111) 8 254:=
 z4j (g:=22) (km:=6) (cs:=[3]) (S:=[2,3]) (tl:=tlC 44 3 3) (fn:=qn) (G:=f254) types fnsOk rfl rfl pq rfl rfl (z7c (by kernel_rfl)) rfl (z13 (by kernel_rfl)) rfl rfl rfl rfl rfl rfl rfl
  (z5p mixed hmk (by kernel_rfl) (by kernel_rfl))
  (by decide) (by decide) (by decide) (by decide) (by decide) (by decide) C22 (fun n st st1 h hl=>z76 (pre:=[_]) h (aH (by decide) hl)) (fun j k sl mk hp ex st' hk hl _ h=>zj3 rfl rfl rfl j k sl mk hp ex st' (fun h=>hk (by simp only [List.mem_singleton] at h;subst h;decide)) hl h)
theorem C43:Closes P E T F (29,111) 43 (effC E 3) shC:=
 z4l (c:=23) (tE:=29) (fn:=p8) types fnsOk ow rfl rfl rfl rfl rfl rfl rfl rfl rfl rfl rfl rfl (fun p x n w h1 h2=>z60 p x n w h1 h2) (fun p w=>z73 p w)
theorem l14:Hatch P E T F (29,111) 14 216:=
 z4j (g:=43) (km:=12) (cs:=[4]) (S:=[4]) (tl:=tlC 44 3 4) (fn:=p9) (G:=f216) types fnsOk rfl rfl oz rfl rfl (z7c (by kernel_rfl)) rfl (z13 (by kernel_rfl)) rfl rfl rfl rfl rfl rfl rfl
  (z5p mixed hmk (by kernel_rfl) (by kernel_rfl))
  (by decide) (by decide) (by decide) (by decide) (by decide) (by decide) C43 (fun n st st1 h hl=>z76 (pre:=[_,_]) h (aH (by decide) hl)) (fun j k sl mk hp ex st' hk hl _ h=>zj3 rfl rfl rfl j k sl mk hp ex st' hk hl h)
theorem C47:Closes P E T F (29,111) 47 (effC E 3) shC:=
 z4l (c:=23) (tE:=29) (fn:=qa) types fnsOk oG rfl rfl rfl rfl rfl rfl rfl rfl rfl rfl rfl rfl (fun p x n w h1 h2=>z60 p x n w h1 h2) (fun p w=>z73 p w)
theorem l15:Hatch P E T F (29,111) 15 231:=
 z4j (g:=47) (km:=9) (cs:=[6]) (S:=[6]) (tl:=tlC 44 3 6) (fn:=qb) (G:=f231) types fnsOk rfl rfl oH rfl rfl (z7c (by kernel_rfl)) rfl (z13 (by kernel_rfl)) rfl rfl rfl rfl rfl rfl rfl
  (CLp.seq (z5p mixed hmk (by kernel_rfl) (by kernel_rfl)) (CLp.seq (z5p mixed hmk (by kernel_rfl) (by kernel_rfl)) (CLp.seq (z5p mixed hmk (by kernel_rfl) (by kernel_rfl)) (CLp.seq (z5p mixed hmk (by kernel_rfl) (by kernel_rfl)) (CLp.seq (z5p mixed hmk (by kernel_rfl) (by kernel_rfl)) (CLp.seq (zd5 (k1:=45) (k2:=46) 10 mixed rfl (by kernel_rfl) (by kernel_rfl) (by kernel_rfl) (by kernel_rfl) (by kernel_rfl) (by kernel_rfl) (by kernel_rfl) (by kernel_rfl)) (z5p mixed hmk (by kernel_rfl) (by kernel_rfl))))))))
  (by decide) (by decide) (by decide) (by decide) (by decide) (by decide) C47 (fun n st st1 h hl=>z76 (pre:=[_,_]) h (aH (by decide) hl)) (fun j k sl mk hp ex st' hk hl _ h=>zj3 rfl rfl rfl j k sl mk hp ex st' hk hl h)
theorem C58:Closes P E T F (29,111) 58 (effE E 55 3 (.agg [.int .i64 0,.int .i64 0,.str [],.imm .exact []])) shE:=
 zi3 (kk:=.i64) (fn:=qc) mixed types fnsOk oJ rfl rfl rfl rfl rfl rfl rfl rfl rfl rfl rfl rfl rfl rfl rfl (by kernel_rfl) rfl rfl rfl rfl rfl rfl rfl rfl rfl rfl rfl rfl rfl rfl rfl rfl rfl (by kernel_rfl) (fun _ _ _=>rfl) (fun d0 d1 d2 d3=>by cases d0 <;> cases d1 <;> cases d2 <;> cases d3 <;> kernel_rfl) (by kernel_rfl)
theorem l24:Hatch P E T F (29,111) 24 272:=
 z4j (g:=58) (km:=5) (cs:=[2,3]) (S:=[2,3]) (tl:=tlE 55 3 2 3 (.agg [.int .i64 0,.int .i64 0,.str [],.imm .exact []])) (fn:=qd) (G:=f272) types fnsOk rfl rfl oK rfl rfl (z7c (by kernel_rfl)) rfl (z13 (by kernel_rfl)) rfl rfl rfl rfl rfl rfl rfl
  (z5p mixed hmk (by kernel_rfl) (by kernel_rfl))
  (by decide) (by decide) (by decide) (by decide) (by decide) (by decide) C58 (fun n st st1 h hl=>zm1 h (aH (by decide) hl) (aH (by decide) hl) (by decide)) (fun j k sl mk hp ex st' hk hl _ h=>zrt j k sl mk hp ex st' hk hl h)

set_option maxRecDepth 100000 in
theorem tie:Tie P E T F:=zru (pt:=(29,111)) types mixed fnsOk (allc (z0 l3 rfl) (allc (z0 l4 rfl) (allc (z0 l5 rfl) (allc (z0 l6 rfl) (allc (z0 l7 rfl) (allc (z5h l8) (allc (z0 l9 rfl) (allc (z0 l10 rfl) (allc (z0 l11 rfl) (allc (z0 l12 rfl) (allc (z0 l13 rfl) (allc (z5h l14) (allc (z5h l15) (allc (z0 l16 rfl) (allc (z0 l17 rfl) (allc (z0 l18 rfl) (allc (z0 l19 rfl) (allc (z0 l20 rfl) (allc (z0 l21 rfl) (allc (z59 rfl) (allc (z59 rfl) (allc (z5h l24) (allc (zz l25 rfl) (allc (zz l26 rfl) (allc (zz l27 rfl) (allc (zz l28 rfl) (allc (zz l29 rfl) (allc (z0 l30 rfl) (allc (z0 l31 rfl) (allc (z0 l32 rfl) (allc (z0 l33 rfl) (allc (z0 l34 rfl) (allc (z0 l35 rfl) (allc (z0 l36 rfl) (allc (z0 l37 rfl) (allc (z0 l38 rfl) (allc (z0 l39 rfl) (allc (z0 l40 rfl) (allc (z0 l41 rfl) (allc (z0 l42 rfl) (allc (z59 rfl) (allc (z0 l44 rfl) (allc (zz l45 rfl) (allc (z0 l46 rfl) (allc (z59 rfl) (allc (zz l48 rfl) (allc (zz l49 rfl) (allc (zz l50 rfl) (allc (z0 l51 rfl) (allc (z0 l52 rfl) (allc (z0 l53 rfl) (allc (z0 l54 rfl) (allc (z0 l55 rfl) (allc (z0 l56 rfl) (allc (z0 l57 rfl) (allc (z59 rfl) (allc (zz l59 rfl) (allc (zz l60 rfl) (allc (zz l61 rfl) (allc (zz l62 rfl) (allc (zz l63 rfl) (allc (z0 l64 rfl) (allc (z0 l65 rfl) (allc (z0 l66 rfl) (allc (z0 l67 rfl) (allc (z0 l68 rfl) (allc (z0 l69 rfl) (allc (z0 l70 rfl) (allc (z0 l71 rfl) (allc (z0 l72 rfl) (allc (z0 l73 rfl) (allc (z0 l74 rfl) (allc (z0 l75 rfl) (allc (z0 l76 rfl) (allc (z0 l77 rfl) (allc (z0 l78 rfl) (allc (z0 l79 rfl) (allc (z0 l80 rfl) (allc (z0 l81 rfl) (allc (z0 l82 rfl) (allc (z0 l83 rfl) (allc (z0 l84 rfl) (allc (z0 l85 rfl) (allc (zz l86 rfl) (allc (z0 l87 rfl) (allc (z0 l88 rfl) (allc (z0 l89 rfl) (allc (z0 l90 rfl) (allc (z0 l91 rfl) (allc (z0 l92 rfl) (allc (z0 l93 rfl) (allc (zz l94 rfl) (allc (z0 l95 rfl) (allc (zz l96 rfl) (allc (zz l97 rfl) (allc (z0 l98 rfl) (allc (z0 l99 rfl) (allc (z0 l100 rfl) (allc (z0 l101 rfl) (allc (z0 l102 rfl) (allc (z0 l103 rfl) (allc (z0 l104 rfl) (allc (z0 l105 rfl) (allc (z0 l106 rfl) (allc (z0 l107 rfl) (allc (z0 l108 rfl) (allc (z0 l109 rfl) (allc (z0 l110 rfl) (allc (z0 l111 rfl) (allc (z0 l112 rfl) (allc (z0 l113 rfl) (allc (z0 l114 rfl) (allc (z0 l115 rfl) (allc (z0 l116 rfl) (allc (z0 l117 rfl) (allc (z0 l118 rfl) (allc (z0 l119 rfl) (allc (z0 l120 rfl) (allc (z0 l121 rfl) (allc (z0 l122 rfl) (allc (z0 l123 rfl) (allc (z0 l124 rfl) (allc (z0 l125 rfl) (allc (z0 l126 rfl) (allc (z0 l127 rfl) (allc (z0 l128 rfl) (allc (z0 l129 rfl) (alln))))))))))))))))))))))))))))))))))))))))))))))))))))))))))))))))))))))))))))))))))))))))))))))))))))))))))))))))))))))))))))))))

end Dv.Tryz
