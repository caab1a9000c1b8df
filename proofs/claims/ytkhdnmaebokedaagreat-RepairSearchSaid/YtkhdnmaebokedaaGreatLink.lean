/- Texts that a proof of this claim uses, joined: Dv.LinkTryz. -/
import Derived.Test.YtkhdnmaebokedaaGreatDvd
import Derived.Test.YtkhdnmaebokedaaGreatCode
import Derived.WalkKit
import Derived.RecoverIn
import Derived.Lib.Walk
import Derived.Lib.SliceRun
import Derived.Lib.AppendZerosOnto
import Derived.Test.YtkhdnmaebokedaaGreatChecked
import Derived.KernelRfl
set_option linter.all false
set_option maxHeartbeats 16000000
namespace Dv.Tryz
open Go (Program)

noncomputable abbrev P : Program:=Go.Proofs.Tryz.prog

def tl : List (Nat × Nat):=[(3,2),(4,7),(5,13),(9,53),(22,10),(23,9),(24,14),(26,0),(27,4),(31,3),(35,6),(36,31),(38,29),(39,30),(53,54),(55,12),(56,1),(59,32),(61,16),(63,15),(74,56),(76,55),(78,18),(80,17),(86,47),(87,52),(90,33),(111,22),(116,11),(117,23),(118,24),(123,28),(129,42),(130,43),(132,41),(137,20),(139,19),(141,59),(143,58),(144,62),(146,50),(147,49),(149,48),(151,51),(155,21),(171,44),(174,60),(181,61),(186,35),(202,57),(204,63),(219,26),(229,45),(231,64),(234,25),(250,27)]

def fl : List (Nat × Nat):=[(9,261),(10,262),(12,2),(14,230),(16,213),(21,256),(22,216),(23,22),(24,20),(25,24),(26,212),(27,129),(28,131),(29,214),(30,215),(31,222),(34,231),(35,61),(36,15),(37,159),(38,237),(39,240),(40,238),(41,245),(45,223),(52,236),(54,228),(62,280),(63,227),(64,229),(65,162),(66,83),(67,84),(68,30),(69,221),(70,139),(71,133),(72,150),(73,151),(74,224),(75,225),(76,87),(77,96),(78,226),(81,239),(82,241),(83,242),(84,243),(85,67),(86,69),(87,70),(88,71),(89,72),(90,73),(91,74),(92,75),(93,76),(94,173),(95,14),(113,66),(114,110),(115,68),(116,142),(117,140),(118,165),(119,166),(120,167),(121,168),(122,3),(123,7),(124,169),(125,233),(126,234),(127,235),(134,246),(135,9),(136,39),(137,37),(138,105),(139,106),(140,107),(152,104),(153,157),(154,172),(155,158),(156,161),(157,160),(158,175),(159,62),(160,63),(161,176),(162,244),(163,89),(164,90),(165,123),(166,174),(167,102),(168,122),(169,41),(170,97),(171,93),(172,112),(173,94),(174,116),(175,114),(176,115),(177,98),(178,113),(179,124),(180,117),(181,118),(182,125)]

def T : Phi:=look tl
def F : Phi:=look fl

theorem types : TAll P E T:=zqm (by kernel_rfl)
theorem mixed : P.follows .mixedOrders = true:=by kernel_rfl
theorem fnsOk : FnsOk P F:=zob (by kernel_rfl)

theorem pt1 : P.concrete (31,171).1 = true:=by kernel_rfl
theorem pt2 : P.concrete (31,171).2 = true:=by kernel_rfl
theorem l9 : FnL P T F 9 f261:=z8 Go.Proofs.Tryz.func9 (by kernel_rfl) (by kernel_rfl)
theorem l10 : FnL P T F 10 f262:=z8 Go.Proofs.Tryz.func10 (by kernel_rfl) (by kernel_rfl)
theorem l12 : FnL P T F 12 f2:=z8 Go.Proofs.Tryz.func12 (by kernel_rfl) (by kernel_rfl)
theorem l14 : FnL P T F 14 f230:=z8 Go.Proofs.Tryz.func14 (by kernel_rfl) (by kernel_rfl)
theorem l16 : FnL P T F 16 f213:=z8 Go.Proofs.Tryz.func16 (by kernel_rfl) (by kernel_rfl)
theorem l21 : FnL P T F 21 f256:=z8 Go.Proofs.Tryz.func21 (by kernel_rfl) (by kernel_rfl)
theorem l23 : FnL P T F 23 f22:=z8 Go.Proofs.Tryz.func23 (by kernel_rfl) (by kernel_rfl)
theorem l24 : FnL P T F 24 f20:=z8 Go.Proofs.Tryz.func24 (by kernel_rfl) (by kernel_rfl)
theorem l25 : FnL P T F 25 f24:=z8 Go.Proofs.Tryz.func25 (by kernel_rfl) (by kernel_rfl)
theorem l26 : FnL P T F 26 f212:=z8 Go.Proofs.Tryz.func26 (by kernel_rfl) (by kernel_rfl)
theorem l27 : FnL P T F 27 f129:=z8 Go.Proofs.Tryz.func27 (by kernel_rfl) (by kernel_rfl)
theorem l28 : FnL P T F 28 f131:=z8 Go.Proofs.Tryz.func28 (by kernel_rfl) (by kernel_rfl)
theorem l29 : FnL P T F 29 f214:=z8 Go.Proofs.Tryz.func29 (by kernel_rfl) (by kernel_rfl)
theorem l30 : FnL P T F 30 f215:=z8 Go.Proofs.Tryz.func30 (by kernel_rfl) (by kernel_rfl)
theorem l31 : FnL P T F 31 f222:=z8 Go.Proofs.Tryz.func31 (by kernel_rfl) (by kernel_rfl)
theorem l35 : FnL P T F 35 f61:=z8 Go.Proofs.Tryz.func35 (by kernel_rfl) (by kernel_rfl)
theorem l36 : FnL P T F 36 f15:=z8 Go.Proofs.Tryz.func36 (by kernel_rfl) (by kernel_rfl)
theorem l37 : FnL P T F 37 f159:=z8 Go.Proofs.Tryz.func37 (by kernel_rfl) (by kernel_rfl)
theorem l38 : FnL P T F 38 f237:=z8 Go.Proofs.Tryz.func38 (by kernel_rfl) (by kernel_rfl)
theorem l39 : FnL P T F 39 f240:=z8 Go.Proofs.Tryz.func39 (by kernel_rfl) (by kernel_rfl)
theorem l40 : FnL P T F 40 f238:=z8 Go.Proofs.Tryz.func40 (by kernel_rfl) (by kernel_rfl)
theorem l41 : FnL P T F 41 f245:=z8 Go.Proofs.Tryz.func41 (by kernel_rfl) (by kernel_rfl)
theorem l45 : FnL P T F 45 f223:=z8 Go.Proofs.Tryz.func45 (by kernel_rfl) (by kernel_rfl)
theorem l54 : FnM P T F (31,171) 54 f228:=z9o Go.Proofs.Tryz.func54 pt1 pt2 (by kernel_rfl) (by kernel_rfl)
theorem l62 : FnL P T F 62 f280:=z8 Go.Proofs.Tryz.func62 (by kernel_rfl) (by kernel_rfl)
theorem l64 : FnM P T F (31,171) 64 f229:=z9o Go.Proofs.Tryz.func64 pt1 pt2 (by kernel_rfl) (by kernel_rfl)
theorem l65 : FnL P T F 65 f162:=z8 Go.Proofs.Tryz.func65 (by kernel_rfl) (by kernel_rfl)
theorem l66 : FnL P T F 66 f83:=z8 Go.Proofs.Tryz.func66 (by kernel_rfl) (by kernel_rfl)
theorem l67 : FnL P T F 67 f84:=z8 Go.Proofs.Tryz.func67 (by kernel_rfl) (by kernel_rfl)
theorem l68 : FnL P T F 68 f30:=z8 Go.Proofs.Tryz.func68 (by kernel_rfl) (by kernel_rfl)
theorem l69 : FnL P T F 69 f221:=z8 Go.Proofs.Tryz.func69 (by kernel_rfl) (by kernel_rfl)
theorem l70 : FnL P T F 70 f139:=z8 Go.Proofs.Tryz.func70 (by kernel_rfl) (by kernel_rfl)
theorem l71 : FnL P T F 71 f133:=z8 Go.Proofs.Tryz.func71 (by kernel_rfl) (by kernel_rfl)
theorem l72 : FnL P T F 72 f150:=z8 Go.Proofs.Tryz.func72 (by kernel_rfl) (by kernel_rfl)
theorem l73 : FnL P T F 73 f151:=z8 Go.Proofs.Tryz.func73 (by kernel_rfl) (by kernel_rfl)
theorem l74 : FnL P T F 74 f224:=z8 Go.Proofs.Tryz.func74 (by kernel_rfl) (by kernel_rfl)
theorem l75 : FnL P T F 75 f225:=z8 Go.Proofs.Tryz.func75 (by kernel_rfl) (by kernel_rfl)
theorem l76 : FnL P T F 76 f87:=z8 Go.Proofs.Tryz.func76 (by kernel_rfl) (by kernel_rfl)
theorem l78 : FnL P T F 78 f226:=z8 Go.Proofs.Tryz.func78 (by kernel_rfl) (by kernel_rfl)
theorem l82 : FnM P T F (31,171) 82 f241:=z9o Go.Proofs.Tryz.func82 pt1 pt2 (by kernel_rfl) (by kernel_rfl)
theorem l83 : FnM P T F (31,171) 83 f242:=z9o Go.Proofs.Tryz.func83 pt1 pt2 (by kernel_rfl) (by kernel_rfl)
theorem l84 : FnM P T F (31,171) 84 f243:=z9o Go.Proofs.Tryz.func84 pt1 pt2 (by kernel_rfl) (by kernel_rfl)
theorem l85 : FnL P T F 85 f67:=z8 Go.Proofs.Tryz.func85 (by kernel_rfl) (by kernel_rfl)
theorem l86 : FnL P T F 86 f69:=z8 Go.Proofs.Tryz.func86 (by kernel_rfl) (by kernel_rfl)
theorem l87 : FnL P T F 87 f70:=z8 Go.Proofs.Tryz.func87 (by kernel_rfl) (by kernel_rfl)
theorem l88 : FnL P T F 88 f71:=z8 Go.Proofs.Tryz.func88 (by kernel_rfl) (by kernel_rfl)
theorem l89 : FnL P T F 89 f72:=z8 Go.Proofs.Tryz.func89 (by kernel_rfl) (by kernel_rfl)
theorem l90 : FnL P T F 90 f73:=z8 Go.Proofs.Tryz.func90 (by kernel_rfl) (by kernel_rfl)
theorem l91 : FnL P T F 91 f74:=z8 Go.Proofs.Tryz.func91 (by kernel_rfl) (by kernel_rfl)
theorem l92 : FnL P T F 92 f75:=z8 Go.Proofs.Tryz.func92 (by kernel_rfl) (by kernel_rfl)
theorem l93 : FnL P T F 93 f76:=z8 Go.Proofs.Tryz.func93 (by kernel_rfl) (by kernel_rfl)
theorem l94 : FnL P T F 94 f173:=z8 Go.Proofs.Tryz.func94 (by kernel_rfl) (by kernel_rfl)
theorem l95 : FnL P T F 95 f14:=z8 Go.Proofs.Tryz.func95 (by kernel_rfl) (by kernel_rfl)
theorem l113 : FnL P T F 113 f66:=z8 Go.Proofs.Tryz.func113 (by kernel_rfl) (by kernel_rfl)
theorem l114 : FnL P T F 114 f110:=z8 Go.Proofs.Tryz.func114 (by kernel_rfl) (by kernel_rfl)
theorem l115 : FnL P T F 115 f68:=z8 Go.Proofs.Tryz.func115 (by kernel_rfl) (by kernel_rfl)
theorem l116 : FnL P T F 116 f142:=z8 Go.Proofs.Tryz.func116 (by kernel_rfl) (by kernel_rfl)
theorem l117 : FnL P T F 117 f140:=z8 Go.Proofs.Tryz.func117 (by kernel_rfl) (by kernel_rfl)
theorem l119 : FnL P T F 119 f166:=z8 Go.Proofs.Tryz.func119 (by kernel_rfl) (by kernel_rfl)
theorem l120 : FnL P T F 120 f167:=z8 Go.Proofs.Tryz.func120 (by kernel_rfl) (by kernel_rfl)
theorem l121 : FnL P T F 121 f168:=z8 Go.Proofs.Tryz.func121 (by kernel_rfl) (by kernel_rfl)
theorem l122 : FnL P T F 122 f3:=z8 Go.Proofs.Tryz.func122 (by kernel_rfl) (by kernel_rfl)
theorem l123 : FnL P T F 123 f7:=z8 Go.Proofs.Tryz.func123 (by kernel_rfl) (by kernel_rfl)
theorem l124 : FnL P T F 124 f169:=z8 Go.Proofs.Tryz.func124 (by kernel_rfl) (by kernel_rfl)
theorem l125 : FnL P T F 125 f233:=z8 Go.Proofs.Tryz.func125 (by kernel_rfl) (by kernel_rfl)
theorem l126 : FnL P T F 126 f234:=z8 Go.Proofs.Tryz.func126 (by kernel_rfl) (by kernel_rfl)
theorem l127 : FnL P T F 127 f235:=z8 Go.Proofs.Tryz.func127 (by kernel_rfl) (by kernel_rfl)
theorem l134 : FnM P T F (31,171) 134 f246:=z9o Go.Proofs.Tryz.func134 pt1 pt2 (by kernel_rfl) (by kernel_rfl)
theorem l135 : FnL P T F 135 f9:=z8 Go.Proofs.Tryz.func135 (by kernel_rfl) (by kernel_rfl)
theorem l136 : FnL P T F 136 f39:=z8 Go.Proofs.Tryz.func136 (by kernel_rfl) (by kernel_rfl)
theorem l137 : FnL P T F 137 f37:=z8 Go.Proofs.Tryz.func137 (by kernel_rfl) (by kernel_rfl)
theorem l138 : FnL P T F 138 f105:=z8 Go.Proofs.Tryz.func138 (by kernel_rfl) (by kernel_rfl)
theorem l139 : FnL P T F 139 f106:=z8 Go.Proofs.Tryz.func139 (by kernel_rfl) (by kernel_rfl)
theorem l140 : FnL P T F 140 f107:=z8 Go.Proofs.Tryz.func140 (by kernel_rfl) (by kernel_rfl)
theorem l152 : FnL P T F 152 f104:=z8 Go.Proofs.Tryz.func152 (by kernel_rfl) (by kernel_rfl)
theorem l153 : FnL P T F 153 f157:=z8 Go.Proofs.Tryz.func153 (by kernel_rfl) (by kernel_rfl)
theorem l154 : FnL P T F 154 f172:=z8 Go.Proofs.Tryz.func154 (by kernel_rfl) (by kernel_rfl)
theorem l155 : FnL P T F 155 f158:=z8 Go.Proofs.Tryz.func155 (by kernel_rfl) (by kernel_rfl)
theorem l156 : FnL P T F 156 f161:=z8 Go.Proofs.Tryz.func156 (by kernel_rfl) (by kernel_rfl)
theorem l157 : FnL P T F 157 f160:=z8 Go.Proofs.Tryz.func157 (by kernel_rfl) (by kernel_rfl)
theorem l158 : FnL P T F 158 f175:=z8 Go.Proofs.Tryz.func158 (by kernel_rfl) (by kernel_rfl)
theorem l159 : FnL P T F 159 f62:=z8 Go.Proofs.Tryz.func159 (by kernel_rfl) (by kernel_rfl)
theorem l160 : FnL P T F 160 f63:=z8 Go.Proofs.Tryz.func160 (by kernel_rfl) (by kernel_rfl)
theorem l161 : FnL P T F 161 f176:=z8 Go.Proofs.Tryz.func161 (by kernel_rfl) (by kernel_rfl)
theorem l163 : FnL P T F 163 f89:=z8 Go.Proofs.Tryz.func163 (by kernel_rfl) (by kernel_rfl)
theorem l164 : FnL P T F 164 f90:=z8 Go.Proofs.Tryz.func164 (by kernel_rfl) (by kernel_rfl)
theorem l165 : FnL P T F 165 f123:=z8 Go.Proofs.Tryz.func165 (by kernel_rfl) (by kernel_rfl)
theorem l166 : FnL P T F 166 f174:=z8 Go.Proofs.Tryz.func166 (by kernel_rfl) (by kernel_rfl)
theorem l167 : FnL P T F 167 f102:=z8 Go.Proofs.Tryz.func167 (by kernel_rfl) (by kernel_rfl)
theorem l168 : FnL P T F 168 f122:=z8 Go.Proofs.Tryz.func168 (by kernel_rfl) (by kernel_rfl)
theorem l169 : FnL P T F 169 f41:=z8 Go.Proofs.Tryz.func169 (by kernel_rfl) (by kernel_rfl)
theorem l170 : FnL P T F 170 f97:=z8 Go.Proofs.Tryz.func170 (by kernel_rfl) (by kernel_rfl)
theorem l171 : FnL P T F 171 f93:=z8 Go.Proofs.Tryz.func171 (by kernel_rfl) (by kernel_rfl)
theorem l172 : FnL P T F 172 f112:=z8 Go.Proofs.Tryz.func172 (by kernel_rfl) (by kernel_rfl)
theorem l173 : FnL P T F 173 f94:=z8 Go.Proofs.Tryz.func173 (by kernel_rfl) (by kernel_rfl)
theorem l174 : FnL P T F 174 f116:=z8 Go.Proofs.Tryz.func174 (by kernel_rfl) (by kernel_rfl)
theorem l175 : FnL P T F 175 f114:=z8 Go.Proofs.Tryz.func175 (by kernel_rfl) (by kernel_rfl)
theorem l176 : FnL P T F 176 f115:=z8 Go.Proofs.Tryz.func176 (by kernel_rfl) (by kernel_rfl)
theorem l177 : FnL P T F 177 f98:=z8 Go.Proofs.Tryz.func177 (by kernel_rfl) (by kernel_rfl)
theorem l178 : FnL P T F 178 f113:=z8 Go.Proofs.Tryz.func178 (by kernel_rfl) (by kernel_rfl)
theorem l179 : FnL P T F 179 f124:=z8 Go.Proofs.Tryz.func179 (by kernel_rfl) (by kernel_rfl)
theorem l180 : FnL P T F 180 f117:=z8 Go.Proofs.Tryz.func180 (by kernel_rfl) (by kernel_rfl)
theorem l181 : FnL P T F 181 f118:=z8 Go.Proofs.Tryz.func181 (by kernel_rfl) (by kernel_rfl)
theorem l182 : FnL P T F 182 f125:=z8 Go.Proofs.Tryz.func182 (by kernel_rfl) (by kernel_rfl)

theorem hmk (b : Bool) (v : Go.Value) (w : Go.World) : (Go.Instr.makeInterface (if b = true then ((31,171) : Nat × Nat).2 else ((31,171) : Nat × Nat).1) v).run P w = .ok (.iface (if b = true then ((31,171) : Nat × Nat).2 else ((31,171) : Nat × Nat).1) v) w:=by
 cases b
 ·exact Go.run_makeInterface w _ v pt1
 ·exact Go.run_makeInterface w _ v pt2

section
open Go Go.Proofs
theorem z4v {P : Program} (t xT : TypeId) (v : Value) (b : Bool) (w : World) (h : P.concrete t = true) : (Instr.typeAssert (.iface t v) xT t b).run P w = .ok (if b then .tuple #[v,.bool true] else v) w:=by
 unfold Program.concrete at h
 cases hu : P.underlying t with
 | none=>simp [hu] at h
 | some d=>cases d <;> first | (simp [hu] at h; done) | (cases b <;> simp [Instr.typeAssert,run_underlying hu])

set_option maxRecDepth 100000 in
theorem z8u (p : Addr) (x : Value) (n : Int) (w : World) (hc : (w.alloc (.cells #[.int .i64 n] 171)).cell? p = some x) (hz : (w.alloc (.cells #[.int .i64 n] 171)).frozen? p = false) :
  Calls Go.Proofs.Tryz.prog 52 #[.iface 171 (.agg #[.int .i64 n]),.pointer (some p)] w fun e w'=>e = .returned (.tuple #[]) /\ w' = (w.alloc (.cells #[.int .i64 n] 171)).setCell p (.int .i64 n):=by
 have hta:=fun w=>z4v (P:=Go.Proofs.Tryz.prog) 171 20 (.agg #[.int .i64 n]) true w (by kernel_rfl)
 simp only [if_true] at hta
 go_enter Go.Proofs.Tryz.func52,Go.Proofs.Tryz.ntmps52
 go_wp2
 go_end0
 exact ⟨rfl,rfl⟩

set_option maxRecDepth 100000 in
theorem z9v (p : Addr) (w : World) : Calls Go.Proofs.Tryz.prog 52 #[.nilIface,.pointer (some p)] w fun e w'=>e = .returned (.tuple #[]) /\ w' = w:=by
 go_enter Go.Proofs.Tryz.func52,Go.Proofs.Tryz.ntmps52
 go_wp2
 go_end0
 exact ⟨rfl,rfl⟩
end

theorem C63 : Closes P E T F (31,171) 63 (effC E 3) shC:=
 z5w (c:=52) (tE:=31) (fn:=Go.Proofs.Tryz.f63) types fnsOk Go.Proofs.Tryz.func63 rfl rfl rfl rfl rfl rfl rfl rfl rfl rfl rfl rfl (fun p x n w h1 h2=>z8u p x n w h1 h2) (fun p w=>z9v p w)
theorem l22 : Hatch P E T F (31,171) 22 216:=
 z8p (g:=63) (km:=12) (cs:=[4]) (S:=[4]) (tl:=tlC 44 3 4) (fn:=Go.Proofs.Tryz.f22) (G:=f216) types fnsOk rfl rfl Go.Proofs.Tryz.func22 rfl rfl (z9e (by kernel_rfl)) rfl (zp (by kernel_rfl)) rfl rfl rfl rfl rfl rfl rfl
  (z6y hmk (by kernel_rfl) (by kernel_rfl))
  (by decide) (by decide) (by decide) (by decide) (by decide) (by decide) C63 (fun n st st1 h hl=>z9x (pre:=[_,_]) h (Nat.lt_of_lt_of_le (by decide) hl)) (fun j k sl mk hp ex st' hk hl _ h=>zpk rfl rfl rfl j k sl mk hp ex st' hk hl h)
theorem C81 : Closes P E T F (31,171) 81 (effC E 3) shC:=
 z5w (c:=52) (tE:=31) (fn:=Go.Proofs.Tryz.f81) types fnsOk Go.Proofs.Tryz.func81 rfl rfl rfl rfl rfl rfl rfl rfl rfl rfl rfl rfl (fun p x n w h1 h2=>z8u p x n w h1 h2) (fun p w=>z9v p w)
theorem l34 : Hatch P E T F (31,171) 34 231:=
 z8p (g:=81) (km:=9) (cs:=[6]) (S:=[6]) (tl:=tlC 44 3 6) (fn:=Go.Proofs.Tryz.f34) (G:=f231) types fnsOk rfl rfl Go.Proofs.Tryz.func34 rfl rfl (z9e (by kernel_rfl)) rfl (zp (by kernel_rfl)) rfl rfl rfl rfl rfl rfl rfl
  (CLp.seq (z6y hmk (by kernel_rfl) (by kernel_rfl)) (CLp.seq (z6y hmk (by kernel_rfl) (by kernel_rfl)) (CLp.seq (z6y hmk (by kernel_rfl) (by kernel_rfl)) (CLp.seq (z6y hmk (by kernel_rfl) (by kernel_rfl)) (CLp.seq (z6y hmk (by kernel_rfl) (by kernel_rfl)) (CLp.seq (zd0 (k1:=45) (k2:=46) 10 mixed rfl (by kernel_rfl) (by kernel_rfl) (by kernel_rfl) (by kernel_rfl) (by kernel_rfl) (by kernel_rfl) (by kernel_rfl) (by kernel_rfl)) (z6y hmk (by kernel_rfl) (by kernel_rfl))))))))
  (by decide) (by decide) (by decide) (by decide) (by decide) (by decide) C81 (fun n st st1 h hl=>z9x (pre:=[_,_]) h (Nat.lt_of_lt_of_le (by decide) hl)) (fun j k sl mk hp ex st' hk hl _ h=>zpk rfl rfl rfl j k sl mk hp ex st' hk hl h)

section
open Go Go.Proofs Go.RowKit
set_option maxRecDepth 100000 in
theorem zlf (base : Option Addr) (w : World) : Calls Go.Proofs.Tryz.prog 162 #[.slice base 0 0,.int .i64 0] w fun e w'=>e = .returned (.slice base 0 0) /\ w' = w:=by
 go_enter Go.Proofs.Tryz.func162,Go.Proofs.Tryz.ntmps162
 go_wp2
 go_ret
 exact ⟨rfl,rfl⟩

set_option maxRecDepth 100000 in
theorem zlg (i0 : TypeInfo) (z : Value) (hi0 : Go.Proofs.Tryz.prog.info? 63 = some i0) (hz0 : i0.zero = some z) (hs0 : 0 < i0.size) (base : Option Addr) (n : Nat) (w : World) (hroom : 0 < n) (hbig : n * i0.bytes <= 140737488355328) (h63 : n <= 4611686018427387904) :
  Calls Go.Proofs.Tryz.prog 162 #[.slice base 0 0,.int .i64 n] w fun e w'=>e = .returned (.slice (some ⟨w.heap.size,0,none⟩) 0 (grownCap w n 0 63)) /\
   w' = w.drew.alloc (.cells (Builtin.zeroCells z.cells n ++ Builtin.zeroCells z.cells (grownCap w n 0 63 - n)) 63):=by
 have h1 : ¬ ((n : Int) < 0):=by omega
 have h4 : (n : Int) > 0:=by omega
 have hw0 : wrap64 (n : Int) = (n : Int):=by unfold wrap64; omega
 have hrz : ∀ ty,(Builtin.append_ #[24,3] ty #[.slice base 0 0,.int .i64 (n : Int)]).run Go.Proofs.Tryz.prog w =
   .ok (.slice (some ⟨w.heap.size,0,none⟩) n (grownCap w n 0 63)) (w.drew.alloc (.cells (Builtin.zeroCells z.cells n ++ Builtin.zeroCells z.cells (grownCap w n 0 63 - n)) 63)):=fun ty=>by
  have hold : (Builtin.firstCells i0.size 0 (.slice base 0 0)).run Go.Proofs.Tryz.prog w.drew = .ok ([] : List Value).toArray w.drew:=by
   cases base with
   | none=>exact run_firstCells_none w.drew i0.size 0 0 0
   | some a=>exact run_firstCells_some w.drew i0.size 0 a 0 0 [] (by simp) (fun j v hj=>by simp at hj)
  have h:=Lib.run_append_grow_zeros w 24 3 ty 63 i0 z .i64 .i64 (by kernel_rfl) (by kernel_rfl) hi0 hz0 base 0 0 [] hold n (by omega) hs0 (by omega) (by omega)
   (by omega) (by rw [Nat.zero_add]; exact growslice_fits hroom hbig)
  simpa using h
 go_enter Go.Proofs.Tryz.func162,Go.Proofs.Tryz.ntmps162
 go_wp2_with (at_builtin; refine Lib.wpList_append_run _ rfl _ _ _ _ rfl _ _ rfl rfl _ _ (hrz _) ?_)
 all_goals (go_ret; exact ⟨rfl,rfl⟩)
end

theorem z8z (z : Array Go.Value) (n : Nat) : (Go.Builtin.zeroCells z n).size = n * z.size:=by simp [Go.Builtin.zeroCells]

theorem z5k : ∀ {l : List Go.Value} {ds : List D},ofClosedL l = some ds -> l.length = ds.length
 | [],ds,h=>by simp [ofClosedL] at h; subst h; rfl
 | v :: l,ds,h=>by
  simp only [ofClosedL] at h
  split at h
  ·rename_i d r h1 h2
   simp only [Option.some.injEq] at h; subst h
   simp [z5k h2]
  ·simp at h

theorem growOk : GrowOk P 162 (E.ty 15).bytes (E.ty 15).size:=by
 obtain ⟨i0,hi0,hsz,hby,hz⟩:=(types 63 15 rfl).info
 obtain ⟨z,hz0,hzl,_⟩:=hz (by decide) (by decide)
 have hzs : z.cells.size = (E.ty 15).size:=by
  have:=z5k hzl
  rw [Array.length_toList] at this
  rw [this]; decide
 have hpos : 0 < i0.size:=by rw [hsz]; decide
 rw [<- hsz,<- hby]
 constructor
 ·intro base w
  exact zlf base w
 ·intro base n w hn hb hn2
  have:=zlg i0 z hi0 hz0 hpos base n w hn hb hn2
  have hG:=Go.grownCap_ge w n 0 63
  generalize Go.grownCap w n 0 63 = G at this hG
  refine this.mono ?_
  rintro e w' ⟨rfl,rfl⟩
  refine ⟨G,63,_,?_,rfl,rfl,⟨rfl,rfl,rfl⟩⟩
  simp only [Array.size_append,z8z,hzs,hsz]
  rw [<- Nat.add_mul,show n + (G - n) = G from by omega]

theorem l162 : Hatch P E T F (31,171) 162 244:=zij (c:=14) (i:=2) (e:=15) (G:=f244) rfl rfl rfl rfl growOk

theorem l118 : ∀ n,StatAt P (CLk T F true) F (runS E (dC E n) 165) 118:=z9s (c:=4) (fn:=Go.Proofs.Tryz.f118) (code:=Go.Proofs.Tryz.f118.body.getD .skip) types fnsOk rfl Go.Proofs.Tryz.func118 rfl rfl rfl (by kernel_rfl)
theorem l77 : ∀ n,StatAt P (CLk T F true) F (runS E (dC E n) 96) 77:=z9s (c:=6) (fn:=Go.Proofs.Tryz.f77) (code:=Go.Proofs.Tryz.f77.body.getD .skip) types fnsOk rfl Go.Proofs.Tryz.func77 rfl rfl rfl (by kernel_rfl)

theorem tie : Tie P E T F:=zsl (pt:=(31,171)) types mixed fnsOk (allc (z4 l9 rfl) (allc (z4 l10 rfl) (allc (z4 l12 rfl) (allc (z4 l14 rfl) (allc (z4 l16 rfl) (allc (z4 l21 rfl) (allc (z69 l22) (allc (z4 l23 rfl) (allc (z4 l24 rfl) (allc (z4 l25 rfl) (allc (z4 l26 rfl) (allc (z4 l27 rfl) (allc (z4 l28 rfl) (allc (z4 l29 rfl) (allc (z4 l30 rfl) (allc (z4 l31 rfl) (allc (z69 l34) (allc (z4 l35 rfl) (allc (z4 l36 rfl) (allc (z4 l37 rfl) (allc (z4 l38 rfl) (allc (z4 l39 rfl) (allc (z4 l40 rfl) (allc (z4 l41 rfl) (allc (z4 l45 rfl) (allc (z8e rfl) (allc (z3e l54 rfl) (allc (z4 l62 rfl) (allc (z8e rfl) (allc (z3e l64 rfl) (allc (z4 l65 rfl) (allc (z4 l66 rfl) (allc (z4 l67 rfl) (allc (z4 l68 rfl) (allc (z4 l69 rfl) (allc (z4 l70 rfl) (allc (z4 l71 rfl) (allc (z4 l72 rfl) (allc (z4 l73 rfl) (allc (z4 l74 rfl) (allc (z4 l75 rfl) (allc (z4 l76 rfl) (allc (z9l l77) (allc (z4 l78 rfl) (allc (z8e rfl) (allc (z3e l82 rfl) (allc (z3e l83 rfl) (allc (z3e l84 rfl) (allc (z4 l85 rfl) (allc (z4 l86 rfl) (allc (z4 l87 rfl) (allc (z4 l88 rfl) (allc (z4 l89 rfl) (allc (z4 l90 rfl) (allc (z4 l91 rfl) (allc (z4 l92 rfl) (allc (z4 l93 rfl) (allc (z4 l94 rfl) (allc (z4 l95 rfl) (allc (z4 l113 rfl) (allc (z4 l114 rfl) (allc (z4 l115 rfl) (allc (z4 l116 rfl) (allc (z4 l117 rfl) (allc (z9l l118) (allc (z4 l119 rfl) (allc (z4 l120 rfl) (allc (z4 l121 rfl) (allc (z4 l122 rfl) (allc (z4 l123 rfl) (allc (z4 l124 rfl) (allc (z4 l125 rfl) (allc (z4 l126 rfl) (allc (z4 l127 rfl) (allc (z3e l134 rfl) (allc (z4 l135 rfl) (allc (z4 l136 rfl) (allc (z4 l137 rfl) (allc (z4 l138 rfl) (allc (z4 l139 rfl) (allc (z4 l140 rfl) (allc (z4 l152 rfl) (allc (z4 l153 rfl) (allc (z4 l154 rfl) (allc (z4 l155 rfl) (allc (z4 l156 rfl) (allc (z4 l157 rfl) (allc (z4 l158 rfl) (allc (z4 l159 rfl) (allc (z4 l160 rfl) (allc (z4 l161 rfl) (allc (z69 l162) (allc (z4 l163 rfl) (allc (z4 l164 rfl) (allc (z4 l165 rfl) (allc (z4 l166 rfl) (allc (z4 l167 rfl) (allc (z4 l168 rfl) (allc (z4 l169 rfl) (allc (z4 l170 rfl) (allc (z4 l171 rfl) (allc (z4 l172 rfl) (allc (z4 l173 rfl) (allc (z4 l174 rfl) (allc (z4 l175 rfl) (allc (z4 l176 rfl) (allc (z4 l177 rfl) (allc (z4 l178 rfl) (allc (z4 l179 rfl) (allc (z4 l180 rfl) (allc (z4 l181 rfl) (allc (z4 l182 rfl) (alln)))))))))))))))))))))))))))))))))))))))))))))))))))))))))))))))))))))))))))))))))))))))))))))))))))))))))))))))))

end Dv.Tryz
