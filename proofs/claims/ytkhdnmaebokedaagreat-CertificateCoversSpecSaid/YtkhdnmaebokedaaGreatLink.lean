/- Texts that a proof of this claim uses, joined: Dv.LinkTryz. -/
import Derived.Test.YtkhdnmaebokedaaGreatDvd
import Derived.Test.YtkhdnmaebokedaaGreatCode
import Derived.WalkKit
import Derived.RecoverIn
import Derived.Lib.Walk
import Derived.Lib.SliceRun
import Derived.Lib.AppendZerosOnto
import Derived.Test.YtkhdnmaebokedaaGreatChecked
import Derived.KernelRfl
set_option linter.all false
set_option maxHeartbeats 16000000
namespace Dv.Tryz
open Go (Program)

noncomputable abbrev P : Program:=Go.Proofs.Tryz.prog

def tl : List (Nat × Nat):=[(3,2),(4,7),(5,13),(9,53),(22,10),(23,9),(24,14),(26,0),(27,4),(31,3),(35,6),(36,31),(38,29),(39,30),(53,54),(55,12),(56,1),(59,32),(61,16),(63,15),(74,56),(76,55),(78,18),(80,17),(86,47),(87,52),(90,33),(111,22),(116,11),(117,23),(118,24),(123,28),(129,42),(130,43),(132,41),(137,20),(139,19),(141,59),(143,58),(144,62),(146,50),(147,49),(149,48),(151,51),(155,21),(171,44),(174,60),(181,61),(186,35),(202,57),(204,63),(219,26),(229,45),(231,64),(234,25),(250,27)]

def fl : List (Nat × Nat):=[(3,247),(5,257),(6,258),(7,259),(8,260),(11,248),(12,2),(13,249),(14,230),(15,250),(16,213),(17,252),(19,254),(21,256),(22,216),(23,22),(24,20),(25,24),(32,263),(33,264),(34,231),(35,61),(36,15),(37,159),(38,237),(39,240),(40,238),(41,245),(42,19),(43,78),(44,265),(45,223),(46,266),(47,267),(48,268),(51,271),(52,236),(53,272),(54,228),(55,273),(56,274),(57,275),(58,276),(62,280),(63,227),(64,229),(65,162),(66,83),(67,84),(68,30),(76,87),(79,281),(80,282),(81,239),(82,241),(83,242),(84,243),(85,67),(86,69),(87,70),(88,71),(89,72),(90,73),(91,74),(92,75),(93,76),(94,173),(95,14),(96,81),(97,79),(98,82),(99,283),(100,284),(101,285),(106,290),(107,291),(108,292),(109,293),(110,294),(111,295),(113,66),(114,110),(115,68),(122,3),(128,297),(129,298),(130,312),(131,311),(132,299),(133,300),(134,246),(135,9),(136,39),(137,37),(138,105),(139,106),(140,107),(141,109),(146,305),(147,307),(148,306),(149,308),(152,104),(159,62),(160,63),(163,89),(164,90),(165,123),(167,102),(168,122),(169,41),(170,97),(171,93),(172,112),(173,94),(174,116),(175,114),(176,115),(177,98),(178,113),(179,124),(180,117),(181,118),(182,125)]

def T : Phi:=look tl
def F : Phi:=look fl

theorem types : TAll P E T:=zpl (by kernel_rfl)
theorem mixed : P.follows .mixedOrders = true:=by kernel_rfl
theorem fnsOk : FnsOk P F:=znh (by kernel_rfl)

theorem pt1 : P.concrete (31,171).1 = true:=by kernel_rfl
theorem pt2 : P.concrete (31,171).2 = true:=by kernel_rfl
theorem l3 : FnL P T F 3 f247:=z5 Go.Proofs.Tryz.func3 (by kernel_rfl) (by kernel_rfl)
theorem l5 : FnL P T F 5 f257:=z5 Go.Proofs.Tryz.func5 (by kernel_rfl) (by kernel_rfl)
theorem l6 : FnL P T F 6 f258:=z5 Go.Proofs.Tryz.func6 (by kernel_rfl) (by kernel_rfl)
theorem l7 : FnL P T F 7 f259:=z5 Go.Proofs.Tryz.func7 (by kernel_rfl) (by kernel_rfl)
theorem l8 : FnL P T F 8 f260:=z5 Go.Proofs.Tryz.func8 (by kernel_rfl) (by kernel_rfl)
theorem l11 : FnL P T F 11 f248:=z5 Go.Proofs.Tryz.func11 (by kernel_rfl) (by kernel_rfl)
theorem l12 : FnL P T F 12 f2:=z5 Go.Proofs.Tryz.func12 (by kernel_rfl) (by kernel_rfl)
theorem l13 : FnL P T F 13 f249:=z5 Go.Proofs.Tryz.func13 (by kernel_rfl) (by kernel_rfl)
theorem l14 : FnL P T F 14 f230:=z5 Go.Proofs.Tryz.func14 (by kernel_rfl) (by kernel_rfl)
theorem l15 : FnL P T F 15 f250:=z5 Go.Proofs.Tryz.func15 (by kernel_rfl) (by kernel_rfl)
theorem l16 : FnL P T F 16 f213:=z5 Go.Proofs.Tryz.func16 (by kernel_rfl) (by kernel_rfl)
theorem l17 : FnL P T F 17 f252:=z5 Go.Proofs.Tryz.func17 (by kernel_rfl) (by kernel_rfl)
theorem l21 : FnL P T F 21 f256:=z5 Go.Proofs.Tryz.func21 (by kernel_rfl) (by kernel_rfl)
theorem l23 : FnL P T F 23 f22:=z5 Go.Proofs.Tryz.func23 (by kernel_rfl) (by kernel_rfl)
theorem l24 : FnL P T F 24 f20:=z5 Go.Proofs.Tryz.func24 (by kernel_rfl) (by kernel_rfl)
theorem l25 : FnL P T F 25 f24:=z5 Go.Proofs.Tryz.func25 (by kernel_rfl) (by kernel_rfl)
theorem l32 : FnL P T F 32 f263:=z5 Go.Proofs.Tryz.func32 (by kernel_rfl) (by kernel_rfl)
theorem l33 : FnL P T F 33 f264:=z5 Go.Proofs.Tryz.func33 (by kernel_rfl) (by kernel_rfl)
theorem l35 : FnL P T F 35 f61:=z5 Go.Proofs.Tryz.func35 (by kernel_rfl) (by kernel_rfl)
theorem l36 : FnL P T F 36 f15:=z5 Go.Proofs.Tryz.func36 (by kernel_rfl) (by kernel_rfl)
theorem l37 : FnL P T F 37 f159:=z5 Go.Proofs.Tryz.func37 (by kernel_rfl) (by kernel_rfl)
theorem l38 : FnL P T F 38 f237:=z5 Go.Proofs.Tryz.func38 (by kernel_rfl) (by kernel_rfl)
theorem l39 : FnL P T F 39 f240:=z5 Go.Proofs.Tryz.func39 (by kernel_rfl) (by kernel_rfl)
theorem l40 : FnL P T F 40 f238:=z5 Go.Proofs.Tryz.func40 (by kernel_rfl) (by kernel_rfl)
theorem l41 : FnL P T F 41 f245:=z5 Go.Proofs.Tryz.func41 (by kernel_rfl) (by kernel_rfl)
theorem l42 : FnL P T F 42 f19:=z5 Go.Proofs.Tryz.func42 (by kernel_rfl) (by kernel_rfl)
theorem l43 : FnL P T F 43 f78:=z5 Go.Proofs.Tryz.func43 (by kernel_rfl) (by kernel_rfl)
theorem l44 : FnL P T F 44 f265:=z5 Go.Proofs.Tryz.func44 (by kernel_rfl) (by kernel_rfl)
theorem l45 : FnL P T F 45 f223:=z5 Go.Proofs.Tryz.func45 (by kernel_rfl) (by kernel_rfl)
theorem l46 : FnL P T F 46 f266:=z5 Go.Proofs.Tryz.func46 (by kernel_rfl) (by kernel_rfl)
theorem l47 : FnL P T F 47 f267:=z5 Go.Proofs.Tryz.func47 (by kernel_rfl) (by kernel_rfl)
theorem l48 : FnL P T F 48 f268:=z5 Go.Proofs.Tryz.func48 (by kernel_rfl) (by kernel_rfl)
theorem l54 : FnM P T F (31,171) 54 f228:=z1u Go.Proofs.Tryz.func54 pt1 pt2 (by kernel_rfl) (by kernel_rfl)
theorem l55 : FnM P T F (31,171) 55 f273:=z1u Go.Proofs.Tryz.func55 pt1 pt2 (by kernel_rfl) (by kernel_rfl)
theorem l56 : FnM P T F (31,171) 56 f274:=z1u Go.Proofs.Tryz.func56 pt1 pt2 (by kernel_rfl) (by kernel_rfl)
theorem l57 : FnM P T F (31,171) 57 f275:=z1u Go.Proofs.Tryz.func57 pt1 pt2 (by kernel_rfl) (by kernel_rfl)
theorem l58 : FnM P T F (31,171) 58 f276:=z1u Go.Proofs.Tryz.func58 pt1 pt2 (by kernel_rfl) (by kernel_rfl)
theorem l62 : FnL P T F 62 f280:=z5 Go.Proofs.Tryz.func62 (by kernel_rfl) (by kernel_rfl)
theorem l64 : FnM P T F (31,171) 64 f229:=z1u Go.Proofs.Tryz.func64 pt1 pt2 (by kernel_rfl) (by kernel_rfl)
theorem l65 : FnL P T F 65 f162:=z5 Go.Proofs.Tryz.func65 (by kernel_rfl) (by kernel_rfl)
theorem l66 : FnL P T F 66 f83:=z5 Go.Proofs.Tryz.func66 (by kernel_rfl) (by kernel_rfl)
theorem l67 : FnL P T F 67 f84:=z5 Go.Proofs.Tryz.func67 (by kernel_rfl) (by kernel_rfl)
theorem l68 : FnL P T F 68 f30:=z5 Go.Proofs.Tryz.func68 (by kernel_rfl) (by kernel_rfl)
theorem l76 : FnL P T F 76 f87:=z5 Go.Proofs.Tryz.func76 (by kernel_rfl) (by kernel_rfl)
theorem l79 : FnL P T F 79 f281:=z5 Go.Proofs.Tryz.func79 (by kernel_rfl) (by kernel_rfl)
theorem l80 : FnL P T F 80 f282:=z5 Go.Proofs.Tryz.func80 (by kernel_rfl) (by kernel_rfl)
theorem l82 : FnM P T F (31,171) 82 f241:=z1u Go.Proofs.Tryz.func82 pt1 pt2 (by kernel_rfl) (by kernel_rfl)
theorem l83 : FnM P T F (31,171) 83 f242:=z1u Go.Proofs.Tryz.func83 pt1 pt2 (by kernel_rfl) (by kernel_rfl)
theorem l84 : FnM P T F (31,171) 84 f243:=z1u Go.Proofs.Tryz.func84 pt1 pt2 (by kernel_rfl) (by kernel_rfl)
theorem l85 : FnL P T F 85 f67:=z5 Go.Proofs.Tryz.func85 (by kernel_rfl) (by kernel_rfl)
theorem l86 : FnL P T F 86 f69:=z5 Go.Proofs.Tryz.func86 (by kernel_rfl) (by kernel_rfl)
theorem l87 : FnL P T F 87 f70:=z5 Go.Proofs.Tryz.func87 (by kernel_rfl) (by kernel_rfl)
theorem l88 : FnL P T F 88 f71:=z5 Go.Proofs.Tryz.func88 (by kernel_rfl) (by kernel_rfl)
theorem l89 : FnL P T F 89 f72:=z5 Go.Proofs.Tryz.func89 (by kernel_rfl) (by kernel_rfl)
theorem l90 : FnL P T F 90 f73:=z5 Go.Proofs.Tryz.func90 (by kernel_rfl) (by kernel_rfl)
theorem l91 : FnL P T F 91 f74:=z5 Go.Proofs.Tryz.func91 (by kernel_rfl) (by kernel_rfl)
theorem l92 : FnL P T F 92 f75:=z5 Go.Proofs.Tryz.func92 (by kernel_rfl) (by kernel_rfl)
theorem l93 : FnL P T F 93 f76:=z5 Go.Proofs.Tryz.func93 (by kernel_rfl) (by kernel_rfl)
theorem l94 : FnL P T F 94 f173:=z5 Go.Proofs.Tryz.func94 (by kernel_rfl) (by kernel_rfl)
theorem l95 : FnL P T F 95 f14:=z5 Go.Proofs.Tryz.func95 (by kernel_rfl) (by kernel_rfl)
theorem l96 : FnL P T F 96 f81:=z5 Go.Proofs.Tryz.func96 (by kernel_rfl) (by kernel_rfl)
theorem l97 : FnL P T F 97 f79:=z5 Go.Proofs.Tryz.func97 (by kernel_rfl) (by kernel_rfl)
theorem l98 : FnL P T F 98 f82:=z5 Go.Proofs.Tryz.func98 (by kernel_rfl) (by kernel_rfl)
theorem l99 : FnL P T F 99 f283:=z5 Go.Proofs.Tryz.func99 (by kernel_rfl) (by kernel_rfl)
theorem l100 : FnL P T F 100 f284:=z5 Go.Proofs.Tryz.func100 (by kernel_rfl) (by kernel_rfl)
theorem l101 : FnL P T F 101 f285:=z5 Go.Proofs.Tryz.func101 (by kernel_rfl) (by kernel_rfl)
theorem l107 : FnM P T F (31,171) 107 f291:=z1u Go.Proofs.Tryz.func107 pt1 pt2 (by kernel_rfl) (by kernel_rfl)
theorem l108 : FnM P T F (31,171) 108 f292:=z1u Go.Proofs.Tryz.func108 pt1 pt2 (by kernel_rfl) (by kernel_rfl)
theorem l109 : FnM P T F (31,171) 109 f293:=z1u Go.Proofs.Tryz.func109 pt1 pt2 (by kernel_rfl) (by kernel_rfl)
theorem l110 : FnM P T F (31,171) 110 f294:=z1u Go.Proofs.Tryz.func110 pt1 pt2 (by kernel_rfl) (by kernel_rfl)
theorem l111 : FnM P T F (31,171) 111 f295:=z1u Go.Proofs.Tryz.func111 pt1 pt2 (by kernel_rfl) (by kernel_rfl)
theorem l113 : FnL P T F 113 f66:=z5 Go.Proofs.Tryz.func113 (by kernel_rfl) (by kernel_rfl)
theorem l114 : FnL P T F 114 f110:=z5 Go.Proofs.Tryz.func114 (by kernel_rfl) (by kernel_rfl)
theorem l115 : FnL P T F 115 f68:=z5 Go.Proofs.Tryz.func115 (by kernel_rfl) (by kernel_rfl)
theorem l122 : FnL P T F 122 f3:=z5 Go.Proofs.Tryz.func122 (by kernel_rfl) (by kernel_rfl)
theorem l128 : FnL P T F 128 f297:=z5 Go.Proofs.Tryz.func128 (by kernel_rfl) (by kernel_rfl)
theorem l129 : FnL P T F 129 f298:=z5 Go.Proofs.Tryz.func129 (by kernel_rfl) (by kernel_rfl)
theorem l130 : FnL P T F 130 f312:=z5 Go.Proofs.Tryz.func130 (by kernel_rfl) (by kernel_rfl)
theorem l131 : FnL P T F 131 f311:=z5 Go.Proofs.Tryz.func131 (by kernel_rfl) (by kernel_rfl)
theorem l132 : FnL P T F 132 f299:=z5 Go.Proofs.Tryz.func132 (by kernel_rfl) (by kernel_rfl)
theorem l133 : FnL P T F 133 f300:=z5 Go.Proofs.Tryz.func133 (by kernel_rfl) (by kernel_rfl)
theorem l134 : FnM P T F (31,171) 134 f246:=z1u Go.Proofs.Tryz.func134 pt1 pt2 (by kernel_rfl) (by kernel_rfl)
theorem l135 : FnL P T F 135 f9:=z5 Go.Proofs.Tryz.func135 (by kernel_rfl) (by kernel_rfl)
theorem l136 : FnL P T F 136 f39:=z5 Go.Proofs.Tryz.func136 (by kernel_rfl) (by kernel_rfl)
theorem l137 : FnL P T F 137 f37:=z5 Go.Proofs.Tryz.func137 (by kernel_rfl) (by kernel_rfl)
theorem l138 : FnL P T F 138 f105:=z5 Go.Proofs.Tryz.func138 (by kernel_rfl) (by kernel_rfl)
theorem l139 : FnL P T F 139 f106:=z5 Go.Proofs.Tryz.func139 (by kernel_rfl) (by kernel_rfl)
theorem l140 : FnL P T F 140 f107:=z5 Go.Proofs.Tryz.func140 (by kernel_rfl) (by kernel_rfl)
theorem l141 : FnL P T F 141 f109:=z5 Go.Proofs.Tryz.func141 (by kernel_rfl) (by kernel_rfl)
theorem l146 : FnM P T F (31,171) 146 f305:=z1u Go.Proofs.Tryz.func146 pt1 pt2 (by kernel_rfl) (by kernel_rfl)
theorem l147 : FnL P T F 147 f307:=z5 Go.Proofs.Tryz.func147 (by kernel_rfl) (by kernel_rfl)
theorem l148 : FnM P T F (31,171) 148 f306:=z1u Go.Proofs.Tryz.func148 pt1 pt2 (by kernel_rfl) (by kernel_rfl)
theorem l149 : FnM P T F (31,171) 149 f308:=z1u Go.Proofs.Tryz.func149 pt1 pt2 (by kernel_rfl) (by kernel_rfl)
theorem l152 : FnL P T F 152 f104:=z5 Go.Proofs.Tryz.func152 (by kernel_rfl) (by kernel_rfl)
theorem l159 : FnL P T F 159 f62:=z5 Go.Proofs.Tryz.func159 (by kernel_rfl) (by kernel_rfl)
theorem l160 : FnL P T F 160 f63:=z5 Go.Proofs.Tryz.func160 (by kernel_rfl) (by kernel_rfl)
theorem l163 : FnL P T F 163 f89:=z5 Go.Proofs.Tryz.func163 (by kernel_rfl) (by kernel_rfl)
theorem l164 : FnL P T F 164 f90:=z5 Go.Proofs.Tryz.func164 (by kernel_rfl) (by kernel_rfl)
theorem l165 : FnL P T F 165 f123:=z5 Go.Proofs.Tryz.func165 (by kernel_rfl) (by kernel_rfl)
theorem l167 : FnL P T F 167 f102:=z5 Go.Proofs.Tryz.func167 (by kernel_rfl) (by kernel_rfl)
theorem l168 : FnL P T F 168 f122:=z5 Go.Proofs.Tryz.func168 (by kernel_rfl) (by kernel_rfl)
theorem l169 : FnL P T F 169 f41:=z5 Go.Proofs.Tryz.func169 (by kernel_rfl) (by kernel_rfl)
theorem l170 : FnL P T F 170 f97:=z5 Go.Proofs.Tryz.func170 (by kernel_rfl) (by kernel_rfl)
theorem l171 : FnL P T F 171 f93:=z5 Go.Proofs.Tryz.func171 (by kernel_rfl) (by kernel_rfl)
theorem l172 : FnL P T F 172 f112:=z5 Go.Proofs.Tryz.func172 (by kernel_rfl) (by kernel_rfl)
theorem l173 : FnL P T F 173 f94:=z5 Go.Proofs.Tryz.func173 (by kernel_rfl) (by kernel_rfl)
theorem l174 : FnL P T F 174 f116:=z5 Go.Proofs.Tryz.func174 (by kernel_rfl) (by kernel_rfl)
theorem l175 : FnL P T F 175 f114:=z5 Go.Proofs.Tryz.func175 (by kernel_rfl) (by kernel_rfl)
theorem l176 : FnL P T F 176 f115:=z5 Go.Proofs.Tryz.func176 (by kernel_rfl) (by kernel_rfl)
theorem l177 : FnL P T F 177 f98:=z5 Go.Proofs.Tryz.func177 (by kernel_rfl) (by kernel_rfl)
theorem l178 : FnL P T F 178 f113:=z5 Go.Proofs.Tryz.func178 (by kernel_rfl) (by kernel_rfl)
theorem l179 : FnL P T F 179 f124:=z5 Go.Proofs.Tryz.func179 (by kernel_rfl) (by kernel_rfl)
theorem l180 : FnL P T F 180 f117:=z5 Go.Proofs.Tryz.func180 (by kernel_rfl) (by kernel_rfl)
theorem l181 : FnL P T F 181 f118:=z5 Go.Proofs.Tryz.func181 (by kernel_rfl) (by kernel_rfl)
theorem l182 : FnL P T F 182 f125:=z5 Go.Proofs.Tryz.func182 (by kernel_rfl) (by kernel_rfl)

theorem hmk (b : Bool) (v : Go.Value) (w : Go.World) : (Go.Instr.makeInterface (if b = true then ((31,171) : Nat × Nat).2 else ((31,171) : Nat × Nat).1) v).run P w = .ok (.iface (if b = true then ((31,171) : Nat × Nat).2 else ((31,171) : Nat × Nat).1) v) w:=by
 cases b
 ·exact Go.run_makeInterface w _ v pt1
 ·exact Go.run_makeInterface w _ v pt2

section
open Go Go.Proofs
theorem z52 {P : Program} (t xT : TypeId) (v : Value) (b : Bool) (w : World) (h : P.concrete t = true) : (Instr.typeAssert (.iface t v) xT t b).run P w = .ok (if b then .tuple #[v,.bool true] else v) w:=by
 unfold Program.concrete at h
 cases hu : P.underlying t with
 | none=>simp [hu] at h
 | some d=>cases d <;> first | (simp [hu] at h; done) | (cases b <;> simp [Instr.typeAssert,run_underlying hu])

set_option maxRecDepth 100000 in
theorem z58 (p : Addr) (x : Value) (n : Int) (w : World) (hc : (w.alloc (.cells #[.int .i64 n] 171)).cell? p = some x) (hz : (w.alloc (.cells #[.int .i64 n] 171)).frozen? p = false) :
  Calls Go.Proofs.Tryz.prog 52 #[.iface 171 (.agg #[.int .i64 n]),.pointer (some p)] w fun e w'=>e = .returned (.tuple #[]) /\ w' = (w.alloc (.cells #[.int .i64 n] 171)).setCell p (.int .i64 n):=by
 have hta:=fun w=>z52 (P:=Go.Proofs.Tryz.prog) 171 20 (.agg #[.int .i64 n]) true w (by kernel_rfl)
 simp only [if_true] at hta
 go_enter Go.Proofs.Tryz.func52,Go.Proofs.Tryz.ntmps52
 go_wp2
 go_end0
 exact ⟨rfl,rfl⟩

set_option maxRecDepth 100000 in
theorem z6b (p : Addr) (w : World) : Calls Go.Proofs.Tryz.prog 52 #[.nilIface,.pointer (some p)] w fun e w'=>e = .returned (.tuple #[]) /\ w' = w:=by
 go_enter Go.Proofs.Tryz.func52,Go.Proofs.Tryz.ntmps52
 go_wp2
 go_end0
 exact ⟨rfl,rfl⟩
end

theorem C51 : Closes P E T F (31,171) 51 (effC E 3) shC:=
 z3s (c:=52) (tE:=31) (fn:=Go.Proofs.Tryz.f51) types fnsOk Go.Proofs.Tryz.func51 rfl rfl rfl rfl rfl rfl rfl rfl rfl rfl rfl rfl (fun p x n w h1 h2=>z58 p x n w h1 h2) (fun p w=>z6b p w)
theorem l19 : Hatch P E T F (31,171) 19 254:=
 z3q (g:=51) (km:=6) (cs:=[3]) (S:=[2,3]) (tl:=tlC 44 3 3) (fn:=Go.Proofs.Tryz.f19) (G:=f254) types fnsOk rfl rfl Go.Proofs.Tryz.func19 rfl rfl (z6k (by kernel_rfl)) rfl (zi (by kernel_rfl)) rfl rfl rfl rfl rfl rfl rfl
  (z4y hmk (by kernel_rfl) (by kernel_rfl))
  (by decide) (by decide) (by decide) (by decide) (by decide) (by decide) C51 (fun n st st1 h hl=>z6c (pre:=[_]) h (Nat.lt_of_lt_of_le (by decide) hl)) (fun j k sl mk hp ex st' hk hl _ h=>zj4 rfl rfl rfl j k sl mk hp ex st' (fun h=>hk (by simp only [List.mem_singleton] at h; subst h; decide)) hl h)
theorem C63 : Closes P E T F (31,171) 63 (effC E 3) shC:=
 z3s (c:=52) (tE:=31) (fn:=Go.Proofs.Tryz.f63) types fnsOk Go.Proofs.Tryz.func63 rfl rfl rfl rfl rfl rfl rfl rfl rfl rfl rfl rfl (fun p x n w h1 h2=>z58 p x n w h1 h2) (fun p w=>z6b p w)
theorem l22 : Hatch P E T F (31,171) 22 216:=
 z3q (g:=63) (km:=12) (cs:=[4]) (S:=[4]) (tl:=tlC 44 3 4) (fn:=Go.Proofs.Tryz.f22) (G:=f216) types fnsOk rfl rfl Go.Proofs.Tryz.func22 rfl rfl (z6k (by kernel_rfl)) rfl (zi (by kernel_rfl)) rfl rfl rfl rfl rfl rfl rfl
  (z4y hmk (by kernel_rfl) (by kernel_rfl))
  (by decide) (by decide) (by decide) (by decide) (by decide) (by decide) C63 (fun n st st1 h hl=>z6c (pre:=[_,_]) h (Nat.lt_of_lt_of_le (by decide) hl)) (fun j k sl mk hp ex st' hk hl _ h=>zj4 rfl rfl rfl j k sl mk hp ex st' hk hl h)
theorem C81 : Closes P E T F (31,171) 81 (effC E 3) shC:=
 z3s (c:=52) (tE:=31) (fn:=Go.Proofs.Tryz.f81) types fnsOk Go.Proofs.Tryz.func81 rfl rfl rfl rfl rfl rfl rfl rfl rfl rfl rfl rfl (fun p x n w h1 h2=>z58 p x n w h1 h2) (fun p w=>z6b p w)
theorem l34 : Hatch P E T F (31,171) 34 231:=
 z3q (g:=81) (km:=9) (cs:=[6]) (S:=[6]) (tl:=tlC 44 3 6) (fn:=Go.Proofs.Tryz.f34) (G:=f231) types fnsOk rfl rfl Go.Proofs.Tryz.func34 rfl rfl (z6k (by kernel_rfl)) rfl (zi (by kernel_rfl)) rfl rfl rfl rfl rfl rfl rfl
  (CLp.seq (z4y hmk (by kernel_rfl) (by kernel_rfl)) (CLp.seq (z4y hmk (by kernel_rfl) (by kernel_rfl)) (CLp.seq (z4y hmk (by kernel_rfl) (by kernel_rfl)) (CLp.seq (z4y hmk (by kernel_rfl) (by kernel_rfl)) (CLp.seq (z4y hmk (by kernel_rfl) (by kernel_rfl)) (CLp.seq (zcr (k1:=45) (k2:=46) 10 mixed rfl (by kernel_rfl) (by kernel_rfl) (by kernel_rfl) (by kernel_rfl) (by kernel_rfl) (by kernel_rfl) (by kernel_rfl) (by kernel_rfl)) (z4y hmk (by kernel_rfl) (by kernel_rfl))))))))
  (by decide) (by decide) (by decide) (by decide) (by decide) (by decide) C81 (fun n st st1 h hl=>z6c (pre:=[_,_]) h (Nat.lt_of_lt_of_le (by decide) hl)) (fun j k sl mk hp ex st' hk hl _ h=>zj4 rfl rfl rfl j k sl mk hp ex st' hk hl h)
theorem C106 : Closes P E T F (31,171) 106 effN shN:=
 zeb (fn:=Go.Proofs.Tryz.f106) Go.Proofs.Tryz.func106 rfl rfl rfl rfl rfl rfl rfl rfl rfl rfl rfl rfl rfl rfl rfl (by kernel_rfl)
theorem l53 : Hatch P E T F (31,171) 53 272:=
 z3q (g:=106) (km:=5) (cs:=[2,3]) (S:=[2,3]) (tl:=tlN) (fn:=Go.Proofs.Tryz.f53) (G:=f272) types fnsOk rfl rfl Go.Proofs.Tryz.func53 rfl rfl (z6k (by kernel_rfl)) rfl (zi (by kernel_rfl)) rfl rfl rfl rfl rfl rfl rfl
  (z4y hmk (by kernel_rfl) (by kernel_rfl))
  (by decide) (by decide) (by decide) (by decide) (by decide) (by decide) C106 (fun _ _ _ _ _=>rfl) (fun j k sl mk hp ex st' _ _ _ h=>zro (S:=[2,3]) j k sl mk hp ex st' h)

theorem tie : Tie P E T F:=zrp (pt:=(31,171)) types mixed fnsOk (allc (z4 l3 rfl) (allc (z4 l5 rfl) (allc (z4 l6 rfl) (allc (z4 l7 rfl) (allc (z4 l8 rfl) (allc (z4 l11 rfl) (allc (z4 l12 rfl) (allc (z4 l13 rfl) (allc (z4 l14 rfl) (allc (z4 l15 rfl) (allc (z4 l16 rfl) (allc (z4 l17 rfl) (allc (z4q l19) (allc (z4 l21 rfl) (allc (z4q l22) (allc (z4 l23 rfl) (allc (z4 l24 rfl) (allc (z4 l25 rfl) (allc (z4 l32 rfl) (allc (z4 l33 rfl) (allc (z4q l34) (allc (z4 l35 rfl) (allc (z4 l36 rfl) (allc (z4 l37 rfl) (allc (z4 l38 rfl) (allc (z4 l39 rfl) (allc (z4 l40 rfl) (allc (z4 l41 rfl) (allc (z4 l42 rfl) (allc (z4 l43 rfl) (allc (z4 l44 rfl) (allc (z4 l45 rfl) (allc (z4 l46 rfl) (allc (z4 l47 rfl) (allc (z4 l48 rfl) (allc (z4e rfl) (allc (z4e rfl) (allc (z4q l53) (allc (zk l54 rfl) (allc (zk l55 rfl) (allc (zk l56 rfl) (allc (zk l57 rfl) (allc (zk l58 rfl) (allc (z4 l62 rfl) (allc (z4e rfl) (allc (zk l64 rfl) (allc (z4 l65 rfl) (allc (z4 l66 rfl) (allc (z4 l67 rfl) (allc (z4 l68 rfl) (allc (z4 l76 rfl) (allc (z4 l79 rfl) (allc (z4 l80 rfl) (allc (z4e rfl) (allc (zk l82 rfl) (allc (zk l83 rfl) (allc (zk l84 rfl) (allc (z4 l85 rfl) (allc (z4 l86 rfl) (allc (z4 l87 rfl) (allc (z4 l88 rfl) (allc (z4 l89 rfl) (allc (z4 l90 rfl) (allc (z4 l91 rfl) (allc (z4 l92 rfl) (allc (z4 l93 rfl) (allc (z4 l94 rfl) (allc (z4 l95 rfl) (allc (z4 l96 rfl) (allc (z4 l97 rfl) (allc (z4 l98 rfl) (allc (z4 l99 rfl) (allc (z4 l100 rfl) (allc (z4 l101 rfl) (allc (z4e rfl) (allc (zk l107 rfl) (allc (zk l108 rfl) (allc (zk l109 rfl) (allc (zk l110 rfl) (allc (zk l111 rfl) (allc (z4 l113 rfl) (allc (z4 l114 rfl) (allc (z4 l115 rfl) (allc (z4 l122 rfl) (allc (z4 l128 rfl) (allc (z4 l129 rfl) (allc (z4 l130 rfl) (allc (z4 l131 rfl) (allc (z4 l132 rfl) (allc (z4 l133 rfl) (allc (zk l134 rfl) (allc (z4 l135 rfl) (allc (z4 l136 rfl) (allc (z4 l137 rfl) (allc (z4 l138 rfl) (allc (z4 l139 rfl) (allc (z4 l140 rfl) (allc (z4 l141 rfl) (allc (zk l146 rfl) (allc (z4 l147 rfl) (allc (zk l148 rfl) (allc (zk l149 rfl) (allc (z4 l152 rfl) (allc (z4 l159 rfl) (allc (z4 l160 rfl) (allc (z4 l163 rfl) (allc (z4 l164 rfl) (allc (z4 l165 rfl) (allc (z4 l167 rfl) (allc (z4 l168 rfl) (allc (z4 l169 rfl) (allc (z4 l170 rfl) (allc (z4 l171 rfl) (allc (z4 l172 rfl) (allc (z4 l173 rfl) (allc (z4 l174 rfl) (allc (z4 l175 rfl) (allc (z4 l176 rfl) (allc (z4 l177 rfl) (allc (z4 l178 rfl) (allc (z4 l179 rfl) (allc (z4 l180 rfl) (allc (z4 l181 rfl) (allc (z4 l182 rfl) (alln)))))))))))))))))))))))))))))))))))))))))))))))))))))))))))))))))))))))))))))))))))))))))))))))))))))))))))))))))))))))))))))

end Dv.Tryz
