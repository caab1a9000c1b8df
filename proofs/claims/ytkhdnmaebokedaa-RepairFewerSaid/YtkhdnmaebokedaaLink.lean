/- Texts that a proof of this claim uses, joined: Dv.LinkTry. -/
import Derived.Test.YtkhdnmaebokedaaDvd
import Derived.Test.YtkhdnmaebokedaaCode
import Derived.WalkKit
import Derived.RecoverIn
import Derived.Lib.Walk
import Derived.Lib.SliceRun
import Derived.Lib.AppendZerosOnto
import Derived.Test.YtkhdnmaebokedaaChecked
import Derived.KernelRfl
set_option linter.all false
set_option maxHeartbeats 16000000
namespace Dv.Try
open Go (Program)

noncomputable abbrev P : Program:=Go.Proofs.Try.prog

def tl : List (Nat × Nat):=[(3,2),(4,7),(5,13),(22,10),(23,9),(24,14),(26,0),(27,6),(28,31),(30,29),(31,16),(33,15),(37,3),(55,18),(57,17),(61,1),(63,32),(65,42),(66,43),(68,41),(73,22),(78,11),(83,4),(86,23),(87,24),(93,20),(95,21),(102,19),(113,44),(116,47),(117,52),(118,50),(119,49),(121,48),(123,51),(126,45),(130,26),(146,25),(160,27),(164,12)]

def fl : List (Nat × Nat):=[(3,211),(4,217),(5,220),(6,212),(7,129),(8,213),(9,214),(10,215),(11,22),(12,20),(13,216),(14,24),(15,2),(16,15),(17,218),(18,219),(19,221),(20,222),(21,61),(22,223),(23,224),(24,225),(25,87),(26,96),(27,226),(28,83),(29,84),(30,227),(31,236),(32,228),(33,229),(34,162),(35,230),(36,231),(37,30),(38,67),(39,69),(40,70),(41,71),(42,72),(43,73),(44,74),(45,75),(46,76),(47,232),(48,233),(49,234),(50,235),(51,7),(52,66),(53,110),(54,68),(55,159),(56,237),(57,240),(58,238),(59,245),(60,239),(61,241),(62,242),(63,243),(64,105),(65,106),(66,107),(67,244),(68,3),(69,9),(70,62),(71,104),(72,173),(73,14),(74,246),(75,39),(76,37),(77,63),(78,123),(79,89),(80,90),(81,102),(82,122),(83,41),(84,97),(85,93),(86,112),(87,94),(88,116),(89,114),(90,115),(91,98),(92,113),(93,124),(94,117),(95,118),(96,125)]

def T : Phi:=look tl
def F : Phi:=look fl

theorem types : TAll P E T:=tall_of (by kernel_rfl)
theorem mixed : P.follows .mixedOrders = true:=by kernel_rfl
theorem fnsOk : FnsOk P F:=fnsOk_of (by kernel_rfl)

theorem pt1 : P.concrete (37,113).1 = true:=by kernel_rfl
theorem pt2 : P.concrete (37,113).2 = true:=by kernel_rfl
theorem l3 : FnL P T F 3 f211:=fnL_of Go.Proofs.Try.func3 (by kernel_rfl) (by kernel_rfl)
theorem l4 : FnL P T F 4 f217:=fnL_of Go.Proofs.Try.func4 (by kernel_rfl) (by kernel_rfl)
theorem l5 : FnL P T F 5 f220:=fnL_of Go.Proofs.Try.func5 (by kernel_rfl) (by kernel_rfl)
theorem l6 : FnL P T F 6 f212:=fnL_of Go.Proofs.Try.func6 (by kernel_rfl) (by kernel_rfl)
theorem l7 : FnL P T F 7 f129:=fnL_of Go.Proofs.Try.func7 (by kernel_rfl) (by kernel_rfl)
theorem l8 : FnL P T F 8 f213:=fnL_of Go.Proofs.Try.func8 (by kernel_rfl) (by kernel_rfl)
theorem l9 : FnL P T F 9 f214:=fnL_of Go.Proofs.Try.func9 (by kernel_rfl) (by kernel_rfl)
theorem l10 : FnL P T F 10 f215:=fnL_of Go.Proofs.Try.func10 (by kernel_rfl) (by kernel_rfl)
theorem l11 : FnL P T F 11 f22:=fnL_of Go.Proofs.Try.func11 (by kernel_rfl) (by kernel_rfl)
theorem l12 : FnL P T F 12 f20:=fnL_of Go.Proofs.Try.func12 (by kernel_rfl) (by kernel_rfl)
theorem l14 : FnL P T F 14 f24:=fnL_of Go.Proofs.Try.func14 (by kernel_rfl) (by kernel_rfl)
theorem l15 : FnL P T F 15 f2:=fnL_of Go.Proofs.Try.func15 (by kernel_rfl) (by kernel_rfl)
theorem l16 : FnL P T F 16 f15:=fnL_of Go.Proofs.Try.func16 (by kernel_rfl) (by kernel_rfl)
theorem l17 : FnL P T F 17 f218:=fnL_of Go.Proofs.Try.func17 (by kernel_rfl) (by kernel_rfl)
theorem l18 : FnL P T F 18 f219:=fnL_of Go.Proofs.Try.func18 (by kernel_rfl) (by kernel_rfl)
theorem l19 : FnL P T F 19 f221:=fnL_of Go.Proofs.Try.func19 (by kernel_rfl) (by kernel_rfl)
theorem l20 : FnL P T F 20 f222:=fnL_of Go.Proofs.Try.func20 (by kernel_rfl) (by kernel_rfl)
theorem l21 : FnL P T F 21 f61:=fnL_of Go.Proofs.Try.func21 (by kernel_rfl) (by kernel_rfl)
theorem l22 : FnL P T F 22 f223:=fnL_of Go.Proofs.Try.func22 (by kernel_rfl) (by kernel_rfl)
theorem l23 : FnL P T F 23 f224:=fnL_of Go.Proofs.Try.func23 (by kernel_rfl) (by kernel_rfl)
theorem l24 : FnL P T F 24 f225:=fnL_of Go.Proofs.Try.func24 (by kernel_rfl) (by kernel_rfl)
theorem l25 : FnL P T F 25 f87:=fnL_of Go.Proofs.Try.func25 (by kernel_rfl) (by kernel_rfl)
theorem l27 : FnL P T F 27 f226:=fnL_of Go.Proofs.Try.func27 (by kernel_rfl) (by kernel_rfl)
theorem l28 : FnL P T F 28 f83:=fnL_of Go.Proofs.Try.func28 (by kernel_rfl) (by kernel_rfl)
theorem l29 : FnL P T F 29 f84:=fnL_of Go.Proofs.Try.func29 (by kernel_rfl) (by kernel_rfl)
theorem l32 : FnM P T F (37,113) 32 f228:=fnM_of Go.Proofs.Try.func32 pt1 pt2 (by kernel_rfl) (by kernel_rfl)
theorem l33 : FnM P T F (37,113) 33 f229:=fnM_of Go.Proofs.Try.func33 pt1 pt2 (by kernel_rfl) (by kernel_rfl)
theorem l34 : FnL P T F 34 f162:=fnL_of Go.Proofs.Try.func34 (by kernel_rfl) (by kernel_rfl)
theorem l35 : FnL P T F 35 f230:=fnL_of Go.Proofs.Try.func35 (by kernel_rfl) (by kernel_rfl)
theorem l37 : FnL P T F 37 f30:=fnL_of Go.Proofs.Try.func37 (by kernel_rfl) (by kernel_rfl)
theorem l38 : FnL P T F 38 f67:=fnL_of Go.Proofs.Try.func38 (by kernel_rfl) (by kernel_rfl)
theorem l39 : FnL P T F 39 f69:=fnL_of Go.Proofs.Try.func39 (by kernel_rfl) (by kernel_rfl)
theorem l40 : FnL P T F 40 f70:=fnL_of Go.Proofs.Try.func40 (by kernel_rfl) (by kernel_rfl)
theorem l41 : FnL P T F 41 f71:=fnL_of Go.Proofs.Try.func41 (by kernel_rfl) (by kernel_rfl)
theorem l42 : FnL P T F 42 f72:=fnL_of Go.Proofs.Try.func42 (by kernel_rfl) (by kernel_rfl)
theorem l43 : FnL P T F 43 f73:=fnL_of Go.Proofs.Try.func43 (by kernel_rfl) (by kernel_rfl)
theorem l44 : FnL P T F 44 f74:=fnL_of Go.Proofs.Try.func44 (by kernel_rfl) (by kernel_rfl)
theorem l45 : FnL P T F 45 f75:=fnL_of Go.Proofs.Try.func45 (by kernel_rfl) (by kernel_rfl)
theorem l46 : FnL P T F 46 f76:=fnL_of Go.Proofs.Try.func46 (by kernel_rfl) (by kernel_rfl)
theorem l47 : FnL P T F 47 f232:=fnL_of Go.Proofs.Try.func47 (by kernel_rfl) (by kernel_rfl)
theorem l48 : FnL P T F 48 f233:=fnL_of Go.Proofs.Try.func48 (by kernel_rfl) (by kernel_rfl)
theorem l49 : FnL P T F 49 f234:=fnL_of Go.Proofs.Try.func49 (by kernel_rfl) (by kernel_rfl)
theorem l50 : FnL P T F 50 f235:=fnL_of Go.Proofs.Try.func50 (by kernel_rfl) (by kernel_rfl)
theorem l51 : FnL P T F 51 f7:=fnL_of Go.Proofs.Try.func51 (by kernel_rfl) (by kernel_rfl)
theorem l52 : FnL P T F 52 f66:=fnL_of Go.Proofs.Try.func52 (by kernel_rfl) (by kernel_rfl)
theorem l53 : FnL P T F 53 f110:=fnL_of Go.Proofs.Try.func53 (by kernel_rfl) (by kernel_rfl)
theorem l54 : FnL P T F 54 f68:=fnL_of Go.Proofs.Try.func54 (by kernel_rfl) (by kernel_rfl)
theorem l55 : FnL P T F 55 f159:=fnL_of Go.Proofs.Try.func55 (by kernel_rfl) (by kernel_rfl)
theorem l56 : FnL P T F 56 f237:=fnL_of Go.Proofs.Try.func56 (by kernel_rfl) (by kernel_rfl)
theorem l57 : FnL P T F 57 f240:=fnL_of Go.Proofs.Try.func57 (by kernel_rfl) (by kernel_rfl)
theorem l58 : FnL P T F 58 f238:=fnL_of Go.Proofs.Try.func58 (by kernel_rfl) (by kernel_rfl)
theorem l59 : FnL P T F 59 f245:=fnL_of Go.Proofs.Try.func59 (by kernel_rfl) (by kernel_rfl)
theorem l61 : FnM P T F (37,113) 61 f241:=fnM_of Go.Proofs.Try.func61 pt1 pt2 (by kernel_rfl) (by kernel_rfl)
theorem l62 : FnM P T F (37,113) 62 f242:=fnM_of Go.Proofs.Try.func62 pt1 pt2 (by kernel_rfl) (by kernel_rfl)
theorem l63 : FnM P T F (37,113) 63 f243:=fnM_of Go.Proofs.Try.func63 pt1 pt2 (by kernel_rfl) (by kernel_rfl)
theorem l64 : FnL P T F 64 f105:=fnL_of Go.Proofs.Try.func64 (by kernel_rfl) (by kernel_rfl)
theorem l65 : FnL P T F 65 f106:=fnL_of Go.Proofs.Try.func65 (by kernel_rfl) (by kernel_rfl)
theorem l66 : FnL P T F 66 f107:=fnL_of Go.Proofs.Try.func66 (by kernel_rfl) (by kernel_rfl)
theorem l68 : FnL P T F 68 f3:=fnL_of Go.Proofs.Try.func68 (by kernel_rfl) (by kernel_rfl)
theorem l69 : FnL P T F 69 f9:=fnL_of Go.Proofs.Try.func69 (by kernel_rfl) (by kernel_rfl)
theorem l70 : FnL P T F 70 f62:=fnL_of Go.Proofs.Try.func70 (by kernel_rfl) (by kernel_rfl)
theorem l71 : FnL P T F 71 f104:=fnL_of Go.Proofs.Try.func71 (by kernel_rfl) (by kernel_rfl)
theorem l72 : FnL P T F 72 f173:=fnL_of Go.Proofs.Try.func72 (by kernel_rfl) (by kernel_rfl)
theorem l73 : FnL P T F 73 f14:=fnL_of Go.Proofs.Try.func73 (by kernel_rfl) (by kernel_rfl)
theorem l74 : FnM P T F (37,113) 74 f246:=fnM_of Go.Proofs.Try.func74 pt1 pt2 (by kernel_rfl) (by kernel_rfl)
theorem l75 : FnL P T F 75 f39:=fnL_of Go.Proofs.Try.func75 (by kernel_rfl) (by kernel_rfl)
theorem l76 : FnL P T F 76 f37:=fnL_of Go.Proofs.Try.func76 (by kernel_rfl) (by kernel_rfl)
theorem l77 : FnL P T F 77 f63:=fnL_of Go.Proofs.Try.func77 (by kernel_rfl) (by kernel_rfl)
theorem l78 : FnL P T F 78 f123:=fnL_of Go.Proofs.Try.func78 (by kernel_rfl) (by kernel_rfl)
theorem l79 : FnL P T F 79 f89:=fnL_of Go.Proofs.Try.func79 (by kernel_rfl) (by kernel_rfl)
theorem l80 : FnL P T F 80 f90:=fnL_of Go.Proofs.Try.func80 (by kernel_rfl) (by kernel_rfl)
theorem l81 : FnL P T F 81 f102:=fnL_of Go.Proofs.Try.func81 (by kernel_rfl) (by kernel_rfl)
theorem l82 : FnL P T F 82 f122:=fnL_of Go.Proofs.Try.func82 (by kernel_rfl) (by kernel_rfl)
theorem l83 : FnL P T F 83 f41:=fnL_of Go.Proofs.Try.func83 (by kernel_rfl) (by kernel_rfl)
theorem l84 : FnL P T F 84 f97:=fnL_of Go.Proofs.Try.func84 (by kernel_rfl) (by kernel_rfl)
theorem l85 : FnL P T F 85 f93:=fnL_of Go.Proofs.Try.func85 (by kernel_rfl) (by kernel_rfl)
theorem l86 : FnL P T F 86 f112:=fnL_of Go.Proofs.Try.func86 (by kernel_rfl) (by kernel_rfl)
theorem l87 : FnL P T F 87 f94:=fnL_of Go.Proofs.Try.func87 (by kernel_rfl) (by kernel_rfl)
theorem l88 : FnL P T F 88 f116:=fnL_of Go.Proofs.Try.func88 (by kernel_rfl) (by kernel_rfl)
theorem l89 : FnL P T F 89 f114:=fnL_of Go.Proofs.Try.func89 (by kernel_rfl) (by kernel_rfl)
theorem l90 : FnL P T F 90 f115:=fnL_of Go.Proofs.Try.func90 (by kernel_rfl) (by kernel_rfl)
theorem l91 : FnL P T F 91 f98:=fnL_of Go.Proofs.Try.func91 (by kernel_rfl) (by kernel_rfl)
theorem l92 : FnL P T F 92 f113:=fnL_of Go.Proofs.Try.func92 (by kernel_rfl) (by kernel_rfl)
theorem l93 : FnL P T F 93 f124:=fnL_of Go.Proofs.Try.func93 (by kernel_rfl) (by kernel_rfl)
theorem l94 : FnL P T F 94 f117:=fnL_of Go.Proofs.Try.func94 (by kernel_rfl) (by kernel_rfl)
theorem l95 : FnL P T F 95 f118:=fnL_of Go.Proofs.Try.func95 (by kernel_rfl) (by kernel_rfl)
theorem l96 : FnL P T F 96 f125:=fnL_of Go.Proofs.Try.func96 (by kernel_rfl) (by kernel_rfl)

theorem hmk (b : Bool) (v : Go.Value) (w : Go.World) : (Go.Instr.makeInterface (if b = true then ((37,113) : Nat × Nat).2 else ((37,113) : Nat × Nat).1) v).run P w = .ok (.iface (if b = true then ((37,113) : Nat × Nat).2 else ((37,113) : Nat × Nat).1) v) w:=by
 cases b
 ·exact Go.run_makeInterface w _ v pt1
 ·exact Go.run_makeInterface w _ v pt2

section
open Go Go.Proofs
theorem run_typeAssert_conc {P : Program} (t xT : TypeId) (v : Value) (b : Bool) (w : World) (h : P.concrete t = true) : (Instr.typeAssert (.iface t v) xT t b).run P w = .ok (if b then .tuple #[v,.bool true] else v) w:=by
 unfold Program.concrete at h
 cases hu : P.underlying t with
 | none=>simp [hu] at h
 | some d=>cases d <;> first | (simp [hu] at h; done) | (cases b <;> simp [Instr.typeAssert,run_underlying hu])

set_option maxRecDepth 100000 in
theorem caught_fail (p : Addr) (x : Value) (n : Int) (w : World) (hc : (w.alloc (.cells #[.int .i64 n] 113)).cell? p = some x) (hz : (w.alloc (.cells #[.int .i64 n] 113)).frozen? p = false) :
  Calls Go.Proofs.Try.prog 31 #[.iface 113 (.agg #[.int .i64 n]),.pointer (some p)] w fun e w'=>e = .returned (.tuple #[]) /\ w' = (w.alloc (.cells #[.int .i64 n] 113)).setCell p (.int .i64 n):=by
 have hta:=fun w=>run_typeAssert_conc (P:=Go.Proofs.Try.prog) 113 20 (.agg #[.int .i64 n]) true w (by kernel_rfl)
 simp only [if_true] at hta
 go_enter Go.Proofs.Try.func31,Go.Proofs.Try.ntmps31
 go_wp2
 go_end0
 exact ⟨rfl,rfl⟩

set_option maxRecDepth 100000 in
theorem caught_nil (p : Addr) (w : World) : Calls Go.Proofs.Try.prog 31 #[.nilIface,.pointer (some p)] w fun e w'=>e = .returned (.tuple #[]) /\ w' = w:=by
 go_enter Go.Proofs.Try.func31,Go.Proofs.Try.ntmps31
 go_wp2
 go_end0
 exact ⟨rfl,rfl⟩
end

theorem C30 : Closes P E T F (37,113) 30 (effC E 3) shC:=
 closes_caught (c:=31) (tE:=37) (fn:=Go.Proofs.Try.f30) types fnsOk Go.Proofs.Try.func30 rfl rfl rfl rfl rfl rfl rfl rfl rfl rfl rfl rfl (fun p x n w h1 h2=>caught_fail p x n w h1 h2) (fun p w=>caught_nil p w)
theorem l13 : Hatch P E T F (37,113) 13 216:=
 defer_hatch (g:=30) (km:=12) (cs:=[4]) (S:=[4]) (tl:=tlC 44 3 4) (fn:=Go.Proofs.Try.f13) (G:=f216) types fnsOk rfl rfl Go.Proofs.Try.func13 rfl rfl (rvB_ok (by kernel_rfl)) rfl (stripOps_ok (by kernel_rfl)) rfl rfl rfl rfl rfl rfl rfl
  (clp_of hmk (by kernel_rfl) (by kernel_rfl))
  (by decide) (by decide) (by decide) (by decide) (by decide) (by decide) C30 (fun n st st1 h hl=>alloc_last (pre:=[_,_]) h (Nat.lt_of_lt_of_le (by decide) hl)) (fun j k sl mk hp ex st' hk hl _ h=>tlC_ok rfl rfl rfl j k sl mk hp ex st' hk hl h)
theorem C60 : Closes P E T F (37,113) 60 (effC E 3) shC:=
 closes_caught (c:=31) (tE:=37) (fn:=Go.Proofs.Try.f60) types fnsOk Go.Proofs.Try.func60 rfl rfl rfl rfl rfl rfl rfl rfl rfl rfl rfl rfl (fun p x n w h1 h2=>caught_fail p x n w h1 h2) (fun p w=>caught_nil p w)
theorem l36 : Hatch P E T F (37,113) 36 231:=
 defer_hatch (g:=60) (km:=9) (cs:=[6]) (S:=[6]) (tl:=tlC 44 3 6) (fn:=Go.Proofs.Try.f36) (G:=f231) types fnsOk rfl rfl Go.Proofs.Try.func36 rfl rfl (rvB_ok (by kernel_rfl)) rfl (stripOps_ok (by kernel_rfl)) rfl rfl rfl rfl rfl rfl rfl
  (CLp.seq (clp_of hmk (by kernel_rfl) (by kernel_rfl)) (CLp.seq (clp_of hmk (by kernel_rfl) (by kernel_rfl)) (CLp.seq (clp_of hmk (by kernel_rfl) (by kernel_rfl)) (CLp.seq (clp_of hmk (by kernel_rfl) (by kernel_rfl)) (CLp.seq (clp_of hmk (by kernel_rfl) (by kernel_rfl)) (CLp.seq (clp_drawn_at (k1:=45) (k2:=46) 10 mixed rfl (by kernel_rfl) (by kernel_rfl) (by kernel_rfl) (by kernel_rfl) (by kernel_rfl) (by kernel_rfl) (by kernel_rfl) (by kernel_rfl)) (clp_of hmk (by kernel_rfl) (by kernel_rfl))))))))
  (by decide) (by decide) (by decide) (by decide) (by decide) (by decide) C60 (fun n st st1 h hl=>alloc_last (pre:=[_,_]) h (Nat.lt_of_lt_of_le (by decide) hl)) (fun j k sl mk hp ex st' hk hl _ h=>tlC_ok rfl rfl rfl j k sl mk hp ex st' hk hl h)

section
open Go Go.Proofs Go.RowKit
set_option maxRecDepth 100000 in
theorem grow_room (base : Option Addr) (w : World) : Calls Go.Proofs.Try.prog 67 #[.slice base 0 0,.int .i64 0] w fun e w'=>e = .returned (.slice base 0 0) /\ w' = w:=by
 go_enter Go.Proofs.Try.func67,Go.Proofs.Try.ntmps67
 go_wp2
 go_ret
 exact ⟨rfl,rfl⟩

set_option maxRecDepth 100000 in
theorem grow_grow (i0 : TypeInfo) (z : Value) (hi0 : Go.Proofs.Try.prog.info? 33 = some i0) (hz0 : i0.zero = some z) (hs0 : 0 < i0.size) (base : Option Addr) (n : Nat) (w : World) (hroom : 0 < n) (hbig : n * i0.bytes <= 140737488355328) (h63 : n <= 4611686018427387904) :
  Calls Go.Proofs.Try.prog 67 #[.slice base 0 0,.int .i64 n] w fun e w'=>e = .returned (.slice (some ⟨w.heap.size,0,none⟩) 0 (grownCap w n 0 33)) /\
   w' = w.drew.alloc (.cells (Builtin.zeroCells z.cells n ++ Builtin.zeroCells z.cells (grownCap w n 0 33 - n)) 33):=by
 have h1 : ¬ ((n : Int) < 0):=by omega
 have h4 : (n : Int) > 0:=by omega
 have hw0 : wrap64 (n : Int) = (n : Int):=by unfold wrap64; omega
 have hrz : ∀ ty,(Builtin.append_ #[24,3] ty #[.slice base 0 0,.int .i64 (n : Int)]).run Go.Proofs.Try.prog w =
   .ok (.slice (some ⟨w.heap.size,0,none⟩) n (grownCap w n 0 33)) (w.drew.alloc (.cells (Builtin.zeroCells z.cells n ++ Builtin.zeroCells z.cells (grownCap w n 0 33 - n)) 33)):=fun ty=>by
  have hold : (Builtin.firstCells i0.size 0 (.slice base 0 0)).run Go.Proofs.Try.prog w.drew = .ok ([] : List Value).toArray w.drew:=by
   cases base with
   | none=>exact run_firstCells_none w.drew i0.size 0 0 0
   | some a=>exact run_firstCells_some w.drew i0.size 0 a 0 0 [] (by simp) (fun j v hj=>by simp at hj)
  have h:=Lib.run_append_grow_zeros w 24 3 ty 33 i0 z .i64 .i64 (by kernel_rfl) (by kernel_rfl) hi0 hz0 base 0 0 [] hold n (by omega) hs0 (by omega) (by omega)
   (by omega) (by rw [Nat.zero_add]; exact growslice_fits hroom hbig)
  simpa using h
 go_enter Go.Proofs.Try.func67,Go.Proofs.Try.ntmps67
 go_wp2_with (at_builtin; refine Lib.wpList_append_run _ rfl _ _ _ _ rfl _ _ rfl rfl _ _ (hrz _) ?_)
 all_goals (go_ret; exact ⟨rfl,rfl⟩)
end

theorem zeroCells_size (z : Array Go.Value) (n : Nat) : (Go.Builtin.zeroCells z n).size = n * z.size:=by simp [Go.Builtin.zeroCells]

theorem ofClosedL_len : ∀ {l : List Go.Value} {ds : List D},ofClosedL l = some ds -> l.length = ds.length
 | [],ds,h=>by simp [ofClosedL] at h; subst h; rfl
 | v :: l,ds,h=>by
  simp only [ofClosedL] at h
  split at h
  ·rename_i d r h1 h2
   simp only [Option.some.injEq] at h; subst h
   simp [ofClosedL_len h2]
  ·simp at h

theorem growOk : GrowOk P 67 (E.ty 15).bytes (E.ty 15).size:=by
 obtain ⟨i0,hi0,hsz,hby,hz⟩:=(types 33 15 rfl).info
 obtain ⟨z,hz0,hzl,_⟩:=hz (by decide) (by decide)
 have hzs : z.cells.size = (E.ty 15).size:=by
  have:=ofClosedL_len hzl
  rw [Array.length_toList] at this
  rw [this]; decide
 have hpos : 0 < i0.size:=by rw [hsz]; decide
 rw [<- hsz,<- hby]
 constructor
 ·intro base w
  exact grow_room base w
 ·intro base n w hn hb hn2
  have:=grow_grow i0 z hi0 hz0 hpos base n w hn hb hn2
  have hG:=Go.grownCap_ge w n 0 33
  generalize Go.grownCap w n 0 33 = G at this hG
  refine this.mono ?_
  rintro e w' ⟨rfl,rfl⟩
  refine ⟨G,33,_,?_,rfl,rfl,⟨rfl,rfl,rfl⟩⟩
  simp only [Array.size_append,zeroCells_size,hzs,hsz]
  rw [<- Nat.add_mul,show n + (G - n) = G from by omega]

theorem l67 : Hatch P E T F (37,113) 67 244:=grow_hatch (c:=14) (i:=2) (e:=15) (G:=f244) rfl rfl rfl rfl growOk

theorem l26 : ∀ n,StatAt P (CLk T F true) F (runS E (dC E n) 96) 26:=clone_stat (c:=6) (fn:=Go.Proofs.Try.f26) (code:=Go.Proofs.Try.f26.body.getD .skip) types fnsOk rfl Go.Proofs.Try.func26 rfl rfl rfl (by kernel_rfl)

theorem tie : Tie P E T F:=tie_of (pt:=(37,113)) types mixed fnsOk (allc (good_of l3 rfl) (allc (good_of l4 rfl) (allc (good_of l5 rfl) (allc (good_of l6 rfl) (allc (good_of l7 rfl) (allc (good_of l8 rfl) (allc (good_of l9 rfl) (allc (good_of l10 rfl) (allc (good_of l11 rfl) (allc (good_of l12 rfl) (allc (good_hatch l13) (allc (good_of l14 rfl) (allc (good_of l15 rfl) (allc (good_of l16 rfl) (allc (good_of l17 rfl) (allc (good_of l18 rfl) (allc (good_of l19 rfl) (allc (good_of l20 rfl) (allc (good_of l21 rfl) (allc (good_of l22 rfl) (allc (good_of l23 rfl) (allc (good_of l24 rfl) (allc (good_of l25 rfl) (allc (good_clone l26) (allc (good_of l27 rfl) (allc (good_of l28 rfl) (allc (good_of l29 rfl) (allc (good_none rfl) (allc (good_none rfl) (allc (good_mark l32 rfl) (allc (good_mark l33 rfl) (allc (good_of l34 rfl) (allc (good_of l35 rfl) (allc (good_hatch l36) (allc (good_of l37 rfl) (allc (good_of l38 rfl) (allc (good_of l39 rfl) (allc (good_of l40 rfl) (allc (good_of l41 rfl) (allc (good_of l42 rfl) (allc (good_of l43 rfl) (allc (good_of l44 rfl) (allc (good_of l45 rfl) (allc (good_of l46 rfl) (allc (good_of l47 rfl) (allc (good_of l48 rfl) (allc (good_of l49 rfl) (allc (good_of l50 rfl) (allc (good_of l51 rfl) (allc (good_of l52 rfl) (allc (good_of l53 rfl) (allc (good_of l54 rfl) (allc (good_of l55 rfl) (allc (good_of l56 rfl) (allc (good_of l57 rfl) (allc (good_of l58 rfl) (allc (good_of l59 rfl) (allc (good_none rfl) (allc (good_mark l61 rfl) (allc (good_mark l62 rfl) (allc (good_mark l63 rfl) (allc (good_of l64 rfl) (allc (good_of l65 rfl) (allc (good_of l66 rfl) (allc (good_hatch l67) (allc (good_of l68 rfl) (allc (good_of l69 rfl) (allc (good_of l70 rfl) (allc (good_of l71 rfl) (allc (good_of l72 rfl) (allc (good_of l73 rfl) (allc (good_mark l74 rfl) (allc (good_of l75 rfl) (allc (good_of l76 rfl) (allc (good_of l77 rfl) (allc (good_of l78 rfl) (allc (good_of l79 rfl) (allc (good_of l80 rfl) (allc (good_of l81 rfl) (allc (good_of l82 rfl) (allc (good_of l83 rfl) (allc (good_of l84 rfl) (allc (good_of l85 rfl) (allc (good_of l86 rfl) (allc (good_of l87 rfl) (allc (good_of l88 rfl) (allc (good_of l89 rfl) (allc (good_of l90 rfl) (allc (good_of l91 rfl) (allc (good_of l92 rfl) (allc (good_of l93 rfl) (allc (good_of l94 rfl) (allc (good_of l95 rfl) (allc (good_of l96 rfl) (alln)))))))))))))))))))))))))))))))))))))))))))))))))))))))))))))))))))))))))))))))))))))))))))))))

end Dv.Try
