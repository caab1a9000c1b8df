/- Texts that a proof of this claim uses, joined: Dv.LinkTryd. -/
import Derived.Test.YtejanbpdkinjfaaDoorDvd
import Derived.Test.YtejanbpdkinjfaaDoorCode
import Derived.WalkKit
import Derived.Lib.Walk
import Derived.Lib.SliceRun
import Derived.Lib.AppendZerosOnto
import Derived.Test.YtejanbpdkinjfaaDoorSh
import Derived.Test.YtejanbpdkinjfaaDoorWa
import Derived.Test.YtejanbpdkinjfaaDoorChecked
import Derived.KernelRfl
set_option linter.all false
set_option maxHeartbeats 16000000
namespace Dv.Tryd
open Go (Program)

noncomputable abbrev P : Program:=Go.Proofs.Tryd.prog

def tl : List (Nat × Nat):=[(3,2),(4,7),(5,13),(9,53),(22,69),(23,66),(25,68),(27,65),(30,70),(32,3),(39,73),(41,71),(42,67),(44,72),(45,6),(50,30),(63,56),(65,55),(76,59),(78,58),(79,62),(83,12),(86,78),(87,76),(88,77),(91,63),(92,74),(97,57),(101,79),(111,80),(115,81),(116,64),(117,82)]

def fl : List (Nat × Nat):=[(3,326),(4,314),(5,322),(6,323),(7,316),(8,320),(9,324),(10,327),(11,318),(12,353),(13,334),(14,329),(15,325),(16,331),(17,354),(18,355),(19,356),(20,337),(21,359),(22,366),(23,264),(24,361),(25,362),(26,363),(27,364),(28,365),(29,335),(30,380),(31,281),(32,282),(35,105),(36,74),(37,404),(38,383),(39,384),(40,297),(41,298),(42,312),(43,311),(44,299),(45,300),(56,107),(57,405),(58,406),(59,407)]

def T : Phi:=look tl
def F : Phi:=look fl

theorem types : TAll P E T:=zr2 (by kernel_rfl)
theorem mixed : P.follows .mixedOrders = true:=by kernel_rfl
theorem fnsOk : FnsOk P F:=zg5 (by kernel_rfl)

theorem l3 : FnL P T F 3 f326:=zh Go.Proofs.Tryd.func3 (by kernel_rfl) (by kernel_rfl)
theorem l4 : FnL P T F 4 f314:=zh Go.Proofs.Tryd.func4 (by kernel_rfl) (by kernel_rfl)
theorem l5 : FnL P T F 5 f322:=zh Go.Proofs.Tryd.func5 (by kernel_rfl) (by kernel_rfl)
theorem l6 : FnL P T F 6 f323:=zh Go.Proofs.Tryd.func6 (by kernel_rfl) (by kernel_rfl)
theorem l7 : FnL P T F 7 f316:=zh Go.Proofs.Tryd.func7 (by kernel_rfl) (by kernel_rfl)
theorem l8 : FnL P T F 8 f320:=zh Go.Proofs.Tryd.func8 (by kernel_rfl) (by kernel_rfl)
theorem l9 : FnL P T F 9 f324:=zh Go.Proofs.Tryd.func9 (by kernel_rfl) (by kernel_rfl)
theorem l10 : FnL P T F 10 f327:=zh Go.Proofs.Tryd.func10 (by kernel_rfl) (by kernel_rfl)
theorem l11 : FnL P T F 11 f318:=zh Go.Proofs.Tryd.func11 (by kernel_rfl) (by kernel_rfl)
theorem l12 : FnL P T F 12 f353:=zh Go.Proofs.Tryd.func12 (by kernel_rfl) (by kernel_rfl)
theorem l13 : FnL P T F 13 f334:=zh Go.Proofs.Tryd.func13 (by kernel_rfl) (by kernel_rfl)
theorem l14 : FnL P T F 14 f329:=zh Go.Proofs.Tryd.func14 (by kernel_rfl) (by kernel_rfl)
theorem l15 : FnL P T F 15 f325:=zh Go.Proofs.Tryd.func15 (by kernel_rfl) (by kernel_rfl)
theorem l16 : FnL P T F 16 f331:=zh Go.Proofs.Tryd.func16 (by kernel_rfl) (by kernel_rfl)
theorem l17 : FnL P T F 17 f354:=zh Go.Proofs.Tryd.func17 (by kernel_rfl) (by kernel_rfl)
theorem l18 : FnL P T F 18 f355:=zh Go.Proofs.Tryd.func18 (by kernel_rfl) (by kernel_rfl)
theorem l20 : FnL P T F 20 f337:=zh Go.Proofs.Tryd.func20 (by kernel_rfl) (by kernel_rfl)
theorem l21 : FnL P T F 21 f359:=zh Go.Proofs.Tryd.func21 (by kernel_rfl) (by kernel_rfl)
theorem l22 : FnL P T F 22 f366:=zh Go.Proofs.Tryd.func22 (by kernel_rfl) (by kernel_rfl)
theorem l23 : FnL P T F 23 f264:=zh Go.Proofs.Tryd.func23 (by kernel_rfl) (by kernel_rfl)
theorem l25 : FnL P T F 25 f362:=zh Go.Proofs.Tryd.func25 (by kernel_rfl) (by kernel_rfl)
theorem l26 : FnL P T F 26 f363:=zh Go.Proofs.Tryd.func26 (by kernel_rfl) (by kernel_rfl)
theorem l27 : FnL P T F 27 f364:=zh Go.Proofs.Tryd.func27 (by kernel_rfl) (by kernel_rfl)
theorem l28 : FnL P T F 28 f365:=zh Go.Proofs.Tryd.func28 (by kernel_rfl) (by kernel_rfl)
theorem l29 : FnL P T F 29 f335:=zh Go.Proofs.Tryd.func29 (by kernel_rfl) (by kernel_rfl)
theorem l30 : FnL P T F 30 f380:=zh Go.Proofs.Tryd.func30 (by kernel_rfl) (by kernel_rfl)
theorem l31 : FnL P T F 31 f281:=zh Go.Proofs.Tryd.func31 (by kernel_rfl) (by kernel_rfl)
theorem l32 : FnL P T F 32 f282:=zh Go.Proofs.Tryd.func32 (by kernel_rfl) (by kernel_rfl)
theorem l35 : FnL P T F 35 f105:=zh Go.Proofs.Tryd.func35 (by kernel_rfl) (by kernel_rfl)
theorem l36 : FnL P T F 36 f74:=zh Go.Proofs.Tryd.func36 (by kernel_rfl) (by kernel_rfl)
theorem l37 : FnL P T F 37 f404:=zh Go.Proofs.Tryd.func37 (by kernel_rfl) (by kernel_rfl)
theorem l38 : FnL P T F 38 f383:=zh Go.Proofs.Tryd.func38 (by kernel_rfl) (by kernel_rfl)
theorem l40 : FnL P T F 40 f297:=zh Go.Proofs.Tryd.func40 (by kernel_rfl) (by kernel_rfl)
theorem l41 : FnL P T F 41 f298:=zh Go.Proofs.Tryd.func41 (by kernel_rfl) (by kernel_rfl)
theorem l42 : FnL P T F 42 f312:=zh Go.Proofs.Tryd.func42 (by kernel_rfl) (by kernel_rfl)
theorem l43 : FnL P T F 43 f311:=zh Go.Proofs.Tryd.func43 (by kernel_rfl) (by kernel_rfl)
theorem l44 : FnL P T F 44 f299:=zh Go.Proofs.Tryd.func44 (by kernel_rfl) (by kernel_rfl)
theorem l45 : FnL P T F 45 f300:=zh Go.Proofs.Tryd.func45 (by kernel_rfl) (by kernel_rfl)
theorem l56 : FnL P T F 56 f107:=zh Go.Proofs.Tryd.func56 (by kernel_rfl) (by kernel_rfl)
theorem l57 : FnL P T F 57 f405:=zh Go.Proofs.Tryd.func57 (by kernel_rfl) (by kernel_rfl)
theorem l58 : FnL P T F 58 f406:=zh Go.Proofs.Tryd.func58 (by kernel_rfl) (by kernel_rfl)
theorem l59 : FnL P T F 59 f407:=zh Go.Proofs.Tryd.func59 (by kernel_rfl) (by kernel_rfl)

section
open Go Go.Proofs Go.RowKit
set_option maxRecDepth 100000 in
theorem zl4 (base : Option Addr) (w : World) : Calls Go.Proofs.Tryd.prog 39 #[.slice base 0 0,.int .i64 0] w fun e w'=>e = .returned (.slice base 0 0) /\ w' = w:=by
 go_enter Go.Proofs.Tryd.func39,Go.Proofs.Tryd.ntmps39
 go_wp2
 go_ret
 exact ⟨rfl,rfl⟩

set_option maxRecDepth 100000 in
theorem zl5 (i0 : TypeInfo) (z : Value) (hi0 : Go.Proofs.Tryd.prog.info? 5 = some i0) (hz0 : i0.zero = some z) (hs0 : 0 < i0.size) (base : Option Addr) (n : Nat) (w : World) (hroom : 0 < n) (hbig : n * i0.bytes <= 140737488355328) (h63 : n <= 4611686018427387904) :
  Calls Go.Proofs.Tryd.prog 39 #[.slice base 0 0,.int .i64 n] w fun e w'=>e = .returned (.slice (some ⟨w.heap.size,0,none⟩) 0 (grownCap w n 0 5)) /\
   w' = w.drew.alloc (.cells (Builtin.zeroCells z.cells n ++ Builtin.zeroCells z.cells (grownCap w n 0 5 - n)) 5):=by
 have h1 : ¬ ((n : Int) < 0):=by omega
 have h4 : (n : Int) > 0:=by omega
 have hw0 : wrap64 (n : Int) = (n : Int):=by unfold wrap64; omega
 have hrz : ∀ ty,(Builtin.append_ #[50,3] ty #[.slice base 0 0,.int .i64 (n : Int)]).run Go.Proofs.Tryd.prog w =
   .ok (.slice (some ⟨w.heap.size,0,none⟩) n (grownCap w n 0 5)) (w.drew.alloc (.cells (Builtin.zeroCells z.cells n ++ Builtin.zeroCells z.cells (grownCap w n 0 5 - n)) 5)):=fun ty=>by
  have hold : (Builtin.firstCells i0.size 0 (.slice base 0 0)).run Go.Proofs.Tryd.prog w.drew = .ok ([] : List Value).toArray w.drew:=by
   cases base with
   | none=>exact run_firstCells_none w.drew i0.size 0 0 0
   | some a=>exact run_firstCells_some w.drew i0.size 0 a 0 0 [] (by simp) (fun j v hj=>by simp at hj)
  have h:=Lib.run_append_grow_zeros w 50 3 ty 5 i0 z .i64 .i64 (by kernel_rfl) (by kernel_rfl) hi0 hz0 base 0 0 [] hold n (by omega) hs0 (by omega) (by omega)
   (by omega) (by rw [Nat.zero_add]; exact growslice_fits hroom hbig)
  simpa using h
 go_enter Go.Proofs.Tryd.func39,Go.Proofs.Tryd.ntmps39
 go_wp2_with (at_builtin; refine Lib.wpList_append_run _ rfl _ _ _ _ rfl _ _ rfl rfl _ _ (hrz _) ?_)
 all_goals (go_ret; exact ⟨rfl,rfl⟩)
end

theorem z9q (z : Array Go.Value) (n : Nat) : (Go.Builtin.zeroCells z n).size = n * z.size:=by simp [Go.Builtin.zeroCells]

theorem z5y : ∀ {l : List Go.Value} {ds : List D},ofClosedL l = some ds -> l.length = ds.length
 | [],ds,h=>by simp [ofClosedL] at h; subst h; rfl
 | v :: l,ds,h=>by
  simp only [ofClosedL] at h
  split at h
  ·rename_i d r h1 h2
   simp only [Option.some.injEq] at h; subst h
   simp [z5y h2]
  ·simp at h

theorem growOk : GrowOk P 39 (E.ty 13).bytes (E.ty 13).size:=by
 obtain ⟨i0,hi0,hsz,hby,hz⟩:=(types 5 13 rfl).info
 obtain ⟨z,hz0,hzl,_⟩:=hz (by decide) (by decide)
 have hzs : z.cells.size = (E.ty 13).size:=by
  have:=z5y hzl
  rw [Array.length_toList] at this
  rw [this]; decide
 have hpos : 0 < i0.size:=by rw [hsz]; decide
 rw [<- hsz,<- hby]
 constructor
 ·intro base w
  exact zl4 base w
 ·intro base n w hn hb hn2
  have:=zl5 i0 z hi0 hz0 hpos base n w hn hb hn2
  have hG:=Go.grownCap_ge w n 0 5
  generalize Go.grownCap w n 0 5 = G at this hG
  refine this.mono ?_
  rintro e w' ⟨rfl,rfl⟩
  refine ⟨G,5,_,?_,rfl,rfl,⟨rfl,rfl,rfl,Nat.le_succ _⟩⟩
  simp only [Array.size_append,z9q,hzs,hsz]
  rw [<- Nat.add_mul,show n + (G - n) = G from by omega]

theorem l39 : Hatch P E T F (32,0) 39 384:=zi4 (c:=30) (i:=2) (e:=13) (G:=f384) rfl rfl rfl rfl growOk


def sortRen : Go.Shelf.Ren:={ f:=fun | 6=>24 | 15=>34 | 14=>33 | 28=>54 | 29=>55 | 20=>46 | 21=>47 | 22=>48 | 23=>49 | 24=>50 | 25=>51 | 26=>52 | 27=>53 | 46=>60 | 47=>61 | 48=>62 | 49=>63 | 50=>64 | 57=>65 | n=>n,t:=fun | 22=>42 | 24=>27 | 25=>69 | 3=>3 | 39=>83 | 0=>0 | 53=>86 | 55=>91 | 4=>4 | 46=>102 | 45=>101 | 50=>94 | 5=>5 | 9=>9 | 66=>117 | 70=>121 | 76=>123 | 77=>124 | n=>n,g:=fun n=>n }
set_option maxRecDepth 100000 in
theorem sortL : Go.Proofs.SlLaysF0.n6 P sortRen where
 mixed:=mixed
 f6:=⟨ "slices.SortFunc[[]overflight/api.Account,overflight/api.Account]",by decide,Go.Proofs.Tryd.func24.trans (congrArg some (by kernel_rfl))⟩
 f14:=⟨ "slices.pdqsortCmpFunc[overflight/api.Account]",by decide,Go.Proofs.Tryd.func33.trans (congrArg some (by kernel_rfl))⟩
 f15:=Go.Proofs.Tryd.func34.trans (congrArg some (by kernel_rfl))
 f20:=⟨ "slices.insertionSortCmpFunc[overflight/api.Account]",by decide,Go.Proofs.Tryd.func46.trans (congrArg some (by kernel_rfl))⟩
 f21:=⟨ "slices.heapSortCmpFunc[overflight/api.Account]",by decide,Go.Proofs.Tryd.func47.trans (congrArg some (by kernel_rfl))⟩
 f22:=⟨ "slices.breakPatternsCmpFunc[overflight/api.Account]",by decide,Go.Proofs.Tryd.func48.trans (congrArg some (by kernel_rfl))⟩
 f23:=⟨ "slices.choosePivotCmpFunc[overflight/api.Account]",by decide,Go.Proofs.Tryd.func49.trans (congrArg some (by kernel_rfl))⟩
 f24:=⟨ "slices.reverseRangeCmpFunc[overflight/api.Account]",by decide,Go.Proofs.Tryd.func50.trans (congrArg some (by kernel_rfl))⟩
 f25:=⟨ "slices.partialInsertionSortCmpFunc[overflight/api.Account]",by decide,Go.Proofs.Tryd.func51.trans (congrArg some (by kernel_rfl))⟩
 f26:=⟨ "slices.partitionEqualCmpFunc[overflight/api.Account]",by decide,Go.Proofs.Tryd.func52.trans (congrArg some (by kernel_rfl))⟩
 f27:=⟨ "slices.partitionCmpFunc[overflight/api.Account]",by decide,Go.Proofs.Tryd.func53.trans (congrArg some (by kernel_rfl))⟩
 f28:=Go.Proofs.Tryd.func54.trans (congrArg some (by kernel_rfl))
 f29:=Go.Proofs.Tryd.func55.trans (congrArg some (by kernel_rfl))
 f46:=⟨ "slices.siftDownCmpFunc[overflight/api.Account]",by decide,Go.Proofs.Tryd.func60.trans (congrArg some (by kernel_rfl))⟩
 f47:=Go.Proofs.Tryd.func61.trans (congrArg some (by kernel_rfl))
 f48:=Go.Proofs.Tryd.func62.trans (congrArg some (by kernel_rfl))
 f49:=⟨ "slices.medianAdjacentCmpFunc[overflight/api.Account]",by decide,Go.Proofs.Tryd.func63.trans (congrArg some (by kernel_rfl))⟩
 f50:=⟨ "slices.medianCmpFunc[overflight/api.Account]",by decide,Go.Proofs.Tryd.func64.trans (congrArg some (by kernel_rfl))⟩
 f57:=⟨ "slices.order2CmpFunc[overflight/api.Account]",by decide,Go.Proofs.Tryd.func65.trans (congrArg some (by kernel_rfl))⟩
 t0:=Go.Proofs.Tryd.underlying0
 a0:=Go.Proofs.Tryd.isAgg0
 z0:=Go.Proofs.Tryd.sizeOf0
 v0:=Go.Proofs.Tryd.zeroValue0
 t3:=Go.Proofs.Tryd.underlying3
 a3:=Go.Proofs.Tryd.isAgg3
 z3:=Go.Proofs.Tryd.sizeOf3
 v3:=Go.Proofs.Tryd.zeroValue3
 t4:=Go.Proofs.Tryd.underlying4
 a4:=Go.Proofs.Tryd.isAgg4
 z4:=Go.Proofs.Tryd.sizeOf4
 v4:=Go.Proofs.Tryd.zeroValue4
 t5:=Go.Proofs.Tryd.underlying5
 a5:=Go.Proofs.Tryd.isAgg5
 z5:=Go.Proofs.Tryd.sizeOf5
 v5:=Go.Proofs.Tryd.zeroValue5
 t9:=Go.Proofs.Tryd.underlying9
 a9:=Go.Proofs.Tryd.isAgg9
 z9:=Go.Proofs.Tryd.sizeOf9
 v9:=Go.Proofs.Tryd.zeroValue9
 t22:=Go.Proofs.Tryd.underlying42
 a22:=Go.Proofs.Tryd.isAgg42
 z22:=Go.Proofs.Tryd.sizeOf42
 v22:=Go.Proofs.Tryd.zeroValue42
 t25:=Go.Proofs.Tryd.underlying69
 a25:=Go.Proofs.Tryd.isAgg69
 z25:=Go.Proofs.Tryd.sizeOf69
 v25:=Go.Proofs.Tryd.zeroValue69
 t39:=Go.Proofs.Tryd.underlying83
 a39:=Go.Proofs.Tryd.isAgg83
 z39:=Go.Proofs.Tryd.sizeOf83
 v39:=Go.Proofs.Tryd.zeroValue83
 t45:=Go.Proofs.Tryd.underlying101
 a45:=Go.Proofs.Tryd.isAgg101
 z45:=Go.Proofs.Tryd.sizeOf101
 v45:=Go.Proofs.Tryd.zeroValue101
 t46:=Go.Proofs.Tryd.underlying102
 a46:=Go.Proofs.Tryd.isAgg102
 z46:=Go.Proofs.Tryd.sizeOf102
 v46:=Go.Proofs.Tryd.zeroValue102
 t50:=Go.Proofs.Tryd.underlying94
 a50:=Go.Proofs.Tryd.isAgg94
 z50:=Go.Proofs.Tryd.sizeOf94
 v50:=Go.Proofs.Tryd.zeroValue94
 t53:=Go.Proofs.Tryd.underlying86
 a53:=Go.Proofs.Tryd.isAgg86
 z53:=Go.Proofs.Tryd.sizeOf86
 v53:=Go.Proofs.Tryd.zeroValue86
 t55:=Go.Proofs.Tryd.underlying91
 a55:=Go.Proofs.Tryd.isAgg91
 z55:=Go.Proofs.Tryd.sizeOf91
 v55:=Go.Proofs.Tryd.zeroValue91
 t66:=Go.Proofs.Tryd.underlying117
 a66:=Go.Proofs.Tryd.isAgg117
 z66:=Go.Proofs.Tryd.sizeOf117
 v66:=Go.Proofs.Tryd.zeroValue117
 t70:=Go.Proofs.Tryd.underlying121
 a70:=Go.Proofs.Tryd.isAgg121
 z70:=Go.Proofs.Tryd.sizeOf121
 v70:=Go.Proofs.Tryd.zeroValue121
 t76:=Go.Proofs.Tryd.underlying123
 a76:=Go.Proofs.Tryd.isAgg123
 z76:=Go.Proofs.Tryd.sizeOf123
 v76:=Go.Proofs.Tryd.zeroValue123
 t77:=Go.Proofs.Tryd.underlying124
 a77:=Go.Proofs.Tryd.isAgg124
 z77:=Go.Proofs.Tryd.sizeOf124
 v77:=Go.Proofs.Tryd.zeroValue124
def flA : List (Nat × Nat):=[(25,362),(35,105),(36,74),(56,107)]
def FA : Phi:=look flA
theorem fnsOkA : FnsOk P FA:=zg5 (by kernel_rfl)
theorem a25 : FnL P T FA 25 f362:=zh Go.Proofs.Tryd.func25 (by kernel_rfl) (by kernel_rfl)
theorem a35 : FnL P T FA 35 f105:=zh Go.Proofs.Tryd.func35 (by kernel_rfl) (by kernel_rfl)
theorem a36 : FnL P T FA 36 f74:=zh Go.Proofs.Tryd.func36 (by kernel_rfl) (by kernel_rfl)
theorem a56 : FnL P T FA 56 f107:=zh Go.Proofs.Tryd.func56 (by kernel_rfl) (by kernel_rfl)
theorem tieA : Tie P E T FA:=zpp (pt:=(32,0)) types mixed fnsOkA (allc (zb a25 rfl) (allc (zb a35 rfl) (allc (zb a36 rfl) (allc (zb a56 rfl) (alln)))))
theorem cf_or (a b c d : Int) : orI [cmpI a c,cmpI b d] = cfP (a,b) (c,d):=by
 unfold cfP cmpI
 simp only [orI]
 repeat' split
 all_goals first | rfl | omega
theorem cmpOk25 : CmpOk P 25:=CmpOk.of_sim tieA (g:=25) (g':=362) rfl fun a b c d=>by
 rw [<- cf_or]
 exact z8b (r362a a b c d)
theorem cmpN (g k : Nat) (h : F g = some k) (hk : [362,386].contains k = true) : g = 25:=by
 have h1:=z61 h
 have h2 : (fl.all fun p=>![362,386].contains p.2 || p.1 == 25) = true:=by decide +kernel
 have h3:=List.all_eq_true.1 h2 _ h1
 simp only [hk,Bool.not_true,Bool.false_or] at h3
 simpa using h3
theorem l24 : Hatch P E T F (32,0) 24 361:=zgx (p:=0) (cmp:=[362,386]) (G:=f361) rfl rfl rfl rfl
 (fun g k h hk=>by
  rcases cmpN g k h hk with rfl
  ·exact SortOk.of sortL rfl Go.Proofs.Tryd.isAgg27 Go.Proofs.Tryd.sizeOf27 cmpOk25)
 (fun p cap fv w=>Go.Proofs.AnyF.slices_SortFunc_none sortL p cap fv w)

theorem l19 : ∀ n,StatAt P (CLk T F true) F (runS E (dC E n) 356) 19:=zim (c:=70) (fn:=Go.Proofs.Tryd.f19) (code:=Go.Proofs.Tryd.f19.body.getD .skip) types fnsOk rfl Go.Proofs.Tryd.func19 rfl rfl rfl (by kernel_rfl)

set_option maxRecDepth 100000 in
theorem tie : Tie P E T F:=zpp (pt:=(32,0)) types mixed fnsOk (allc (zb l3 rfl) (allc (zb l4 rfl) (allc (zb l5 rfl) (allc (zb l6 rfl) (allc (zb l7 rfl) (allc (zb l8 rfl) (allc (zb l9 rfl) (allc (zb l10 rfl) (allc (zb l11 rfl) (allc (zb l12 rfl) (allc (zb l13 rfl) (allc (zb l14 rfl) (allc (zb l15 rfl) (allc (zb l16 rfl) (allc (zb l17 rfl) (allc (zb l18 rfl) (allc (zi5 l19) (allc (zb l20 rfl) (allc (zb l21 rfl) (allc (zb l22 rfl) (allc (zb l23 rfl) (allc (zaj l24) (allc (zb l25 rfl) (allc (zb l26 rfl) (allc (zb l27 rfl) (allc (zb l28 rfl) (allc (zb l29 rfl) (allc (zb l30 rfl) (allc (zb l31 rfl) (allc (zb l32 rfl) (allc (zb l35 rfl) (allc (zb l36 rfl) (allc (zb l37 rfl) (allc (zb l38 rfl) (allc (zaj l39) (allc (zb l40 rfl) (allc (zb l41 rfl) (allc (zb l42 rfl) (allc (zb l43 rfl) (allc (zb l44 rfl) (allc (zb l45 rfl) (allc (zb l56 rfl) (allc (zb l57 rfl) (allc (zb l58 rfl) (allc (zb l59 rfl) (alln))))))))))))))))))))))))))))))))))))))))))))))

end Dv.Tryd
