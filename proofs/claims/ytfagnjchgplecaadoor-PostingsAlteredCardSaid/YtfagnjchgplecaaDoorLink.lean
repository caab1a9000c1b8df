/- Texts that a proof of this claim uses, joined: Dv.LinkTryd. -/
import Derived.Test.YtfagnjchgplecaaDoorDvd
import Derived.Test.YtfagnjchgplecaaDoorCode
import Derived.WalkKit
import Derived.RecoverIn
import Derived.Lib.Walk
import Derived.Lib.SliceRun
import Derived.Lib.AppendZerosOnto
import Derived.Test.YtfagnjchgplecaaDoorSh
import Derived.Test.YtfagnjchgplecaaDoorWa
import Derived.Test.YtfagnjchgplecaaDoorChecked
import Derived.KernelRfl
set_option linter.all false
set_option maxHeartbeats 16000000
namespace Dv.Tryd
open Go (Program)

noncomputable abbrev P : Program:=Go.Proofs.Tryd.prog

def tl : List (Nat × Nat):=[(3,2),(4,7),(5,13),(9,53),(22,70),(23,66),(25,65),(28,3),(35,69),(39,67),(43,68),(46,73),(48,71),(50,72),(51,6),(57,30),(61,54),(68,56),(70,55),(73,10),(74,9),(75,14),(77,0),(78,36),(107,60),(110,18),(112,17),(113,16),(115,15),(117,37),(124,75),(139,12),(142,78),(143,76),(144,77),(147,63),(148,74),(151,59),(153,58),(154,62),(162,20),(164,21),(168,19),(180,79),(189,80),(193,81),(196,57),(202,82),(207,64)]

def fl : List (Nat × Nat):=[(8,333),(14,314),(16,316),(18,318),(21,322),(22,323),(23,324),(24,325),(26,329),(27,331),(29,334),(30,335),(45,353),(46,354),(47,355),(48,356),(51,359),(53,361),(54,362),(55,363),(56,364),(57,365),(58,366),(59,264),(80,380),(83,105),(84,74),(85,404),(86,383),(87,384),(88,281),(89,282),(103,386),(124,107),(125,405),(126,406),(127,407),(128,297),(129,298),(130,312),(131,311),(132,299),(133,300)]

def T : Phi:=look tl
def F : Phi:=look fl

theorem types : TAll P E T:=zqk (by kernel_rfl)
theorem mixed : P.follows .mixedOrders = true:=by kernel_rfl
theorem fnsOk : FnsOk P F:=zft (by kernel_rfl)

theorem pt1 : P.concrete (28,0).1 = true:=by kernel_rfl
theorem pt2 : P.concrete (28,0).2 = true:=by kernel_rfl
theorem l8 : FnL P T F 8 f333:=zi Go.Proofs.Tryd.func8 (by kernel_rfl) (by kernel_rfl)
theorem l14 : FnL P T F 14 f314:=zi Go.Proofs.Tryd.func14 (by kernel_rfl) (by kernel_rfl)
theorem l16 : FnL P T F 16 f316:=zi Go.Proofs.Tryd.func16 (by kernel_rfl) (by kernel_rfl)
theorem l18 : FnL P T F 18 f318:=zi Go.Proofs.Tryd.func18 (by kernel_rfl) (by kernel_rfl)
theorem l21 : FnL P T F 21 f322:=zi Go.Proofs.Tryd.func21 (by kernel_rfl) (by kernel_rfl)
theorem l22 : FnL P T F 22 f323:=zi Go.Proofs.Tryd.func22 (by kernel_rfl) (by kernel_rfl)
theorem l23 : FnL P T F 23 f324:=zi Go.Proofs.Tryd.func23 (by kernel_rfl) (by kernel_rfl)
theorem l24 : FnL P T F 24 f325:=zi Go.Proofs.Tryd.func24 (by kernel_rfl) (by kernel_rfl)
theorem l26 : FnL P T F 26 f329:=zi Go.Proofs.Tryd.func26 (by kernel_rfl) (by kernel_rfl)
theorem l27 : FnL P T F 27 f331:=zi Go.Proofs.Tryd.func27 (by kernel_rfl) (by kernel_rfl)
theorem l29 : FnL P T F 29 f334:=zi Go.Proofs.Tryd.func29 (by kernel_rfl) (by kernel_rfl)
theorem l30 : FnL P T F 30 f335:=zi Go.Proofs.Tryd.func30 (by kernel_rfl) (by kernel_rfl)
theorem l45 : FnL P T F 45 f353:=zi Go.Proofs.Tryd.func45 (by kernel_rfl) (by kernel_rfl)
theorem l46 : FnL P T F 46 f354:=zi Go.Proofs.Tryd.func46 (by kernel_rfl) (by kernel_rfl)
theorem l47 : FnL P T F 47 f355:=zi Go.Proofs.Tryd.func47 (by kernel_rfl) (by kernel_rfl)
theorem l51 : FnL P T F 51 f359:=zi Go.Proofs.Tryd.func51 (by kernel_rfl) (by kernel_rfl)
theorem l54 : FnL P T F 54 f362:=zi Go.Proofs.Tryd.func54 (by kernel_rfl) (by kernel_rfl)
theorem l55 : FnL P T F 55 f363:=zi Go.Proofs.Tryd.func55 (by kernel_rfl) (by kernel_rfl)
theorem l56 : FnL P T F 56 f364:=zi Go.Proofs.Tryd.func56 (by kernel_rfl) (by kernel_rfl)
theorem l57 : FnL P T F 57 f365:=zi Go.Proofs.Tryd.func57 (by kernel_rfl) (by kernel_rfl)
theorem l58 : FnL P T F 58 f366:=zi Go.Proofs.Tryd.func58 (by kernel_rfl) (by kernel_rfl)
theorem l59 : FnL P T F 59 f264:=zi Go.Proofs.Tryd.func59 (by kernel_rfl) (by kernel_rfl)
theorem l80 : FnL P T F 80 f380:=zi Go.Proofs.Tryd.func80 (by kernel_rfl) (by kernel_rfl)
theorem l83 : FnL P T F 83 f105:=zi Go.Proofs.Tryd.func83 (by kernel_rfl) (by kernel_rfl)
theorem l84 : FnL P T F 84 f74:=zi Go.Proofs.Tryd.func84 (by kernel_rfl) (by kernel_rfl)
theorem l85 : FnL P T F 85 f404:=zi Go.Proofs.Tryd.func85 (by kernel_rfl) (by kernel_rfl)
theorem l86 : FnL P T F 86 f383:=zi Go.Proofs.Tryd.func86 (by kernel_rfl) (by kernel_rfl)
theorem l88 : FnL P T F 88 f281:=zi Go.Proofs.Tryd.func88 (by kernel_rfl) (by kernel_rfl)
theorem l89 : FnL P T F 89 f282:=zi Go.Proofs.Tryd.func89 (by kernel_rfl) (by kernel_rfl)
theorem l103 : FnL P T F 103 f386:=zi Go.Proofs.Tryd.func103 (by kernel_rfl) (by kernel_rfl)
theorem l124 : FnL P T F 124 f107:=zi Go.Proofs.Tryd.func124 (by kernel_rfl) (by kernel_rfl)
theorem l125 : FnL P T F 125 f405:=zi Go.Proofs.Tryd.func125 (by kernel_rfl) (by kernel_rfl)
theorem l126 : FnL P T F 126 f406:=zi Go.Proofs.Tryd.func126 (by kernel_rfl) (by kernel_rfl)
theorem l127 : FnL P T F 127 f407:=zi Go.Proofs.Tryd.func127 (by kernel_rfl) (by kernel_rfl)
theorem l128 : FnL P T F 128 f297:=zi Go.Proofs.Tryd.func128 (by kernel_rfl) (by kernel_rfl)
theorem l129 : FnL P T F 129 f298:=zi Go.Proofs.Tryd.func129 (by kernel_rfl) (by kernel_rfl)
theorem l130 : FnL P T F 130 f312:=zi Go.Proofs.Tryd.func130 (by kernel_rfl) (by kernel_rfl)
theorem l131 : FnL P T F 131 f311:=zi Go.Proofs.Tryd.func131 (by kernel_rfl) (by kernel_rfl)
theorem l132 : FnL P T F 132 f299:=zi Go.Proofs.Tryd.func132 (by kernel_rfl) (by kernel_rfl)
theorem l133 : FnL P T F 133 f300:=zi Go.Proofs.Tryd.func133 (by kernel_rfl) (by kernel_rfl)

theorem hmk (b : Bool) (v : Go.Value) (w : Go.World) : (Go.Instr.makeInterface (if b = true then ((28,0) : Nat × Nat).2 else ((28,0) : Nat × Nat).1) v).run P w = .ok (.iface (if b = true then ((28,0) : Nat × Nat).2 else ((28,0) : Nat × Nat).1) v) w:=by
 cases b
 ·exact Go.run_makeInterface w _ v pt1
 ·exact Go.run_makeInterface w _ v pt2


section
open Go Go.Proofs Go.RowKit
set_option maxRecDepth 100000 in
theorem zkj (base : Option Addr) (w : World) : Calls Go.Proofs.Tryd.prog 87 #[.slice base 0 0,.int .i64 0] w fun e w'=>e = .returned (.slice base 0 0) /\ w' = w:=by
 go_enter Go.Proofs.Tryd.func87,Go.Proofs.Tryd.ntmps87
 go_wp2
 go_ret
 exact ⟨rfl,rfl⟩

set_option maxRecDepth 100000 in
theorem zkk (i0 : TypeInfo) (z : Value) (hi0 : Go.Proofs.Tryd.prog.info? 5 = some i0) (hz0 : i0.zero = some z) (hs0 : 0 < i0.size) (base : Option Addr) (n : Nat) (w : World) (hroom : 0 < n) (hbig : n * i0.bytes <= 140737488355328) (h63 : n <= 4611686018427387904) :
  Calls Go.Proofs.Tryd.prog 87 #[.slice base 0 0,.int .i64 n] w fun e w'=>e = .returned (.slice (some ⟨w.heap.size,0,none⟩) 0 (grownCap w n 0 5)) /\
   w' = w.drew.alloc (.cells (Builtin.zeroCells z.cells n ++ Builtin.zeroCells z.cells (grownCap w n 0 5 - n)) 5):=by
 have h1 : ¬ ((n : Int) < 0):=by omega
 have h4 : (n : Int) > 0:=by omega
 have hw0 : wrap64 (n : Int) = (n : Int):=by unfold wrap64; omega
 have hrz : ∀ ty,(Builtin.append_ #[57,3] ty #[.slice base 0 0,.int .i64 (n : Int)]).run Go.Proofs.Tryd.prog w =
   .ok (.slice (some ⟨w.heap.size,0,none⟩) n (grownCap w n 0 5)) (w.drew.alloc (.cells (Builtin.zeroCells z.cells n ++ Builtin.zeroCells z.cells (grownCap w n 0 5 - n)) 5)):=fun ty=>by
  have hold : (Builtin.firstCells i0.size 0 (.slice base 0 0)).run Go.Proofs.Tryd.prog w.drew = .ok ([] : List Value).toArray w.drew:=by
   cases base with
   | none=>exact run_firstCells_none w.drew i0.size 0 0 0
   | some a=>exact run_firstCells_some w.drew i0.size 0 a 0 0 [] (by simp) (fun j v hj=>by simp at hj)
  have h:=Lib.run_append_grow_zeros w 57 3 ty 5 i0 z .i64 .i64 (by kernel_rfl) (by kernel_rfl) hi0 hz0 base 0 0 [] hold n (by omega) hs0 (by omega) (by omega)
   (by omega) (by rw [Nat.zero_add]; exact growslice_fits hroom hbig)
  simpa using h
 go_enter Go.Proofs.Tryd.func87,Go.Proofs.Tryd.ntmps87
 go_wp2_with (at_builtin; refine Lib.wpList_append_run _ rfl _ _ _ _ rfl _ _ rfl rfl _ _ (hrz _) ?_)
 all_goals (go_ret; exact ⟨rfl,rfl⟩)
end

theorem z9s (z : Array Go.Value) (n : Nat) : (Go.Builtin.zeroCells z n).size = n * z.size:=by simp [Go.Builtin.zeroCells]

theorem z5x : ∀ {l : List Go.Value} {ds : List D},ofClosedL l = some ds -> l.length = ds.length
 | [],ds,h=>by simp [ofClosedL] at h; subst h; rfl
 | v :: l,ds,h=>by
  simp only [ofClosedL] at h
  split at h
  ·rename_i d r h1 h2
   simp only [Option.some.injEq] at h; subst h
   simp [z5x h2]
  ·simp at h

theorem growOk : GrowOk P 87 (E.ty 13).bytes (E.ty 13).size:=by
 obtain ⟨i0,hi0,hsz,hby,hz⟩:=(types 5 13 rfl).info
 obtain ⟨z,hz0,hzl,_⟩:=hz (by decide) (by decide)
 have hzs : z.cells.size = (E.ty 13).size:=by
  have:=z5x hzl
  rw [Array.length_toList] at this
  rw [this]; decide
 have hpos : 0 < i0.size:=by rw [hsz]; decide
 rw [<- hsz,<- hby]
 constructor
 ·intro base w
  exact zkj base w
 ·intro base n w hn hb hn2
  have:=zkk i0 z hi0 hz0 hpos base n w hn hb hn2
  have hG:=Go.grownCap_ge w n 0 5
  generalize Go.grownCap w n 0 5 = G at this hG
  refine this.mono ?_
  rintro e w' ⟨rfl,rfl⟩
  refine ⟨G,5,_,?_,rfl,rfl,⟨rfl,rfl,rfl,Nat.le_succ _⟩⟩
  simp only [Array.size_append,z9s,hzs,hsz]
  rw [<- Nat.add_mul,show n + (G - n) = G from by omega]

theorem l87 : Hatch P E T F (28,0) 87 384:=zhn (c:=30) (i:=2) (e:=13) (G:=f384) rfl rfl rfl rfl growOk


def sortRen : Go.Shelf.Ren:={ f:=fun | 6=>53 | 15=>82 | 14=>81 | 28=>122 | 29=>123 | 20=>114 | 21=>115 | 22=>116 | 23=>117 | 24=>118 | 25=>119 | 26=>120 | 27=>121 | 46=>140 | 47=>141 | 48=>142 | 49=>143 | 50=>144 | 57=>150 | n=>n,t:=fun | 22=>39 | 24=>25 | 25=>99 | 3=>3 | 39=>139 | 0=>0 | 53=>142 | 55=>147 | 4=>4 | 46=>181 | 45=>180 | 50=>185 | 5=>5 | 9=>9 | 66=>202 | 70=>205 | 76=>212 | 77=>213 | n=>n,g:=fun n=>n }
set_option maxRecDepth 100000 in
theorem sortL : Go.Proofs.SlLaysF0.n6 P sortRen where
 mixed:=mixed
 f6:=⟨ "slices.SortFunc[[]overflight/api.Account,overflight/api.Account]",by decide,Go.Proofs.Tryd.func53.trans (congrArg some (by kernel_rfl))⟩
 f14:=⟨ "slices.pdqsortCmpFunc[overflight/api.Account]",by decide,Go.Proofs.Tryd.func81.trans (congrArg some (by kernel_rfl))⟩
 f15:=Go.Proofs.Tryd.func82.trans (congrArg some (by kernel_rfl))
 f20:=⟨ "slices.insertionSortCmpFunc[overflight/api.Account]",by decide,Go.Proofs.Tryd.func114.trans (congrArg some (by kernel_rfl))⟩
 f21:=⟨ "slices.heapSortCmpFunc[overflight/api.Account]",by decide,Go.Proofs.Tryd.func115.trans (congrArg some (by kernel_rfl))⟩
 f22:=⟨ "slices.breakPatternsCmpFunc[overflight/api.Account]",by decide,Go.Proofs.Tryd.func116.trans (congrArg some (by kernel_rfl))⟩
 f23:=⟨ "slices.choosePivotCmpFunc[overflight/api.Account]",by decide,Go.Proofs.Tryd.func117.trans (congrArg some (by kernel_rfl))⟩
 f24:=⟨ "slices.reverseRangeCmpFunc[overflight/api.Account]",by decide,Go.Proofs.Tryd.func118.trans (congrArg some (by kernel_rfl))⟩
 f25:=⟨ "slices.partialInsertionSortCmpFunc[overflight/api.Account]",by decide,Go.Proofs.Tryd.func119.trans (congrArg some (by kernel_rfl))⟩
 f26:=⟨ "slices.partitionEqualCmpFunc[overflight/api.Account]",by decide,Go.Proofs.Tryd.func120.trans (congrArg some (by kernel_rfl))⟩
 f27:=⟨ "slices.partitionCmpFunc[overflight/api.Account]",by decide,Go.Proofs.Tryd.func121.trans (congrArg some (by kernel_rfl))⟩
 f28:=Go.Proofs.Tryd.func122.trans (congrArg some (by kernel_rfl))
 f29:=Go.Proofs.Tryd.func123.trans (congrArg some (by kernel_rfl))
 f46:=⟨ "slices.siftDownCmpFunc[overflight/api.Account]",by decide,Go.Proofs.Tryd.func140.trans (congrArg some (by kernel_rfl))⟩
 f47:=Go.Proofs.Tryd.func141.trans (congrArg some (by kernel_rfl))
 f48:=Go.Proofs.Tryd.func142.trans (congrArg some (by kernel_rfl))
 f49:=⟨ "slices.medianAdjacentCmpFunc[overflight/api.Account]",by decide,Go.Proofs.Tryd.func143.trans (congrArg some (by kernel_rfl))⟩
 f50:=⟨ "slices.medianCmpFunc[overflight/api.Account]",by decide,Go.Proofs.Tryd.func144.trans (congrArg some (by kernel_rfl))⟩
 f57:=⟨ "slices.order2CmpFunc[overflight/api.Account]",by decide,Go.Proofs.Tryd.func150.trans (congrArg some (by kernel_rfl))⟩
 t0:=Go.Proofs.Tryd.underlying0
 a0:=Go.Proofs.Tryd.isAgg0
 z0:=Go.Proofs.Tryd.sizeOf0
 v0:=Go.Proofs.Tryd.zeroValue0
 t3:=Go.Proofs.Tryd.underlying3
 a3:=Go.Proofs.Tryd.isAgg3
 z3:=Go.Proofs.Tryd.sizeOf3
 v3:=Go.Proofs.Tryd.zeroValue3
 t4:=Go.Proofs.Tryd.underlying4
 a4:=Go.Proofs.Tryd.isAgg4
 z4:=Go.Proofs.Tryd.sizeOf4
 v4:=Go.Proofs.Tryd.zeroValue4
 t5:=Go.Proofs.Tryd.underlying5
 a5:=Go.Proofs.Tryd.isAgg5
 z5:=Go.Proofs.Tryd.sizeOf5
 v5:=Go.Proofs.Tryd.zeroValue5
 t9:=Go.Proofs.Tryd.underlying9
 a9:=Go.Proofs.Tryd.isAgg9
 z9:=Go.Proofs.Tryd.sizeOf9
 v9:=Go.Proofs.Tryd.zeroValue9
 t22:=Go.Proofs.Tryd.underlying39
 a22:=Go.Proofs.Tryd.isAgg39
 z22:=Go.Proofs.Tryd.sizeOf39
 v22:=Go.Proofs.Tryd.zeroValue39
 t25:=Go.Proofs.Tryd.underlying99
 a25:=Go.Proofs.Tryd.isAgg99
 z25:=Go.Proofs.Tryd.sizeOf99
 v25:=Go.Proofs.Tryd.zeroValue99
 t39:=Go.Proofs.Tryd.underlying139
 a39:=Go.Proofs.Tryd.isAgg139
 z39:=Go.Proofs.Tryd.sizeOf139
 v39:=Go.Proofs.Tryd.zeroValue139
 t45:=Go.Proofs.Tryd.underlying180
 a45:=Go.Proofs.Tryd.isAgg180
 z45:=Go.Proofs.Tryd.sizeOf180
 v45:=Go.Proofs.Tryd.zeroValue180
 t46:=Go.Proofs.Tryd.underlying181
 a46:=Go.Proofs.Tryd.isAgg181
 z46:=Go.Proofs.Tryd.sizeOf181
 v46:=Go.Proofs.Tryd.zeroValue181
 t50:=Go.Proofs.Tryd.underlying185
 a50:=Go.Proofs.Tryd.isAgg185
 z50:=Go.Proofs.Tryd.sizeOf185
 v50:=Go.Proofs.Tryd.zeroValue185
 t53:=Go.Proofs.Tryd.underlying142
 a53:=Go.Proofs.Tryd.isAgg142
 z53:=Go.Proofs.Tryd.sizeOf142
 v53:=Go.Proofs.Tryd.zeroValue142
 t55:=Go.Proofs.Tryd.underlying147
 a55:=Go.Proofs.Tryd.isAgg147
 z55:=Go.Proofs.Tryd.sizeOf147
 v55:=Go.Proofs.Tryd.zeroValue147
 t66:=Go.Proofs.Tryd.underlying202
 a66:=Go.Proofs.Tryd.isAgg202
 z66:=Go.Proofs.Tryd.sizeOf202
 v66:=Go.Proofs.Tryd.zeroValue202
 t70:=Go.Proofs.Tryd.underlying205
 a70:=Go.Proofs.Tryd.isAgg205
 z70:=Go.Proofs.Tryd.sizeOf205
 v70:=Go.Proofs.Tryd.zeroValue205
 t76:=Go.Proofs.Tryd.underlying212
 a76:=Go.Proofs.Tryd.isAgg212
 z76:=Go.Proofs.Tryd.sizeOf212
 v76:=Go.Proofs.Tryd.zeroValue212
 t77:=Go.Proofs.Tryd.underlying213
 a77:=Go.Proofs.Tryd.isAgg213
 z77:=Go.Proofs.Tryd.sizeOf213
 v77:=Go.Proofs.Tryd.zeroValue213
def flA : List (Nat × Nat):=[(54,362),(83,105),(84,74),(103,386),(124,107)]
def FA : Phi:=look flA
theorem fnsOkA : FnsOk P FA:=zft (by kernel_rfl)
theorem a54 : FnL P T FA 54 f362:=zi Go.Proofs.Tryd.func54 (by kernel_rfl) (by kernel_rfl)
theorem a83 : FnL P T FA 83 f105:=zi Go.Proofs.Tryd.func83 (by kernel_rfl) (by kernel_rfl)
theorem a84 : FnL P T FA 84 f74:=zi Go.Proofs.Tryd.func84 (by kernel_rfl) (by kernel_rfl)
theorem a103 : FnL P T FA 103 f386:=zi Go.Proofs.Tryd.func103 (by kernel_rfl) (by kernel_rfl)
theorem a124 : FnL P T FA 124 f107:=zi Go.Proofs.Tryd.func124 (by kernel_rfl) (by kernel_rfl)
theorem tieA : Tie P E T FA:=zp8 (pt:=(28,0)) types mixed fnsOkA (allc (zb a54 rfl) (allc (zb a83 rfl) (allc (zb a84 rfl) (allc (zb a103 rfl) (allc (zb a124 rfl) (alln))))))
theorem zu1 (a b c d : Int) : orI [cmpI a c,cmpI b d] = cfP (a,b) (c,d):=by
 unfold cfP cmpI
 simp only [orI]
 repeat' split
 all_goals first | rfl | omega
theorem cmpOk54 : CmpOk P 54:=CmpOk.of_sim tieA (g:=54) (g':=362) rfl fun a b c d=>by
 rw [<- zu1]
 exact z6i (r362a a b c d)
theorem cmpOk103 : CmpOk P 103:=CmpOk.of_sim tieA (g:=103) (g':=386) rfl fun a b c d=>by
 rw [<- zu1]
 exact z6i (r386a a b c d)
theorem cmpN (g k : Nat) (h : F g = some k) (hk : [362,386].contains k = true) : g = 54 \/ g = 103:=by
 have h1:=z60 h
 have h2 : (fl.all fun p=>![362,386].contains p.2 || p.1 == 54 || p.1 == 103) = true:=by decide +kernel
 have h3:=List.all_eq_true.1 h2 _ h1
 simp only [hk,Bool.not_true,Bool.false_or] at h3
 simpa using h3
theorem l53 : Hatch P E T F (28,0) 53 361:=zgi (p:=0) (cmp:=[362,386]) (G:=f361) rfl rfl rfl rfl
 (fun g k h hk=>by
  rcases cmpN g k h hk with rfl | rfl
  ·exact SortOk.of sortL rfl Go.Proofs.Tryd.isAgg25 Go.Proofs.Tryd.sizeOf25 cmpOk54
  ·exact SortOk.of sortL rfl Go.Proofs.Tryd.isAgg25 Go.Proofs.Tryd.sizeOf25 cmpOk103)
 (fun p cap fv w=>Go.Proofs.AnyF.slices_SortFunc_none sortL p cap fv w)

theorem l48 : ∀ n,StatAt P (CLk T F true) F (runS E (dC E n) 356) 48:=zi2 (c:=70) (fn:=Go.Proofs.Tryd.f48) (code:=Go.Proofs.Tryd.f48.body.getD .skip) types fnsOk rfl Go.Proofs.Tryd.func48 rfl rfl rfl (by kernel_rfl)

theorem tie : Tie P E T F:=zp8 (pt:=(28,0)) types mixed fnsOk (allc (zb l8 rfl) (allc (zb l14 rfl) (allc (zb l16 rfl) (allc (zb l18 rfl) (allc (zb l21 rfl) (allc (zb l22 rfl) (allc (zb l23 rfl) (allc (zb l24 rfl) (allc (zb l26 rfl) (allc (zb l27 rfl) (allc (zb l29 rfl) (allc (zb l30 rfl) (allc (zb l45 rfl) (allc (zb l46 rfl) (allc (zb l47 rfl) (allc (zho l48) (allc (zb l51 rfl) (allc (zaf l53) (allc (zb l54 rfl) (allc (zb l55 rfl) (allc (zb l56 rfl) (allc (zb l57 rfl) (allc (zb l58 rfl) (allc (zb l59 rfl) (allc (zb l80 rfl) (allc (zb l83 rfl) (allc (zb l84 rfl) (allc (zb l85 rfl) (allc (zb l86 rfl) (allc (zaf l87) (allc (zb l88 rfl) (allc (zb l89 rfl) (allc (zb l103 rfl) (allc (zb l124 rfl) (allc (zb l125 rfl) (allc (zb l126 rfl) (allc (zb l127 rfl) (allc (zb l128 rfl) (allc (zb l129 rfl) (allc (zb l130 rfl) (allc (zb l131 rfl) (allc (zb l132 rfl) (allc (zb l133 rfl) (alln))))))))))))))))))))))))))))))))))))))))))))

end Dv.Tryd
