/- Texts that a proof of this claim uses, joined: Dv.LinkTry. -/
import Derived.Test.YtffnaiofjjgcgaaDvb
import Derived.Test.YtffnaiofjjgcgaaCode
import Derived.Test.YtffnaiofjjgcgaaChecked
import Derived.KernelRfl
set_option linter.all false
/- The tie of this program to the short code: printed by program. -/
namespace Dv.Try
open Go (Program)

noncomputable abbrev P : Program := Go.Proofs.Try.prog

def tl : List (Nat × Nat) := [(3, 2), (4, 7), (5, 13), (22, 10), (23, 9), (24, 14), (26, 0), (27, 6), (28, 1), (31, 3), (36, 4), (40, 5), (47, 8), (56, 11), (58, 12), (70, 16), (72, 15), (73, 18), (75, 17), (78, 20), (80, 19), (101, 21), (111, 22), (116, 23), (117, 24), (121, 25), (136, 26), (150, 27)]

def fl : List (Nat × Nat) := [(14, 43), (15, 47), (16, 48), (17, 49), (18, 50), (25, 2), (35, 15), (38, 19), (39, 20), (48, 35), (49, 36), (50, 37), (52, 39), (54, 41), (55, 42), (56, 44), (57, 45), (58, 46), (64, 61), (70, 67), (72, 69), (73, 70), (74, 71), (75, 72), (76, 73), (77, 74), (78, 75), (79, 76), (81, 78), (82, 79), (84, 81), (85, 82), (91, 88), (92, 89), (93, 90), (94, 91), (96, 93), (97, 112), (98, 94), (99, 95), (100, 96), (101, 97), (102, 98), (103, 99), (104, 100), (110, 105), (111, 106), (112, 107), (114, 109), (117, 113), (118, 116), (119, 114), (120, 115), (121, 117), (122, 118), (123, 119), (124, 120), (127, 124), (128, 125)]

def T : Phi := look tl
def F : Phi := look fl

theorem types : TAll P E T := tall_of (by kernel_rfl)
theorem mixed : P.follows .mixedOrders = true := by kernel_rfl
theorem fnsOk : FnsOk P F := fnsOk_of (by kernel_rfl)

theorem l14 : FnL P T F 14 f43 := fnL_of Go.Proofs.Try.func14 (by kernel_rfl) (by kernel_rfl)
theorem l15 : FnL P T F 15 f47 := fnL_of Go.Proofs.Try.func15 (by kernel_rfl) (by kernel_rfl)
theorem l16 : FnL P T F 16 f48 := fnL_of Go.Proofs.Try.func16 (by kernel_rfl) (by kernel_rfl)
theorem l17 : FnL P T F 17 f49 := fnL_of Go.Proofs.Try.func17 (by kernel_rfl) (by kernel_rfl)
theorem l18 : FnL P T F 18 f50 := fnL_of Go.Proofs.Try.func18 (by kernel_rfl) (by kernel_rfl)
theorem l25 : FnL P T F 25 f2 := fnL_of Go.Proofs.Try.func25 (by kernel_rfl) (by kernel_rfl)
theorem l35 : FnL P T F 35 f15 := fnL_of Go.Proofs.Try.func35 (by kernel_rfl) (by kernel_rfl)
theorem l38 : FnL P T F 38 f19 := fnL_of Go.Proofs.Try.func38 (by kernel_rfl) (by kernel_rfl)
theorem l39 : FnL P T F 39 f20 := fnL_of Go.Proofs.Try.func39 (by kernel_rfl) (by kernel_rfl)
theorem l48 : FnL P T F 48 f35 := fnL_of Go.Proofs.Try.func48 (by kernel_rfl) (by kernel_rfl)
theorem l49 : FnL P T F 49 f36 := fnL_of Go.Proofs.Try.func49 (by kernel_rfl) (by kernel_rfl)
theorem l50 : FnL P T F 50 f37 := fnL_of Go.Proofs.Try.func50 (by kernel_rfl) (by kernel_rfl)
theorem l52 : FnL P T F 52 f39 := fnL_of Go.Proofs.Try.func52 (by kernel_rfl) (by kernel_rfl)
theorem l54 : FnL P T F 54 f41 := fnL_of Go.Proofs.Try.func54 (by kernel_rfl) (by kernel_rfl)
theorem l55 : FnL P T F 55 f42 := fnL_of Go.Proofs.Try.func55 (by kernel_rfl) (by kernel_rfl)
theorem l56 : FnL P T F 56 f44 := fnL_of Go.Proofs.Try.func56 (by kernel_rfl) (by kernel_rfl)
theorem l57 : FnL P T F 57 f45 := fnL_of Go.Proofs.Try.func57 (by kernel_rfl) (by kernel_rfl)
theorem l58 : FnL P T F 58 f46 := fnL_of Go.Proofs.Try.func58 (by kernel_rfl) (by kernel_rfl)
theorem l64 : FnL P T F 64 f61 := fnL_of Go.Proofs.Try.func64 (by kernel_rfl) (by kernel_rfl)
theorem l70 : FnL P T F 70 f67 := fnL_of Go.Proofs.Try.func70 (by kernel_rfl) (by kernel_rfl)
theorem l72 : FnL P T F 72 f69 := fnL_of Go.Proofs.Try.func72 (by kernel_rfl) (by kernel_rfl)
theorem l73 : FnL P T F 73 f70 := fnL_of Go.Proofs.Try.func73 (by kernel_rfl) (by kernel_rfl)
theorem l74 : FnL P T F 74 f71 := fnL_of Go.Proofs.Try.func74 (by kernel_rfl) (by kernel_rfl)
theorem l75 : FnL P T F 75 f72 := fnL_of Go.Proofs.Try.func75 (by kernel_rfl) (by kernel_rfl)
theorem l76 : FnL P T F 76 f73 := fnL_of Go.Proofs.Try.func76 (by kernel_rfl) (by kernel_rfl)
theorem l77 : FnL P T F 77 f74 := fnL_of Go.Proofs.Try.func77 (by kernel_rfl) (by kernel_rfl)
theorem l78 : FnL P T F 78 f75 := fnL_of Go.Proofs.Try.func78 (by kernel_rfl) (by kernel_rfl)
theorem l79 : FnL P T F 79 f76 := fnL_of Go.Proofs.Try.func79 (by kernel_rfl) (by kernel_rfl)
theorem l81 : FnL P T F 81 f78 := fnL_of Go.Proofs.Try.func81 (by kernel_rfl) (by kernel_rfl)
theorem l82 : FnL P T F 82 f79 := fnL_of Go.Proofs.Try.func82 (by kernel_rfl) (by kernel_rfl)
theorem l84 : FnL P T F 84 f81 := fnL_of Go.Proofs.Try.func84 (by kernel_rfl) (by kernel_rfl)
theorem l85 : FnL P T F 85 f82 := fnL_of Go.Proofs.Try.func85 (by kernel_rfl) (by kernel_rfl)
theorem l91 : FnL P T F 91 f88 := fnL_of Go.Proofs.Try.func91 (by kernel_rfl) (by kernel_rfl)
theorem l92 : FnL P T F 92 f89 := fnL_of Go.Proofs.Try.func92 (by kernel_rfl) (by kernel_rfl)
theorem l93 : FnL P T F 93 f90 := fnL_of Go.Proofs.Try.func93 (by kernel_rfl) (by kernel_rfl)
theorem l94 : FnL P T F 94 f91 := fnL_of Go.Proofs.Try.func94 (by kernel_rfl) (by kernel_rfl)
theorem l96 : FnL P T F 96 f93 := fnL_of Go.Proofs.Try.func96 (by kernel_rfl) (by kernel_rfl)
theorem l97 : FnL P T F 97 f112 := fnL_of Go.Proofs.Try.func97 (by kernel_rfl) (by kernel_rfl)
theorem l98 : FnL P T F 98 f94 := fnL_of Go.Proofs.Try.func98 (by kernel_rfl) (by kernel_rfl)
theorem l99 : FnL P T F 99 f95 := fnL_of Go.Proofs.Try.func99 (by kernel_rfl) (by kernel_rfl)
theorem l101 : FnL P T F 101 f97 := fnL_of Go.Proofs.Try.func101 (by kernel_rfl) (by kernel_rfl)
theorem l102 : FnL P T F 102 f98 := fnL_of Go.Proofs.Try.func102 (by kernel_rfl) (by kernel_rfl)
theorem l103 : FnL P T F 103 f99 := fnL_of Go.Proofs.Try.func103 (by kernel_rfl) (by kernel_rfl)
theorem l104 : FnL P T F 104 f100 := fnL_of Go.Proofs.Try.func104 (by kernel_rfl) (by kernel_rfl)
theorem l110 : FnL P T F 110 f105 := fnL_of Go.Proofs.Try.func110 (by kernel_rfl) (by kernel_rfl)
theorem l111 : FnL P T F 111 f106 := fnL_of Go.Proofs.Try.func111 (by kernel_rfl) (by kernel_rfl)
theorem l112 : FnL P T F 112 f107 := fnL_of Go.Proofs.Try.func112 (by kernel_rfl) (by kernel_rfl)
theorem l114 : FnL P T F 114 f109 := fnL_of Go.Proofs.Try.func114 (by kernel_rfl) (by kernel_rfl)
theorem l117 : FnL P T F 117 f113 := fnL_of Go.Proofs.Try.func117 (by kernel_rfl) (by kernel_rfl)
theorem l118 : FnL P T F 118 f116 := fnL_of Go.Proofs.Try.func118 (by kernel_rfl) (by kernel_rfl)
theorem l119 : FnL P T F 119 f114 := fnL_of Go.Proofs.Try.func119 (by kernel_rfl) (by kernel_rfl)
theorem l120 : FnL P T F 120 f115 := fnL_of Go.Proofs.Try.func120 (by kernel_rfl) (by kernel_rfl)
theorem l121 : FnL P T F 121 f117 := fnL_of Go.Proofs.Try.func121 (by kernel_rfl) (by kernel_rfl)
theorem l122 : FnL P T F 122 f118 := fnL_of Go.Proofs.Try.func122 (by kernel_rfl) (by kernel_rfl)
theorem l123 : FnL P T F 123 f119 := fnL_of Go.Proofs.Try.func123 (by kernel_rfl) (by kernel_rfl)
theorem l124 : FnL P T F 124 f120 := fnL_of Go.Proofs.Try.func124 (by kernel_rfl) (by kernel_rfl)
theorem l127 : FnL P T F 127 f124 := fnL_of Go.Proofs.Try.func127 (by kernel_rfl) (by kernel_rfl)
theorem l128 : FnL P T F 128 f125 := fnL_of Go.Proofs.Try.func128 (by kernel_rfl) (by kernel_rfl)
theorem l100 : ∀ n, StatAt P (CLk T F true) F (runS E (dC E n) 96) 100 := clone_stat (c := 6) (fn := Go.Proofs.Try.f100) (code := Go.Proofs.Try.f100.body.getD .skip) types fnsOk rfl Go.Proofs.Try.func100 rfl rfl rfl (by kernel_rfl)

theorem tie : Tie P E T F := tie_of types mixed fnsOk (allc (good_of l14 rfl) (allc (good_of l15 rfl) (allc (good_of l16 rfl) (allc (good_of l17 rfl) (allc (good_of l18 rfl) (allc (good_of l25 rfl) (allc (good_of l35 rfl) (allc (good_of l38 rfl) (allc (good_of l39 rfl) (allc (good_of l48 rfl) (allc (good_of l49 rfl) (allc (good_of l50 rfl) (allc (good_of l52 rfl) (allc (good_of l54 rfl) (allc (good_of l55 rfl) (allc (good_of l56 rfl) (allc (good_of l57 rfl) (allc (good_of l58 rfl) (allc (good_of l64 rfl) (allc (good_of l70 rfl) (allc (good_of l72 rfl) (allc (good_of l73 rfl) (allc (good_of l74 rfl) (allc (good_of l75 rfl) (allc (good_of l76 rfl) (allc (good_of l77 rfl) (allc (good_of l78 rfl) (allc (good_of l79 rfl) (allc (good_of l81 rfl) (allc (good_of l82 rfl) (allc (good_of l84 rfl) (allc (good_of l85 rfl) (allc (good_of l91 rfl) (allc (good_of l92 rfl) (allc (good_of l93 rfl) (allc (good_of l94 rfl) (allc (good_of l96 rfl) (allc (good_of l97 rfl) (allc (good_of l98 rfl) (allc (good_of l99 rfl) (allc (good_clone l100) (allc (good_of l101 rfl) (allc (good_of l102 rfl) (allc (good_of l103 rfl) (allc (good_of l104 rfl) (allc (good_of l110 rfl) (allc (good_of l111 rfl) (allc (good_of l112 rfl) (allc (good_of l114 rfl) (allc (good_of l117 rfl) (allc (good_of l118 rfl) (allc (good_of l119 rfl) (allc (good_of l120 rfl) (allc (good_of l121 rfl) (allc (good_of l122 rfl) (allc (good_of l123 rfl) (allc (good_of l124 rfl) (allc (good_of l127 rfl) (allc (good_of l128 rfl) (alln))))))))))))))))))))))))))))))))))))))))))))))))))))))))))))

end Dv.Try
