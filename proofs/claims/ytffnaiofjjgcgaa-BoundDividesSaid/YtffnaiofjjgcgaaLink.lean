/- Texts that a proof of this claim uses, joined: Dv.LinkTry. -/
import Derived.Test.YtffnaiofjjgcgaaDvb
import Derived.Test.YtffnaiofjjgcgaaCode
import Derived.Test.YtffnaiofjjgcgaaChecked
import Derived.KernelRfl
set_option linter.all false
/- The tie of this program to the short code: printed by program. -/
namespace Dv.Try
open Go (Program)

noncomputable abbrev P : Program := Go.Proofs.Try.prog

def tl : List (Nat × Nat) := [(3, 2), (4, 7), (5, 13), (22, 10), (23, 9), (24, 14), (26, 0), (27, 6), (28, 1), (31, 3), (36, 4), (40, 5), (47, 8), (56, 11), (58, 12), (70, 16), (72, 15), (73, 18), (75, 17), (78, 20), (80, 19), (101, 21), (111, 22), (116, 23), (117, 24), (121, 25), (136, 26), (150, 27)]

def fl : List (Nat × Nat) := [(3, 0), (4, 6), (5, 12), (6, 13), (20, 53), (21, 54), (22, 56), (24, 1), (25, 2), (26, 3), (27, 4), (28, 5), (29, 7), (30, 8), (31, 9), (32, 10), (33, 11), (34, 14), (35, 15), (37, 18), (38, 19), (40, 22), (47, 30), (60, 55), (61, 57), (63, 60), (64, 61), (65, 62), (66, 63), (67, 64), (68, 65), (69, 66), (70, 67), (71, 68), (72, 69), (73, 70), (74, 71), (75, 72), (76, 73), (77, 74), (78, 75), (79, 76), (81, 78), (82, 79), (83, 80), (84, 81), (85, 82), (86, 83), (87, 84), (90, 87), (106, 102), (107, 122), (108, 103), (109, 104), (110, 105), (111, 106), (112, 107), (113, 108), (114, 109), (115, 110), (126, 123)]

def T : Phi := look tl
def F : Phi := look fl

theorem types : TAll P E T := tall_of (by kernel_rfl)
theorem mixed : P.follows .mixedOrders = true := by kernel_rfl
theorem fnsOk : FnsOk P F := fnsOk_of (by kernel_rfl)

theorem l3 : FnL P T F 3 f0 := fnL_of Go.Proofs.Try.func3 (by kernel_rfl) (by kernel_rfl)
theorem l4 : FnL P T F 4 f6 := fnL_of Go.Proofs.Try.func4 (by kernel_rfl) (by kernel_rfl)
theorem l5 : FnL P T F 5 f12 := fnL_of Go.Proofs.Try.func5 (by kernel_rfl) (by kernel_rfl)
theorem l6 : FnL P T F 6 f13 := fnL_of Go.Proofs.Try.func6 (by kernel_rfl) (by kernel_rfl)
theorem l20 : FnL P T F 20 f53 := fnL_of Go.Proofs.Try.func20 (by kernel_rfl) (by kernel_rfl)
theorem l21 : FnL P T F 21 f54 := fnL_of Go.Proofs.Try.func21 (by kernel_rfl) (by kernel_rfl)
theorem l22 : FnL P T F 22 f56 := fnL_of Go.Proofs.Try.func22 (by kernel_rfl) (by kernel_rfl)
theorem l24 : FnL P T F 24 f1 := fnL_of Go.Proofs.Try.func24 (by kernel_rfl) (by kernel_rfl)
theorem l25 : FnL P T F 25 f2 := fnL_of Go.Proofs.Try.func25 (by kernel_rfl) (by kernel_rfl)
theorem l26 : FnL P T F 26 f3 := fnL_of Go.Proofs.Try.func26 (by kernel_rfl) (by kernel_rfl)
theorem l27 : FnL P T F 27 f4 := fnL_of Go.Proofs.Try.func27 (by kernel_rfl) (by kernel_rfl)
theorem l28 : FnL P T F 28 f5 := fnL_of Go.Proofs.Try.func28 (by kernel_rfl) (by kernel_rfl)
theorem l29 : FnL P T F 29 f7 := fnL_of Go.Proofs.Try.func29 (by kernel_rfl) (by kernel_rfl)
theorem l30 : FnL P T F 30 f8 := fnL_of Go.Proofs.Try.func30 (by kernel_rfl) (by kernel_rfl)
theorem l31 : FnL P T F 31 f9 := fnL_of Go.Proofs.Try.func31 (by kernel_rfl) (by kernel_rfl)
theorem l32 : FnL P T F 32 f10 := fnL_of Go.Proofs.Try.func32 (by kernel_rfl) (by kernel_rfl)
theorem l33 : FnL P T F 33 f11 := fnL_of Go.Proofs.Try.func33 (by kernel_rfl) (by kernel_rfl)
theorem l34 : FnL P T F 34 f14 := fnL_of Go.Proofs.Try.func34 (by kernel_rfl) (by kernel_rfl)
theorem l35 : FnL P T F 35 f15 := fnL_of Go.Proofs.Try.func35 (by kernel_rfl) (by kernel_rfl)
theorem l37 : FnL P T F 37 f18 := fnL_of Go.Proofs.Try.func37 (by kernel_rfl) (by kernel_rfl)
theorem l38 : FnL P T F 38 f19 := fnL_of Go.Proofs.Try.func38 (by kernel_rfl) (by kernel_rfl)
theorem l40 : FnL P T F 40 f22 := fnL_of Go.Proofs.Try.func40 (by kernel_rfl) (by kernel_rfl)
theorem l47 : FnL P T F 47 f30 := fnL_of Go.Proofs.Try.func47 (by kernel_rfl) (by kernel_rfl)
theorem l60 : FnL P T F 60 f55 := fnL_of Go.Proofs.Try.func60 (by kernel_rfl) (by kernel_rfl)
theorem l61 : FnL P T F 61 f57 := fnL_of Go.Proofs.Try.func61 (by kernel_rfl) (by kernel_rfl)
theorem l63 : FnL P T F 63 f60 := fnL_of Go.Proofs.Try.func63 (by kernel_rfl) (by kernel_rfl)
theorem l64 : FnL P T F 64 f61 := fnL_of Go.Proofs.Try.func64 (by kernel_rfl) (by kernel_rfl)
theorem l65 : FnL P T F 65 f62 := fnL_of Go.Proofs.Try.func65 (by kernel_rfl) (by kernel_rfl)
theorem l66 : FnL P T F 66 f63 := fnL_of Go.Proofs.Try.func66 (by kernel_rfl) (by kernel_rfl)
theorem l67 : FnL P T F 67 f64 := fnL_of Go.Proofs.Try.func67 (by kernel_rfl) (by kernel_rfl)
theorem l68 : FnL P T F 68 f65 := fnL_of Go.Proofs.Try.func68 (by kernel_rfl) (by kernel_rfl)
theorem l69 : FnL P T F 69 f66 := fnL_of Go.Proofs.Try.func69 (by kernel_rfl) (by kernel_rfl)
theorem l70 : FnL P T F 70 f67 := fnL_of Go.Proofs.Try.func70 (by kernel_rfl) (by kernel_rfl)
theorem l71 : FnL P T F 71 f68 := fnL_of Go.Proofs.Try.func71 (by kernel_rfl) (by kernel_rfl)
theorem l72 : FnL P T F 72 f69 := fnL_of Go.Proofs.Try.func72 (by kernel_rfl) (by kernel_rfl)
theorem l73 : FnL P T F 73 f70 := fnL_of Go.Proofs.Try.func73 (by kernel_rfl) (by kernel_rfl)
theorem l74 : FnL P T F 74 f71 := fnL_of Go.Proofs.Try.func74 (by kernel_rfl) (by kernel_rfl)
theorem l75 : FnL P T F 75 f72 := fnL_of Go.Proofs.Try.func75 (by kernel_rfl) (by kernel_rfl)
theorem l76 : FnL P T F 76 f73 := fnL_of Go.Proofs.Try.func76 (by kernel_rfl) (by kernel_rfl)
theorem l77 : FnL P T F 77 f74 := fnL_of Go.Proofs.Try.func77 (by kernel_rfl) (by kernel_rfl)
theorem l78 : FnL P T F 78 f75 := fnL_of Go.Proofs.Try.func78 (by kernel_rfl) (by kernel_rfl)
theorem l79 : FnL P T F 79 f76 := fnL_of Go.Proofs.Try.func79 (by kernel_rfl) (by kernel_rfl)
theorem l81 : FnL P T F 81 f78 := fnL_of Go.Proofs.Try.func81 (by kernel_rfl) (by kernel_rfl)
theorem l82 : FnL P T F 82 f79 := fnL_of Go.Proofs.Try.func82 (by kernel_rfl) (by kernel_rfl)
theorem l83 : FnL P T F 83 f80 := fnL_of Go.Proofs.Try.func83 (by kernel_rfl) (by kernel_rfl)
theorem l84 : FnL P T F 84 f81 := fnL_of Go.Proofs.Try.func84 (by kernel_rfl) (by kernel_rfl)
theorem l85 : FnL P T F 85 f82 := fnL_of Go.Proofs.Try.func85 (by kernel_rfl) (by kernel_rfl)
theorem l86 : FnL P T F 86 f83 := fnL_of Go.Proofs.Try.func86 (by kernel_rfl) (by kernel_rfl)
theorem l87 : FnL P T F 87 f84 := fnL_of Go.Proofs.Try.func87 (by kernel_rfl) (by kernel_rfl)
theorem l90 : FnL P T F 90 f87 := fnL_of Go.Proofs.Try.func90 (by kernel_rfl) (by kernel_rfl)
theorem l106 : FnL P T F 106 f102 := fnL_of Go.Proofs.Try.func106 (by kernel_rfl) (by kernel_rfl)
theorem l107 : FnL P T F 107 f122 := fnL_of Go.Proofs.Try.func107 (by kernel_rfl) (by kernel_rfl)
theorem l108 : FnL P T F 108 f103 := fnL_of Go.Proofs.Try.func108 (by kernel_rfl) (by kernel_rfl)
theorem l109 : FnL P T F 109 f104 := fnL_of Go.Proofs.Try.func109 (by kernel_rfl) (by kernel_rfl)
theorem l110 : FnL P T F 110 f105 := fnL_of Go.Proofs.Try.func110 (by kernel_rfl) (by kernel_rfl)
theorem l111 : FnL P T F 111 f106 := fnL_of Go.Proofs.Try.func111 (by kernel_rfl) (by kernel_rfl)
theorem l112 : FnL P T F 112 f107 := fnL_of Go.Proofs.Try.func112 (by kernel_rfl) (by kernel_rfl)
theorem l113 : FnL P T F 113 f108 := fnL_of Go.Proofs.Try.func113 (by kernel_rfl) (by kernel_rfl)
theorem l114 : FnL P T F 114 f109 := fnL_of Go.Proofs.Try.func114 (by kernel_rfl) (by kernel_rfl)
theorem l115 : FnL P T F 115 f110 := fnL_of Go.Proofs.Try.func115 (by kernel_rfl) (by kernel_rfl)
theorem l126 : FnL P T F 126 f123 := fnL_of Go.Proofs.Try.func126 (by kernel_rfl) (by kernel_rfl)

theorem tie : Tie P E T F := tie_of types mixed fnsOk (allc (good_of l3 rfl) (allc (good_of l4 rfl) (allc (good_of l5 rfl) (allc (good_of l6 rfl) (allc (good_of l20 rfl) (allc (good_of l21 rfl) (allc (good_of l22 rfl) (allc (good_of l24 rfl) (allc (good_of l25 rfl) (allc (good_of l26 rfl) (allc (good_of l27 rfl) (allc (good_of l28 rfl) (allc (good_of l29 rfl) (allc (good_of l30 rfl) (allc (good_of l31 rfl) (allc (good_of l32 rfl) (allc (good_of l33 rfl) (allc (good_of l34 rfl) (allc (good_of l35 rfl) (allc (good_of l37 rfl) (allc (good_of l38 rfl) (allc (good_of l40 rfl) (allc (good_of l47 rfl) (allc (good_of l60 rfl) (allc (good_of l61 rfl) (allc (good_of l63 rfl) (allc (good_of l64 rfl) (allc (good_of l65 rfl) (allc (good_of l66 rfl) (allc (good_of l67 rfl) (allc (good_of l68 rfl) (allc (good_of l69 rfl) (allc (good_of l70 rfl) (allc (good_of l71 rfl) (allc (good_of l72 rfl) (allc (good_of l73 rfl) (allc (good_of l74 rfl) (allc (good_of l75 rfl) (allc (good_of l76 rfl) (allc (good_of l77 rfl) (allc (good_of l78 rfl) (allc (good_of l79 rfl) (allc (good_of l81 rfl) (allc (good_of l82 rfl) (allc (good_of l83 rfl) (allc (good_of l84 rfl) (allc (good_of l85 rfl) (allc (good_of l86 rfl) (allc (good_of l87 rfl) (allc (good_of l90 rfl) (allc (good_of l106 rfl) (allc (good_of l107 rfl) (allc (good_of l108 rfl) (allc (good_of l109 rfl) (allc (good_of l110 rfl) (allc (good_of l111 rfl) (allc (good_of l112 rfl) (allc (good_of l113 rfl) (allc (good_of l114 rfl) (allc (good_of l115 rfl) (allc (good_of l126 rfl) (alln))))))))))))))))))))))))))))))))))))))))))))))))))))))))))))))

end Dv.Try
