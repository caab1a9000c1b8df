/- Texts that a proof of this claim uses, joined: Dv.LinkTry. -/
import Derived.Test.YtffnaiofjjgcgaaDvb
import Derived.Test.YtffnaiofjjgcgaaCode
import Derived.Test.YtffnaiofjjgcgaaChecked
import Derived.KernelRfl
set_option linter.all false
/- The tie of this program to the short code: printed by program. -/
namespace Dv.Try
open Go (Program)

noncomputable abbrev P : Program := Go.Proofs.Try.prog

def tl : List (Nat × Nat) := [(3, 2), (4, 7), (5, 13), (22, 10), (23, 9), (24, 14), (26, 0), (27, 6), (28, 1), (31, 3), (36, 4), (40, 5), (47, 8), (56, 11), (58, 12), (70, 16), (72, 15), (73, 18), (75, 17), (78, 20), (80, 19), (101, 21), (111, 22), (116, 23), (117, 24), (121, 25), (136, 26), (150, 27)]

def fl : List (Nat × Nat) := [(3, 0), (7, 16), (8, 21), (9, 29), (10, 31), (11, 32), (12, 33), (19, 51), (24, 1), (25, 2), (26, 3), (27, 4), (28, 5), (29, 7), (31, 9), (33, 11), (34, 14), (35, 15), (36, 17), (37, 18), (38, 19), (39, 20), (40, 22), (41, 23), (42, 24), (43, 25), (44, 26), (45, 27), (46, 28), (47, 30), (59, 52), (61, 57), (63, 60), (64, 61), (65, 62), (66, 63), (67, 64), (68, 65), (69, 66), (70, 67), (71, 68), (72, 69), (73, 70), (74, 71), (75, 72), (76, 73), (77, 74), (78, 75), (79, 76), (80, 77), (81, 78), (82, 79), (83, 80), (84, 81), (85, 82), (86, 83), (87, 84), (88, 85), (89, 86), (90, 87), (105, 101), (106, 102), (107, 122), (108, 103), (109, 104), (110, 105), (111, 106), (112, 107), (113, 108), (114, 109), (115, 110), (116, 111), (125, 121), (126, 123), (129, 126)]

def T : Phi := look tl
def F : Phi := look fl

theorem types : TAll P E T := tall_of (by kernel_rfl)
theorem mixed : P.follows .mixedOrders = true := by kernel_rfl
theorem fnsOk : FnsOk P F := fnsOk_of (by kernel_rfl)

theorem l3 : FnL P T F 3 f0 := fnL_of Go.Proofs.Try.func3 (by kernel_rfl) (by kernel_rfl)
theorem l7 : FnL P T F 7 f16 := fnL_of Go.Proofs.Try.func7 (by kernel_rfl) (by kernel_rfl)
theorem l8 : FnL P T F 8 f21 := fnL_of Go.Proofs.Try.func8 (by kernel_rfl) (by kernel_rfl)
theorem l9 : FnL P T F 9 f29 := fnL_of Go.Proofs.Try.func9 (by kernel_rfl) (by kernel_rfl)
theorem l10 : FnL P T F 10 f31 := fnL_of Go.Proofs.Try.func10 (by kernel_rfl) (by kernel_rfl)
theorem l11 : FnL P T F 11 f32 := fnL_of Go.Proofs.Try.func11 (by kernel_rfl) (by kernel_rfl)
theorem l12 : FnL P T F 12 f33 := fnL_of Go.Proofs.Try.func12 (by kernel_rfl) (by kernel_rfl)
theorem l19 : FnL P T F 19 f51 := fnL_of Go.Proofs.Try.func19 (by kernel_rfl) (by kernel_rfl)
theorem l24 : FnL P T F 24 f1 := fnL_of Go.Proofs.Try.func24 (by kernel_rfl) (by kernel_rfl)
theorem l25 : FnL P T F 25 f2 := fnL_of Go.Proofs.Try.func25 (by kernel_rfl) (by kernel_rfl)
theorem l26 : FnL P T F 26 f3 := fnL_of Go.Proofs.Try.func26 (by kernel_rfl) (by kernel_rfl)
theorem l27 : FnL P T F 27 f4 := fnL_of Go.Proofs.Try.func27 (by kernel_rfl) (by kernel_rfl)
theorem l28 : FnL P T F 28 f5 := fnL_of Go.Proofs.Try.func28 (by kernel_rfl) (by kernel_rfl)
theorem l29 : FnL P T F 29 f7 := fnL_of Go.Proofs.Try.func29 (by kernel_rfl) (by kernel_rfl)
theorem l31 : FnL P T F 31 f9 := fnL_of Go.Proofs.Try.func31 (by kernel_rfl) (by kernel_rfl)
theorem l33 : FnL P T F 33 f11 := fnL_of Go.Proofs.Try.func33 (by kernel_rfl) (by kernel_rfl)
theorem l34 : FnL P T F 34 f14 := fnL_of Go.Proofs.Try.func34 (by kernel_rfl) (by kernel_rfl)
theorem l35 : FnL P T F 35 f15 := fnL_of Go.Proofs.Try.func35 (by kernel_rfl) (by kernel_rfl)
theorem l36 : FnL P T F 36 f17 := fnL_of Go.Proofs.Try.func36 (by kernel_rfl) (by kernel_rfl)
theorem l37 : FnL P T F 37 f18 := fnL_of Go.Proofs.Try.func37 (by kernel_rfl) (by kernel_rfl)
theorem l38 : FnL P T F 38 f19 := fnL_of Go.Proofs.Try.func38 (by kernel_rfl) (by kernel_rfl)
theorem l39 : FnL P T F 39 f20 := fnL_of Go.Proofs.Try.func39 (by kernel_rfl) (by kernel_rfl)
theorem l40 : FnL P T F 40 f22 := fnL_of Go.Proofs.Try.func40 (by kernel_rfl) (by kernel_rfl)
theorem l41 : FnL P T F 41 f23 := fnL_of Go.Proofs.Try.func41 (by kernel_rfl) (by kernel_rfl)
theorem l42 : FnL P T F 42 f24 := fnL_of Go.Proofs.Try.func42 (by kernel_rfl) (by kernel_rfl)
theorem l43 : FnL P T F 43 f25 := fnL_of Go.Proofs.Try.func43 (by kernel_rfl) (by kernel_rfl)
theorem l44 : FnL P T F 44 f26 := fnL_of Go.Proofs.Try.func44 (by kernel_rfl) (by kernel_rfl)
theorem l45 : FnL P T F 45 f27 := fnL_of Go.Proofs.Try.func45 (by kernel_rfl) (by kernel_rfl)
theorem l46 : FnL P T F 46 f28 := fnL_of Go.Proofs.Try.func46 (by kernel_rfl) (by kernel_rfl)
theorem l47 : FnL P T F 47 f30 := fnL_of Go.Proofs.Try.func47 (by kernel_rfl) (by kernel_rfl)
theorem l59 : FnL P T F 59 f52 := fnL_of Go.Proofs.Try.func59 (by kernel_rfl) (by kernel_rfl)
theorem l61 : FnL P T F 61 f57 := fnL_of Go.Proofs.Try.func61 (by kernel_rfl) (by kernel_rfl)
theorem l63 : FnL P T F 63 f60 := fnL_of Go.Proofs.Try.func63 (by kernel_rfl) (by kernel_rfl)
theorem l64 : FnL P T F 64 f61 := fnL_of Go.Proofs.Try.func64 (by kernel_rfl) (by kernel_rfl)
theorem l65 : FnL P T F 65 f62 := fnL_of Go.Proofs.Try.func65 (by kernel_rfl) (by kernel_rfl)
theorem l66 : FnL P T F 66 f63 := fnL_of Go.Proofs.Try.func66 (by kernel_rfl) (by kernel_rfl)
theorem l67 : FnL P T F 67 f64 := fnL_of Go.Proofs.Try.func67 (by kernel_rfl) (by kernel_rfl)
theorem l68 : FnL P T F 68 f65 := fnL_of Go.Proofs.Try.func68 (by kernel_rfl) (by kernel_rfl)
theorem l69 : FnL P T F 69 f66 := fnL_of Go.Proofs.Try.func69 (by kernel_rfl) (by kernel_rfl)
theorem l70 : FnL P T F 70 f67 := fnL_of Go.Proofs.Try.func70 (by kernel_rfl) (by kernel_rfl)
theorem l71 : FnL P T F 71 f68 := fnL_of Go.Proofs.Try.func71 (by kernel_rfl) (by kernel_rfl)
theorem l72 : FnL P T F 72 f69 := fnL_of Go.Proofs.Try.func72 (by kernel_rfl) (by kernel_rfl)
theorem l73 : FnL P T F 73 f70 := fnL_of Go.Proofs.Try.func73 (by kernel_rfl) (by kernel_rfl)
theorem l74 : FnL P T F 74 f71 := fnL_of Go.Proofs.Try.func74 (by kernel_rfl) (by kernel_rfl)
theorem l75 : FnL P T F 75 f72 := fnL_of Go.Proofs.Try.func75 (by kernel_rfl) (by kernel_rfl)
theorem l76 : FnL P T F 76 f73 := fnL_of Go.Proofs.Try.func76 (by kernel_rfl) (by kernel_rfl)
theorem l77 : FnL P T F 77 f74 := fnL_of Go.Proofs.Try.func77 (by kernel_rfl) (by kernel_rfl)
theorem l78 : FnL P T F 78 f75 := fnL_of Go.Proofs.Try.func78 (by kernel_rfl) (by kernel_rfl)
theorem l79 : FnL P T F 79 f76 := fnL_of Go.Proofs.Try.func79 (by kernel_rfl) (by kernel_rfl)
theorem l80 : FnL P T F 80 f77 := fnL_of Go.Proofs.Try.func80 (by kernel_rfl) (by kernel_rfl)
theorem l81 : FnL P T F 81 f78 := fnL_of Go.Proofs.Try.func81 (by kernel_rfl) (by kernel_rfl)
theorem l82 : FnL P T F 82 f79 := fnL_of Go.Proofs.Try.func82 (by kernel_rfl) (by kernel_rfl)
theorem l83 : FnL P T F 83 f80 := fnL_of Go.Proofs.Try.func83 (by kernel_rfl) (by kernel_rfl)
theorem l84 : FnL P T F 84 f81 := fnL_of Go.Proofs.Try.func84 (by kernel_rfl) (by kernel_rfl)
theorem l85 : FnL P T F 85 f82 := fnL_of Go.Proofs.Try.func85 (by kernel_rfl) (by kernel_rfl)
theorem l86 : FnL P T F 86 f83 := fnL_of Go.Proofs.Try.func86 (by kernel_rfl) (by kernel_rfl)
theorem l87 : FnL P T F 87 f84 := fnL_of Go.Proofs.Try.func87 (by kernel_rfl) (by kernel_rfl)
theorem l88 : FnL P T F 88 f85 := fnL_of Go.Proofs.Try.func88 (by kernel_rfl) (by kernel_rfl)
theorem l89 : FnL P T F 89 f86 := fnL_of Go.Proofs.Try.func89 (by kernel_rfl) (by kernel_rfl)
theorem l90 : FnL P T F 90 f87 := fnL_of Go.Proofs.Try.func90 (by kernel_rfl) (by kernel_rfl)
theorem l105 : FnL P T F 105 f101 := fnL_of Go.Proofs.Try.func105 (by kernel_rfl) (by kernel_rfl)
theorem l106 : FnL P T F 106 f102 := fnL_of Go.Proofs.Try.func106 (by kernel_rfl) (by kernel_rfl)
theorem l107 : FnL P T F 107 f122 := fnL_of Go.Proofs.Try.func107 (by kernel_rfl) (by kernel_rfl)
theorem l108 : FnL P T F 108 f103 := fnL_of Go.Proofs.Try.func108 (by kernel_rfl) (by kernel_rfl)
theorem l109 : FnL P T F 109 f104 := fnL_of Go.Proofs.Try.func109 (by kernel_rfl) (by kernel_rfl)
theorem l110 : FnL P T F 110 f105 := fnL_of Go.Proofs.Try.func110 (by kernel_rfl) (by kernel_rfl)
theorem l111 : FnL P T F 111 f106 := fnL_of Go.Proofs.Try.func111 (by kernel_rfl) (by kernel_rfl)
theorem l112 : FnL P T F 112 f107 := fnL_of Go.Proofs.Try.func112 (by kernel_rfl) (by kernel_rfl)
theorem l113 : FnL P T F 113 f108 := fnL_of Go.Proofs.Try.func113 (by kernel_rfl) (by kernel_rfl)
theorem l114 : FnL P T F 114 f109 := fnL_of Go.Proofs.Try.func114 (by kernel_rfl) (by kernel_rfl)
theorem l115 : FnL P T F 115 f110 := fnL_of Go.Proofs.Try.func115 (by kernel_rfl) (by kernel_rfl)
theorem l116 : FnL P T F 116 f111 := fnL_of Go.Proofs.Try.func116 (by kernel_rfl) (by kernel_rfl)
theorem l125 : FnL P T F 125 f121 := fnL_of Go.Proofs.Try.func125 (by kernel_rfl) (by kernel_rfl)
theorem l126 : FnL P T F 126 f123 := fnL_of Go.Proofs.Try.func126 (by kernel_rfl) (by kernel_rfl)
theorem l129 : FnL P T F 129 f126 := fnL_of Go.Proofs.Try.func129 (by kernel_rfl) (by kernel_rfl)

theorem tie : Tie P E T F := tie_of types mixed fnsOk (allc (good_of l3 rfl) (allc (good_of l7 rfl) (allc (good_of l8 rfl) (allc (good_of l9 rfl) (allc (good_of l10 rfl) (allc (good_of l11 rfl) (allc (good_of l12 rfl) (allc (good_of l19 rfl) (allc (good_of l24 rfl) (allc (good_of l25 rfl) (allc (good_of l26 rfl) (allc (good_of l27 rfl) (allc (good_of l28 rfl) (allc (good_of l29 rfl) (allc (good_of l31 rfl) (allc (good_of l33 rfl) (allc (good_of l34 rfl) (allc (good_of l35 rfl) (allc (good_of l36 rfl) (allc (good_of l37 rfl) (allc (good_of l38 rfl) (allc (good_of l39 rfl) (allc (good_of l40 rfl) (allc (good_of l41 rfl) (allc (good_of l42 rfl) (allc (good_of l43 rfl) (allc (good_of l44 rfl) (allc (good_of l45 rfl) (allc (good_of l46 rfl) (allc (good_of l47 rfl) (allc (good_of l59 rfl) (allc (good_of l61 rfl) (allc (good_of l63 rfl) (allc (good_of l64 rfl) (allc (good_of l65 rfl) (allc (good_of l66 rfl) (allc (good_of l67 rfl) (allc (good_of l68 rfl) (allc (good_of l69 rfl) (allc (good_of l70 rfl) (allc (good_of l71 rfl) (allc (good_of l72 rfl) (allc (good_of l73 rfl) (allc (good_of l74 rfl) (allc (good_of l75 rfl) (allc (good_of l76 rfl) (allc (good_of l77 rfl) (allc (good_of l78 rfl) (allc (good_of l79 rfl) (allc (good_of l80 rfl) (allc (good_of l81 rfl) (allc (good_of l82 rfl) (allc (good_of l83 rfl) (allc (good_of l84 rfl) (allc (good_of l85 rfl) (allc (good_of l86 rfl) (allc (good_of l87 rfl) (allc (good_of l88 rfl) (allc (good_of l89 rfl) (allc (good_of l90 rfl) (allc (good_of l105 rfl) (allc (good_of l106 rfl) (allc (good_of l107 rfl) (allc (good_of l108 rfl) (allc (good_of l109 rfl) (allc (good_of l110 rfl) (allc (good_of l111 rfl) (allc (good_of l112 rfl) (allc (good_of l113 rfl) (allc (good_of l114 rfl) (allc (good_of l115 rfl) (allc (good_of l116 rfl) (allc (good_of l125 rfl) (allc (good_of l126 rfl) (allc (good_of l129 rfl) (alln))))))))))))))))))))))))))))))))))))))))))))))))))))))))))))))))))))))))))))

end Dv.Try
