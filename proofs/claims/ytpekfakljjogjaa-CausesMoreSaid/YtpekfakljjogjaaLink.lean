/- Texts that a proof of this claim uses, joined: Dv.LinkTry. -/
import Derived.Test.YtpekfakljjogjaaDvb
import Derived.Test.YtpekfakljjogjaaCode
import Derived.Test.YtpekfakljjogjaaChecked
import Derived.KernelRfl
set_option linter.all false
/- The tie of this program to the short code: printed by program. -/
namespace Dv.Try
open Go (Program)

noncomputable abbrev P : Program := Go.Proofs.Try.prog

def tl : List (Nat × Nat) := [(3, 2), (4, 7), (5, 13), (22, 10), (23, 9), (24, 14), (26, 0), (27, 38), (30, 36), (31, 3), (35, 6), (36, 31), (38, 29), (42, 37), (43, 18), (45, 17), (46, 16), (48, 15), (55, 39), (67, 40), (77, 4), (79, 28), (88, 20), (90, 21), (95, 19), (105, 1), (108, 35), (112, 32), (126, 33), (132, 22), (137, 11), (150, 26)]

def fl : List (Nat × Nat) := [(3, 177), (4, 182), (5, 185), (6, 186), (7, 189), (8, 178), (9, 179), (10, 180), (11, 181), (12, 131), (13, 183), (14, 184), (15, 187), (16, 15), (17, 188), (18, 30), (19, 190), (20, 20), (21, 129), (22, 191), (23, 192), (24, 193), (25, 94), (26, 199), (27, 71), (28, 200), (29, 194), (30, 139), (31, 133), (32, 150), (33, 151), (34, 195), (35, 67), (36, 69), (37, 70), (38, 72), (39, 73), (40, 74), (41, 75), (42, 76), (43, 196), (44, 87), (45, 197), (46, 2), (47, 61), (48, 198), (49, 113), (50, 106), (51, 201), (52, 142), (53, 140), (54, 165), (55, 166), (56, 167), (57, 168), (58, 22), (59, 3), (60, 7), (61, 169), (62, 202), (63, 105), (64, 107), (65, 157), (66, 172), (67, 159), (68, 158), (69, 161), (70, 160), (71, 162), (72, 175), (73, 83), (74, 84), (75, 62), (76, 14), (77, 63), (78, 176), (79, 96), (80, 173), (81, 174), (82, 66), (83, 110), (84, 68), (85, 102), (86, 122), (87, 104), (88, 123)]

def T : Phi := look tl
def F : Phi := look fl

theorem types : TAll P E T := tall_of (by kernel_rfl)
theorem mixed : P.follows .mixedOrders = true := by kernel_rfl
theorem fnsOk : FnsOk P F := fnsOk_of (by kernel_rfl)

theorem l3 : FnL P T F 3 f177 := fnL_of Go.Proofs.Try.func3 (by kernel_rfl) (by kernel_rfl)
theorem l4 : FnL P T F 4 f182 := fnL_of Go.Proofs.Try.func4 (by kernel_rfl) (by kernel_rfl)
theorem l5 : FnL P T F 5 f185 := fnL_of Go.Proofs.Try.func5 (by kernel_rfl) (by kernel_rfl)
theorem l6 : FnL P T F 6 f186 := fnL_of Go.Proofs.Try.func6 (by kernel_rfl) (by kernel_rfl)
theorem l7 : FnL P T F 7 f189 := fnL_of Go.Proofs.Try.func7 (by kernel_rfl) (by kernel_rfl)
theorem l8 : FnL P T F 8 f178 := fnL_of Go.Proofs.Try.func8 (by kernel_rfl) (by kernel_rfl)
theorem l9 : FnL P T F 9 f179 := fnL_of Go.Proofs.Try.func9 (by kernel_rfl) (by kernel_rfl)
theorem l10 : FnL P T F 10 f180 := fnL_of Go.Proofs.Try.func10 (by kernel_rfl) (by kernel_rfl)
theorem l11 : FnL P T F 11 f181 := fnL_of Go.Proofs.Try.func11 (by kernel_rfl) (by kernel_rfl)
theorem l12 : FnL P T F 12 f131 := fnL_of Go.Proofs.Try.func12 (by kernel_rfl) (by kernel_rfl)
theorem l13 : FnL P T F 13 f183 := fnL_of Go.Proofs.Try.func13 (by kernel_rfl) (by kernel_rfl)
theorem l14 : FnL P T F 14 f184 := fnL_of Go.Proofs.Try.func14 (by kernel_rfl) (by kernel_rfl)
theorem l15 : FnL P T F 15 f187 := fnL_of Go.Proofs.Try.func15 (by kernel_rfl) (by kernel_rfl)
theorem l16 : FnL P T F 16 f15 := fnL_of Go.Proofs.Try.func16 (by kernel_rfl) (by kernel_rfl)
theorem l17 : FnL P T F 17 f188 := fnL_of Go.Proofs.Try.func17 (by kernel_rfl) (by kernel_rfl)
theorem l18 : FnL P T F 18 f30 := fnL_of Go.Proofs.Try.func18 (by kernel_rfl) (by kernel_rfl)
theorem l19 : FnL P T F 19 f190 := fnL_of Go.Proofs.Try.func19 (by kernel_rfl) (by kernel_rfl)
theorem l20 : FnL P T F 20 f20 := fnL_of Go.Proofs.Try.func20 (by kernel_rfl) (by kernel_rfl)
theorem l21 : FnL P T F 21 f129 := fnL_of Go.Proofs.Try.func21 (by kernel_rfl) (by kernel_rfl)
theorem l22 : FnL P T F 22 f191 := fnL_of Go.Proofs.Try.func22 (by kernel_rfl) (by kernel_rfl)
theorem l23 : FnL P T F 23 f192 := fnL_of Go.Proofs.Try.func23 (by kernel_rfl) (by kernel_rfl)
theorem l24 : FnL P T F 24 f193 := fnL_of Go.Proofs.Try.func24 (by kernel_rfl) (by kernel_rfl)
theorem l25 : FnL P T F 25 f94 := fnL_of Go.Proofs.Try.func25 (by kernel_rfl) (by kernel_rfl)
theorem l26 : FnL P T F 26 f199 := fnL_of Go.Proofs.Try.func26 (by kernel_rfl) (by kernel_rfl)
theorem l27 : FnL P T F 27 f71 := fnL_of Go.Proofs.Try.func27 (by kernel_rfl) (by kernel_rfl)
theorem l28 : FnL P T F 28 f200 := fnL_of Go.Proofs.Try.func28 (by kernel_rfl) (by kernel_rfl)
theorem l29 : FnL P T F 29 f194 := fnL_of Go.Proofs.Try.func29 (by kernel_rfl) (by kernel_rfl)
theorem l30 : FnL P T F 30 f139 := fnL_of Go.Proofs.Try.func30 (by kernel_rfl) (by kernel_rfl)
theorem l31 : FnL P T F 31 f133 := fnL_of Go.Proofs.Try.func31 (by kernel_rfl) (by kernel_rfl)
theorem l32 : FnL P T F 32 f150 := fnL_of Go.Proofs.Try.func32 (by kernel_rfl) (by kernel_rfl)
theorem l33 : FnL P T F 33 f151 := fnL_of Go.Proofs.Try.func33 (by kernel_rfl) (by kernel_rfl)
theorem l34 : FnL P T F 34 f195 := fnL_of Go.Proofs.Try.func34 (by kernel_rfl) (by kernel_rfl)
theorem l35 : FnL P T F 35 f67 := fnL_of Go.Proofs.Try.func35 (by kernel_rfl) (by kernel_rfl)
theorem l36 : FnL P T F 36 f69 := fnL_of Go.Proofs.Try.func36 (by kernel_rfl) (by kernel_rfl)
theorem l37 : FnL P T F 37 f70 := fnL_of Go.Proofs.Try.func37 (by kernel_rfl) (by kernel_rfl)
theorem l38 : FnL P T F 38 f72 := fnL_of Go.Proofs.Try.func38 (by kernel_rfl) (by kernel_rfl)
theorem l39 : FnL P T F 39 f73 := fnL_of Go.Proofs.Try.func39 (by kernel_rfl) (by kernel_rfl)
theorem l40 : FnL P T F 40 f74 := fnL_of Go.Proofs.Try.func40 (by kernel_rfl) (by kernel_rfl)
theorem l41 : FnL P T F 41 f75 := fnL_of Go.Proofs.Try.func41 (by kernel_rfl) (by kernel_rfl)
theorem l42 : FnL P T F 42 f76 := fnL_of Go.Proofs.Try.func42 (by kernel_rfl) (by kernel_rfl)
theorem l43 : FnL P T F 43 f196 := fnL_of Go.Proofs.Try.func43 (by kernel_rfl) (by kernel_rfl)
theorem l44 : FnL P T F 44 f87 := fnL_of Go.Proofs.Try.func44 (by kernel_rfl) (by kernel_rfl)
theorem l45 : FnL P T F 45 f197 := fnL_of Go.Proofs.Try.func45 (by kernel_rfl) (by kernel_rfl)
theorem l46 : FnL P T F 46 f2 := fnL_of Go.Proofs.Try.func46 (by kernel_rfl) (by kernel_rfl)
theorem l47 : FnL P T F 47 f61 := fnL_of Go.Proofs.Try.func47 (by kernel_rfl) (by kernel_rfl)
theorem l48 : FnL P T F 48 f198 := fnL_of Go.Proofs.Try.func48 (by kernel_rfl) (by kernel_rfl)
theorem l49 : FnL P T F 49 f113 := fnL_of Go.Proofs.Try.func49 (by kernel_rfl) (by kernel_rfl)
theorem l50 : FnL P T F 50 f106 := fnL_of Go.Proofs.Try.func50 (by kernel_rfl) (by kernel_rfl)
theorem l51 : FnL P T F 51 f201 := fnL_of Go.Proofs.Try.func51 (by kernel_rfl) (by kernel_rfl)
theorem l52 : FnL P T F 52 f142 := fnL_of Go.Proofs.Try.func52 (by kernel_rfl) (by kernel_rfl)
theorem l53 : FnL P T F 53 f140 := fnL_of Go.Proofs.Try.func53 (by kernel_rfl) (by kernel_rfl)
theorem l55 : FnL P T F 55 f166 := fnL_of Go.Proofs.Try.func55 (by kernel_rfl) (by kernel_rfl)
theorem l56 : FnL P T F 56 f167 := fnL_of Go.Proofs.Try.func56 (by kernel_rfl) (by kernel_rfl)
theorem l57 : FnL P T F 57 f168 := fnL_of Go.Proofs.Try.func57 (by kernel_rfl) (by kernel_rfl)
theorem l58 : FnL P T F 58 f22 := fnL_of Go.Proofs.Try.func58 (by kernel_rfl) (by kernel_rfl)
theorem l59 : FnL P T F 59 f3 := fnL_of Go.Proofs.Try.func59 (by kernel_rfl) (by kernel_rfl)
theorem l60 : FnL P T F 60 f7 := fnL_of Go.Proofs.Try.func60 (by kernel_rfl) (by kernel_rfl)
theorem l61 : FnL P T F 61 f169 := fnL_of Go.Proofs.Try.func61 (by kernel_rfl) (by kernel_rfl)
theorem l62 : FnL P T F 62 f202 := fnL_of Go.Proofs.Try.func62 (by kernel_rfl) (by kernel_rfl)
theorem l63 : FnL P T F 63 f105 := fnL_of Go.Proofs.Try.func63 (by kernel_rfl) (by kernel_rfl)
theorem l64 : FnL P T F 64 f107 := fnL_of Go.Proofs.Try.func64 (by kernel_rfl) (by kernel_rfl)
theorem l65 : FnL P T F 65 f157 := fnL_of Go.Proofs.Try.func65 (by kernel_rfl) (by kernel_rfl)
theorem l66 : FnL P T F 66 f172 := fnL_of Go.Proofs.Try.func66 (by kernel_rfl) (by kernel_rfl)
theorem l67 : FnL P T F 67 f159 := fnL_of Go.Proofs.Try.func67 (by kernel_rfl) (by kernel_rfl)
theorem l68 : FnL P T F 68 f158 := fnL_of Go.Proofs.Try.func68 (by kernel_rfl) (by kernel_rfl)
theorem l69 : FnL P T F 69 f161 := fnL_of Go.Proofs.Try.func69 (by kernel_rfl) (by kernel_rfl)
theorem l70 : FnL P T F 70 f160 := fnL_of Go.Proofs.Try.func70 (by kernel_rfl) (by kernel_rfl)
theorem l71 : FnL P T F 71 f162 := fnL_of Go.Proofs.Try.func71 (by kernel_rfl) (by kernel_rfl)
theorem l72 : FnL P T F 72 f175 := fnL_of Go.Proofs.Try.func72 (by kernel_rfl) (by kernel_rfl)
theorem l73 : FnL P T F 73 f83 := fnL_of Go.Proofs.Try.func73 (by kernel_rfl) (by kernel_rfl)
theorem l74 : FnL P T F 74 f84 := fnL_of Go.Proofs.Try.func74 (by kernel_rfl) (by kernel_rfl)
theorem l75 : FnL P T F 75 f62 := fnL_of Go.Proofs.Try.func75 (by kernel_rfl) (by kernel_rfl)
theorem l76 : FnL P T F 76 f14 := fnL_of Go.Proofs.Try.func76 (by kernel_rfl) (by kernel_rfl)
theorem l77 : FnL P T F 77 f63 := fnL_of Go.Proofs.Try.func77 (by kernel_rfl) (by kernel_rfl)
theorem l78 : FnL P T F 78 f176 := fnL_of Go.Proofs.Try.func78 (by kernel_rfl) (by kernel_rfl)
theorem l80 : FnL P T F 80 f173 := fnL_of Go.Proofs.Try.func80 (by kernel_rfl) (by kernel_rfl)
theorem l81 : FnL P T F 81 f174 := fnL_of Go.Proofs.Try.func81 (by kernel_rfl) (by kernel_rfl)
theorem l82 : FnL P T F 82 f66 := fnL_of Go.Proofs.Try.func82 (by kernel_rfl) (by kernel_rfl)
theorem l83 : FnL P T F 83 f110 := fnL_of Go.Proofs.Try.func83 (by kernel_rfl) (by kernel_rfl)
theorem l84 : FnL P T F 84 f68 := fnL_of Go.Proofs.Try.func84 (by kernel_rfl) (by kernel_rfl)
theorem l85 : FnL P T F 85 f102 := fnL_of Go.Proofs.Try.func85 (by kernel_rfl) (by kernel_rfl)
theorem l86 : FnL P T F 86 f122 := fnL_of Go.Proofs.Try.func86 (by kernel_rfl) (by kernel_rfl)
theorem l87 : FnL P T F 87 f104 := fnL_of Go.Proofs.Try.func87 (by kernel_rfl) (by kernel_rfl)
theorem l88 : FnL P T F 88 f123 := fnL_of Go.Proofs.Try.func88 (by kernel_rfl) (by kernel_rfl)
theorem l79 : ∀ n, StatAt P (CLk T F true) F (runS E (dC E n) 96) 79 := clone_stat (c := 6) (fn := Go.Proofs.Try.f79) (code := Go.Proofs.Try.f79.body.getD .skip) types fnsOk rfl Go.Proofs.Try.func79 rfl rfl rfl (by kernel_rfl)
theorem l54 : ∀ n, StatAt P (CLk T F true) F (runS E (dC E n) 165) 54 := clone_stat (c := 4) (fn := Go.Proofs.Try.f54) (code := Go.Proofs.Try.f54.body.getD .skip) types fnsOk rfl Go.Proofs.Try.func54 rfl rfl rfl (by kernel_rfl)

theorem tie : Tie P E T F := tie_of types mixed fnsOk (allc (good_of l3 rfl) (allc (good_of l4 rfl) (allc (good_of l5 rfl) (allc (good_of l6 rfl) (allc (good_of l7 rfl) (allc (good_of l8 rfl) (allc (good_of l9 rfl) (allc (good_of l10 rfl) (allc (good_of l11 rfl) (allc (good_of l12 rfl) (allc (good_of l13 rfl) (allc (good_of l14 rfl) (allc (good_of l15 rfl) (allc (good_of l16 rfl) (allc (good_of l17 rfl) (allc (good_of l18 rfl) (allc (good_of l19 rfl) (allc (good_of l20 rfl) (allc (good_of l21 rfl) (allc (good_of l22 rfl) (allc (good_of l23 rfl) (allc (good_of l24 rfl) (allc (good_of l25 rfl) (allc (good_of l26 rfl) (allc (good_of l27 rfl) (allc (good_of l28 rfl) (allc (good_of l29 rfl) (allc (good_of l30 rfl) (allc (good_of l31 rfl) (allc (good_of l32 rfl) (allc (good_of l33 rfl) (allc (good_of l34 rfl) (allc (good_of l35 rfl) (allc (good_of l36 rfl) (allc (good_of l37 rfl) (allc (good_of l38 rfl) (allc (good_of l39 rfl) (allc (good_of l40 rfl) (allc (good_of l41 rfl) (allc (good_of l42 rfl) (allc (good_of l43 rfl) (allc (good_of l44 rfl) (allc (good_of l45 rfl) (allc (good_of l46 rfl) (allc (good_of l47 rfl) (allc (good_of l48 rfl) (allc (good_of l49 rfl) (allc (good_of l50 rfl) (allc (good_of l51 rfl) (allc (good_of l52 rfl) (allc (good_of l53 rfl) (allc (good_clone l54) (allc (good_of l55 rfl) (allc (good_of l56 rfl) (allc (good_of l57 rfl) (allc (good_of l58 rfl) (allc (good_of l59 rfl) (allc (good_of l60 rfl) (allc (good_of l61 rfl) (allc (good_of l62 rfl) (allc (good_of l63 rfl) (allc (good_of l64 rfl) (allc (good_of l65 rfl) (allc (good_of l66 rfl) (allc (good_of l67 rfl) (allc (good_of l68 rfl) (allc (good_of l69 rfl) (allc (good_of l70 rfl) (allc (good_of l71 rfl) (allc (good_of l72 rfl) (allc (good_of l73 rfl) (allc (good_of l74 rfl) (allc (good_of l75 rfl) (allc (good_of l76 rfl) (allc (good_of l77 rfl) (allc (good_of l78 rfl) (allc (good_clone l79) (allc (good_of l80 rfl) (allc (good_of l81 rfl) (allc (good_of l82 rfl) (allc (good_of l83 rfl) (allc (good_of l84 rfl) (allc (good_of l85 rfl) (allc (good_of l86 rfl) (allc (good_of l87 rfl) (allc (good_of l88 rfl) (alln)))))))))))))))))))))))))))))))))))))))))))))))))))))))))))))))))))))))))))))))))))))))

end Dv.Try
