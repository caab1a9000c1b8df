/- Texts that a proof of this claim uses, joined: Lw.TCode. -/
import Derived.Test.YthcmaiplkbbioaaGreatDoorLwa
import Derived.Test.YthcmaiplkbbioaaGreatDoorCode
import Derived.KernelRfl
set_option linter.all false
namespace Dv
open Go (IntKind BinOp UnOp)
abbrev u9A(i:Nat)(k:Int):TS := .asg i (.c (.int .i64 k))
abbrev u9E(i:Nat)(o:DOp)(k:Xs)(r:Option Nat):TS := .eff none (some i) o k r
abbrev xl(t a:Nat)(x:Xp):Xp := .n (.load t (.t a)) (.cons a x .nil)
abbrev xn(t a:Nat)(x:Xp):Xp := .n (.len t (.t a)) (.cons a x .nil)
abbrev xf(t a k:Nat)(x:Xp):Xp := .n (.faddr t (.t a) k) (.cons a x .nil)
abbrev xe(a k:Nat)(x:Xp):Xp := .n (.extract (.t a) k) (.cons a x .nil)
abbrev xi(t a b:Nat)(x y:Xp):Xp := .n (.iaddr t (.t a) (.t b)) (.cons a x (.cons b y .nil))
abbrev xb(o:BinOp)(t a b:Nat)(x y:Xp):Xp := .n (.bin o t (.t a) (.t b)) (.cons a x (.cons b y .nil))
abbrev xk(o:BinOp)(t a:Nat)(c:D)(x:Xp):Xp := .n (.bin o t (.t a) (.c c)) (.cons a x .nil)
def tG(n:List Nat)(N:Nat)(f:DFn):TC := (y2w n N f.body).getD .skip
def n2:List Nat := [0,1,2,3,4,5,6,22,27,36,41,48,58,63,73]
def t2:TC := .seq (.run 0 [u9E 1 (.box 0 (.t 0)) (.cons 0 (.v 0) .nil) none,.asg 2 (.c (.bool false))]) (.seq (.seq (.run 0 [.asg 7 (.ite (.ite (xk .gtr 2 9 (.int .i64 12)
 (xn 10 8 (xl 10 7 (xf 0 1 0 (.v 1))))) (.c (.bool true)) (xk .gtr 2 14 (.int .i64 4) (xn 9 13 (xl 9 12 (xf 0 1 1 (.v 1)))))) (.c (.bool true)) (xk .gtr 2 20 (.int .i64 6) (xn
 14 19 (xl 14 18 (xf 0 1 2 (.v 1))))))]) (.cond 7 (.seq (.run 0 [.asg 2 (.c (.bool false))]) (.ret)) (.skip))) (.seq (.seq (.run 0 [u9A 3 0]) (.block 0 (.loop
 (.seq (.seq (.run 0 [.asg 8 (xb .lss 2 23 26 (.v 3) (xn 9 25 (xl 9 24 (xf 0 1 1 (.v 1)))))]) (.cond 8 (.skip) (.exit 0))) (.seq (.block 1 (.seq (.run 0 [.asg 9 (xk .gtr 2 35
 (.int .i64 16) (xn 6 34 (xl 6 33 (xi 9 31 32 (xl 9 30 (xf 0 1 1 (.v 1))) (.v 3)))))]) (.cond 9 (.seq (.run 0 [.asg 2 (.c (.bool false))]) (.ret)) (.skip)))) (.run 0 [.asg 3
 (xk .add 2 28 (.int .i64 1) (.v 3))])))))) (.seq (.seq (.run 0 [u9A 4 0]) (.block 2 (.loop (.seq (.seq (.run 0 [.asg 10 (xb .lss 2 37 40 (.v 4) (xn 14 39
 (xl 14 38 (xf 0 1 2 (.v 1)))))]) (.cond 10 (.skip) (.exit 2))) (.seq (.block 3 (.seq (.run 0 [.asg 11 (xl 15 47 (xi 14 45 46 (xl 14 44 (xf 0 1 2 (.v 1))) (.v 4))),u9E 5 (.alloc 15) .nil none,.eff none none (.store 15 (.t 5) (.t 48)) (.cons 5 (.v 5) (.cons 48 (.v 11) .nil)) none]) (.seq (.seq (.run 0 [.asg 12 (.ite (xk .gtr 2 51 (.int
 .i64 8) (xn 6 50 (xl 6 49 (xf 15 5 2 (.v 5))))) (.c (.bool true)) (xk .gtr 2 56 (.int .i64 8) (xn 16 55 (xl 16 54 (xf 15 5 3 (.v 5))))))]) (.cond 12 (.seq (.run 0 [.asg 2 (.c
 (.bool false))]) (.ret)) (.skip))) (.seq (.run 0 [u9A 6 0]) (.block 4 (.loop (.seq (.seq (.run 0 [.asg 13 (xb .lss 2 59 62 (.v 6) (xn 16 61 (xl 16 60 (xf
 15 5 3 (.v 5)))))]) (.cond 13 (.skip) (.exit 4))) (.seq (.block 5 (.seq (.run 0 [.asg 14 (xk .gtr 2 72 (.int .i64 12) (xn 18 71 (xl 18 70 (xf 17 69 3 (xi 16 67 68 (xl 16 66
 (xf 15 5 3 (.v 5))) (.v 6))))))]) (.cond 14 (.seq (.run 0 [.asg 2 (.c (.bool false))]) (.ret)) (.skip)))) (.run 0 [.asg 6 (xk .add 2 64 (.int .i64 1) (.v 6))]))))))))) (.run
 0 [.asg 4 (xk .add 2 42 (.int .i64 1) (.v 4))])))))) (.seq (.run 0 [.asg 2 (xk .lss 2 75 (.int .i64 2000) (.n (.call 0 (.f 61) [(.t 74),(.c (.int .i64 2000))]) (.cons 74 (xl
 0 1 (.v 1)) .nil)))]) (.ret)))))
theorem c2:TF E 2 n2 [(2,none)] t2 77 := zi (F := f2)
def n3:List Nat := [0,1,2,4,5,6,7,8,10,11,12,13,18,20,22,23,24,25,29,35,36,37,38,39,59,60,61]
def t3:TC := .seq (.run 0 [u9E 2 (.box 0 (.t 0)) (.cons 0 (.v 0) .nil) none,u9E 3 (.alloc 6) .nil none,u9A 4 0]) (.seq (.seq (.run 0 [.asg
 4 (.n (.call 0 (.f 62) [(.t 14),(.t 15)]) (.cons 14 (xl 0 2 (.v 2)) (.cons 15 (.v 1) .nil)))]) (.seq (.run 0 [.asg 12 (xk .neq 3 17 (.int .i64 0) (.v 4))]) (.cond 12 (.seq
 (.run 0 [.eff none none (.store 6 (.t 4) (.c (.imm .exact []))) (.cons 4 (.v 3) .nil) none,.asg 4 (.v 4)]) (.ret)) (.skip)))) (.seq (.run 0 [u9E 13 (.mkslice
 true 6 (.c (.int .i64 4)) (.c (.int .i64 4))) .nil none,.eff none none (.store 6 (.t 4) (.t 20)) (.cons 4 (.v 3) (.cons 20 (.v 13) .nil)) none]) (.seq (.seq (.run 0 [.asg
 14 (xl 9 21 (xf 0 2 1 (.v 2))),.asg 15 (xn 9 22 (.v 14)),u9A 16 0]) (.block 0 (.loop (.seq (.run 0 [.asg 17 (xb .lss 2 24 23 (.v 16) (.v 15))]) (.seq (.cond
 17 (.skip) (.exit 0)) (.seq (.block 1 (.seq (.run 0 [.asg 5 (.v 16),.asg 6 (xl 6 27 (xi 9 22 24 (.v 14) (.v 16)))]) (.seq (.run 0 [.asg 18 (.n (.call 0 (.f 14) [(.t 30),(.t
 31),(.t 32)]) (.cons 30 (xl 0 2 (.v 2)) (.cons 31 (.v 1) (.cons 32 (.v 5) .nil)))),.asg 19 (xe 29 1 (.v 18)),.asg 7 (xe 29 0 (.v 18))]) (.seq (.run 0 [.asg 20 (.v 7),.asg
 21 (xn 6 36 (.v 20)),u9A 22 0]) (.block 2 (.loop (.seq (.run 0 [.asg 23 (xb .lss 2 38 37 (.v 22) (.v 21))]) (.seq (.cond 23 (.skip) (.exit 2)) (.seq (.block
 3 (.seq (.run 0 [.asg 8 (.v 22),.asg 9 (xl 2 41 (xi 6 36 38 (.v 20) (.v 22)))]) (.run 13 [.eff none none (.store 2 (.t 54) (.t 53)) (.cons 54 (.n (.iaddr 6 (.t 43) (.c (.int
 .i64 0))) (.cons 43 (xl 6 4 (.v 3)) .nil)) (.cons 53 (xb .add 2 45 52 (xl 2 44 (.n (.iaddr 6 (.t 43) (.c (.int .i64 0))) (.cons 43 (xl 6 4 (.v 3)) .nil))) (.n (.maxi [(.t 51),
 (.c (.int .i64 0))]) (.cons 51 (xb .sub 2 46 50 (.v 9) (xl 2 49 (xi 6 47 48 (.v 6) (.v 8)))) .nil))) .nil)) (some 12)]))) (.run 0 [.asg 22 (xk .add 2 38 (.int .i64 1) (.v 22))]))))))))))
 (.run 0 [.asg 16 (xk .add 2 24 (.int .i64 1) (.v 16))]))))))) (.seq (.seq (.run 0 [.asg 24 (.n (.call 0 (.f 63) [(.t 57),(.t 58)]) (.cons 57 (xl 0 2 (.v 2)) (.cons 58 (.v
 1) .nil)))]) (.block 4 (.rfunc 24 [25,26] (.seq (.run 0 [.asg 10 (.v 25)]) (.run 0 [u9E 11 (.alloc 17) .nil none,.eff none none (.store 17 (.t 13) (.t 61)) (.cons
 13 (.v 11) (.cons 61 (.v 26) .nil)) none])) (.block 5 (.seq (.run 9 [.eff none none (.store 2 (.t 69) (.t 68)) (.cons 69 (.n (.iaddr 6 (.t 62) (.c (.int .i64 1))) (.cons 62
 (xl 6 4 (.v 3)) .nil)) (.cons 68 (.n (.maxi [(.t 65),(.t 67)]) (.cons 65 (xl 2 64 (.n (.iaddr 6 (.t 63) (.c (.int .i64 1))) (.cons 63 (xl 6 4 (.v 3)) .nil))) (.cons 67 (xl
 2 66 (xf 17 13 0 (.v 11))) .nil))) .nil)) (some 8)]) (.seq (.run 10 [.eff none none (.store 2 (.t 78) (.t 77)) (.cons 78 (.n (.iaddr 6 (.t 70) (.c (.int .i64 2))) (.cons 70
 (xl 6 4 (.v 3)) .nil)) (.cons 77 (xb .add 2 72 76 (xl 2 71 (.n (.iaddr 6 (.t 70) (.c (.int .i64 2))) (.cons 70 (xl 6 4 (.v 3)) .nil))) (xb .mul 2 74 75 (xl 2 73 (xf 17 13 1
 (.v 11))) (.v 10))) .nil)) (some 9)]) (.run 10 [.eff none none (.store 2 (.t 87) (.t 86)) (.cons 87 (.n (.iaddr 6 (.t 79) (.c (.int .i64 3))) (.cons 79 (xl 6 4 (.v 3)) .nil))
 (.cons 86 (xb .add 2 81 85 (xl 2 80 (.n (.iaddr 6 (.t 79) (.c (.int .i64 3))) (.cons 79 (xl 6 4 (.v 3)) .nil))) (xb .mul 2 83 84 (xl 2 82 (xf 17 13 2 (.v 11))) (.v 10))) .nil))
 (some 9)]))))))) (.seq (.run 0 [.eff none none (.store 6 (.t 4) (.t 88)) (.cons 4 (.v 3) (.cons 88 (xl 6 4 (.v 3)) .nil)) none,u9A 4 0]) (.ret))))))
theorem c3:TF E 3 n3 [(3,some 6),(4,none)] t3 89 := zi (F := f3)
def n7:List Nat := [0,1,2,4,5,6,7,12,20,27,28,29,38,40]
def t7:TC := tG n7 43 f7
theorem c7:TF E 7 n7 [(3,none),(4,none)] t7 43 := zi (F := f7)
def n14:List Nat := [0,1,2,3,6,7,12,20]
def t14:TC := .seq (.run 0 [u9E 3 (.box 0 (.t 0)) (.cons 0 (.v 0) .nil) none,.asg 4 (.c (.imm .exact [])),u9A 5 0]) (.seq (.seq (.run 0 [.asg 5 (.n (.call
 0 (.f 66) [(.t 8),(.t 9)]) (.cons 8 (xl 0 3 (.v 3)) (.cons 9 (.v 1) .nil)))]) (.seq (.run 0 [.asg 6 (xk .neq 3 11 (.int .i64 0) (.v 5))]) (.cond 6 (.seq (.run 0 [.asg 4 (.c
 (.imm .exact [])),.asg 5 (.v 5)]) (.ret)) (.skip)))) (.seq (.seq (.run 0 [.asg 7 (.n (.un .not (.t 19)) (.cons 19 (.n (.call 0 (.f 67) [(.t 14),(.c (.int .i64 0)),(.t 18)])
 (.cons 14 (.v 2) (.cons 18 (xk .sub 2 17 (.int .i64 1) (xn 9 16 (xl 9 15 (xf 0 3 1 (.v 3))))) .nil))) .nil))]) (.cond 7 (.seq (.run 0 [.asg 4 (.c (.imm .exact [])),u9A 5 270]) (.ret)) (.skip))) (.seq (.run 0 [.asg 4 (xl 6 25 (xi 9 23 24 (.n (.call 0 (.f 68) [(.t 21),(.t 22)]) (.cons 21 (xl 0 3 (.v 3)) (.cons 22 (.v 1) .nil)))
 (.v 2))),u9A 5 0]) (.ret))))
theorem c14:TF E 14 n14 [(4,none),(5,none)] t14 27 := zi (F := f14)
def n15:List Nat := [0,1,2,3,5,7,9,11,12,14,37,38,40,41,42,43,45,53,58,59,60,61,73,76,77,78,79,81,119,121,122,123,124,126,151,153,154,155,156,158,169]
def t15:TC := tG n15 173 f15
theorem c15:TF E 15 n15 [(2,none)] t15 173 := zi (F := f15)
def n22:List Nat := [0,1,2,4,5,6,8,9,10,11,12,17,21,22,23,29,30,31,32,44,45,49,50,51]
def t22:TC := tG n22 76 f22
theorem c22:TF E 22 n22 [(3,none),(4,none)] t22 76 := zi (F := f22)
def n61:List Nat := [0,1,2,4,5,6,16]
def t61:TC := tG n61 32 f61
theorem c61:TF E 61 n61 [(3,none)] t61 32 := zi (F := f61)
def n62:List Nat := [0,1,2,4,5,6,10,17,18,19,20,21,37]
def t62:TC := tG n62 39 f62
theorem c62:TF E 62 n62 [(3,none)] t62 39 := zi (F := f62)
def n63:List Nat := [0,1,2,3,4]
def t63:TC := tG n63 6 f63
theorem c63:TF E 63 n63 [(4,none)] t63 6 := zi (F := f63)
def n66:List Nat := [0,1,2,4,5,6,7,11,18,19,20,21,22,36]
def t66:TC := tG n66 38 f66
theorem c66:TF E 66 n66 [(3,none)] t66 38 := zi (F := f66)
def n67:List Nat := [0,1,2,6]
def t67:TC := tG n67 15 f67
theorem c67:TF E 67 n67 [(3,none)] t67 15 := zi (F := f67)
def n68:List Nat := [0,1,2,4,5,6,7,8,9,10,11,12,14,15,16,17,20,27,28,30,31,32,34,38,39,44,45,46,50,54]
def t68:TC := tG n68 62 f68
theorem c68:TF E 68 n68 [(3,none)] t68 62 := zi (F := f68)
def n69:List Nat := [0,1,4,5,9,23]
def t69:TC := tG n69 24 f69
theorem c69:TF E 69 n69 [(2,none)] t69 24 := zi (F := f69)
def n70:List Nat := [0,1,2,3,4,9,11]
def t70:TC := tG n70 24 f70
theorem c70:TF E 70 n70 [(4,none)] t70 24 := zi (F := f70)
def n71:List Nat := [0,1,4]
def t71:TC := tG n71 9 f71
theorem c71:TF E 71 n71 [(2,none)] t71 9 := zi (F := f71)
def n72:List Nat := [0,2]
def t72:TC := tG n72 6 f72
theorem c72:TF E 72 n72 [(1,none)] t72 6 := zi (F := f72)
def n73:List Nat := [0,1,4,5,9,23]
def t73:TC := tG n73 24 f73
theorem c73:TF E 73 n73 [(2,none)] t73 24 := zi (F := f73)
def n74:List Nat := [0,1,4,5,6,11,12,13,16,19]
def t74:TC := tG n74 20 f74
theorem c74:TF E 74 n74 [(2,none)] t74 20 := zi (F := f74)
def n75:List Nat := [0,1,4,5,9,23]
def t75:TC := tG n75 24 f75
theorem c75:TF E 75 n75 [(2,none)] t75 24 := zi (F := f75)
def n76:List Nat := [0,1,2,3,4]
def t76:TC := tG n76 10 f76
theorem c76:TF E 76 n76 [(4,none)] t76 10 := zi (F := f76)
def n83:List Nat := [0,1,2,4,5,10,17]
def t83:TC := tG n83 18 f83
theorem c83:TF E 83 n83 [(3,none)] t83 18 := zi (F := f83)
def n84:List Nat := [0,1,2,3,4]
def t84:TC := tG n84 6 f84
theorem c84:TF E 84 n84 [(4,none)] t84 6 := zi (F := f84)
def n87:List Nat := [0,1,4,5,6,7,8,9,10,11,12,19,28,35]
def t87:TC := tG n87 36 f87
theorem c87:TF E 87 n87 [(2,none)] t87 36 := zi (F := f87)
def n94:List Nat := [0,1,4]
def t94:TC := tG n94 9 f94
theorem c94:TF E 94 n94 [(2,none)] t94 9 := zi (F := f94)
def n96:List Nat := [0,2,7]
def t96:TC := .seq (.run 0 [.asg 1 (.c (.imm .exact []))]) (.seq (.run 0 [u9E 2 (.append 1 6 6 (.t 5) (.t 6)) (.cons 5 (.n (.bslice false 6 0 []) .nil) (.cons 6 (.v 0) .nil))
 none,.asg 1 (.v 2)]) (.ret))
theorem c96:TF E 96 n96 [(1,none)] t96 8 := zi (F := f96)
def n102:List Nat := [0,1,2,4,5,6,8,9,10,11,14,22,26,40,41]
def t102:TC := tG n102 43 f102
theorem c102:TF E 102 n102 [] t102 43 := zi (F := f102)
def n104:List Nat := [0,1,2,3,4]
def t104:TC := tG n104 6 f104
theorem c104:TF E 104 n104 [(4,none)] t104 6 := zi (F := f104)
def n105:List Nat := [0,2,3,5,6,7,8,9,14]
def t105:TC := tG n105 18 f105
theorem c105:TF E 105 n105 [(1,none)] t105 18 := zi (F := f105)
def n106:List Nat := [0,1,4,5,7,8,9,16]
def t106:TC := tG n106 19 f106
theorem c106:TF E 106 n106 [(2,none)] t106 19 := zi (F := f106)
def n107:List Nat := [0,2]
def t107:TC := tG n107 6 f107
theorem c107:TF E 107 n107 [(1,none)] t107 6 := zi (F := f107)
def n110:List Nat := [0,1,2,4,5,6,7,8,11,12,13,14,18,19,20,21,43,45]
def t110:TC := tG n110 48 f110
theorem c110:TF E 110 n110 [] t110 48 := zi (F := f110)
def n113:List Nat := [0,1,4,5,7,8,9,16]
def t113:TC := tG n113 19 f113
theorem c113:TF E 113 n113 [(2,none)] t113 19 := zi (F := f113)
def n122:List Nat := [0,1,2,4,6,7,8,9,10,12]
def t122:TC := tG n122 33 f122
theorem c122:TF E 122 n122 [(3,some 17)] t122 33 := zi (F := f122)
def n123:List Nat := [0,1,2,4,5,7,9,10,11,12,13,22,23,24,25,37,38,39,40,42,46,47]
def t123:TC := tG n123 51 f123
theorem c123:TF E 123 n123 [] t123 51 := zi (F := f123)
def n129:List Nat := [0,1,2]
def t129:TC := tG n129 10 f129
theorem c129:TF E 129 n129 [(2,none)] t129 10 := zi (F := f129)
def n131:List Nat := [0,1,2,3,4,5,11,18]
def t131:TC := tG n131 21 f131
theorem c131:TF E 131 n131 [(2,some 29),(3,none)] t131 21 := zi (F := f131)
def n133:List Nat := [0,1,2,3,4,5,6,11,22]
def t133:TC := tG n133 31 f133
theorem c133:TF E 133 n133 [(4,some 29),(5,none)] t133 31 := zi (F := f133)
def n139:List Nat := [0,1,2,3,4,8]
def t139:TC := tG n139 14 f139
theorem c139:TF E 139 n139 [(2,some 28),(3,none)] t139 14 := zi (F := f139)
def n140:List Nat := [0,1,2]
def t140:TC := tG n140 7 f140
theorem c140:TF E 140 n140 [(2,none)] t140 7 := zi (F := f140)
def n142:List Nat := [0,1,2,3,4,5,6,7,8,12,18,23,24,34,35,50]
def t142:TC := tG n142 51 f142
theorem c142:TF E 142 n142 [(4,none)] t142 51 := zi (F := f142)
def n150:List Nat := [0,1,2,3,4,6,7,8,9,10,12,14,16,19,28,30,31,32,42,43,48,59,66,67,72,83,86,87,92,94,95,99]
def t150:TC := tG n150 103 f150
theorem c150:TF E 150 n150 [(5,some 28)] t150 103 := zi (F := f150)
def n151:List Nat := [0]
def t151:TC := .seq (.run 0 [.asg 0 (.c (.bool false))]) (.seq (.run 0 [.asg 0 (.c (.bool true))]) (.ret))
theorem c151:TF E 151 n151 [(0,none)] t151 1 := zi (F := f151)
def n157:List Nat := [0,1,2,3,4]
def t157:TC := tG n157 35 f157
theorem c157:TF E 157 n157 [(3,none)] t157 35 := zi (F := f157)
def n158:List Nat := [0,1,3]
def t158:TC := tG n158 8 f158
theorem c158:TF E 158 n158 [(2,none)] t158 8 := zi (F := f158)
def n159:List Nat := [0,1,4]
def t159:TC := tG n159 9 f159
theorem c159:TF E 159 n159 [(2,none)] t159 9 := zi (F := f159)
def n160:List Nat := [0,1,2,3]
def t160:TC := tG n160 8 f160
theorem c160:TF E 160 n160 [(3,none)] t160 8 := zi (F := f160)
def n161:List Nat := [0,1,4]
def t161:TC := tG n161 9 f161
theorem c161:TF E 161 n161 [(2,none)] t161 9 := zi (F := f161)
def n162:List Nat := [0,1,4,5,10,12,13,14,24]
def t162:TC := tG n162 26 f162
theorem c162:TF E 162 n162 [(2,none)] t162 26 := zi (F := f162)
def n165:List Nat := [0,2,7]
def t165:TC := tG n165 8 f165
theorem c165:TF E 165 n165 [(1,none)] t165 8 := zi (F := f165)
def n166:List Nat := [0,2]
def t166:TC := tG n166 9 f166
theorem c166:TF E 166 n166 [(1,none)] t166 9 := zi (F := f166)
def n167:List Nat := [0,1,2,11]
def t167:TC := tG n167 13 f167
theorem c167:TF E 167 n167 [] t167 13 := zi (F := f167)
def n168:List Nat := [0,2,3,4]
def t168:TC := tG n168 16 f168
theorem c168:TF E 168 n168 [(1,none),(2,none)] t168 16 := zi (F := f168)
def n169:List Nat := [0,1,2]
def t169:TC := tG n169 4 f169
theorem c169:TF E 169 n169 [(2,none)] t169 4 := zi (F := f169)
def n172:List Nat := [0,1,2,4,5,6,12,13,14,15,16,32]
def t172:TC := tG n172 34 f172
theorem c172:TF E 172 n172 [(3,none)] t172 34 := zi (F := f172)
def n173:List Nat := [0,1,4,5,7,8,9,16]
def t173:TC := tG n173 19 f173
theorem c173:TF E 173 n173 [(2,none)] t173 19 := zi (F := f173)
def n174:List Nat := [0,1,4,5,7,8,9,16]
def t174:TC := tG n174 19 f174
theorem c174:TF E 174 n174 [(2,none)] t174 19 := zi (F := f174)
def n175:List Nat := [0,2]
def t175:TC := tG n175 9 f175
theorem c175:TF E 175 n175 [(1,none)] t175 9 := zi (F := f175)
def n176:List Nat := [0,1,3,8,16,17]
def t176:TC := tG n176 18 f176
theorem c176:TF E 176 n176 [] t176 18 := zi (F := f176)
def n179:List Nat := [0,1,2,4,5,6,10,20,36]
def t179:TC := tG n179 44 f179
theorem c179:TF E 179 n179 [(3,none)] t179 44 := zi (F := f179)
def n180:List Nat := [0,1,2,4,5,6,7,8,9,10,11,12,17,21,26,27,28,29,35,40]
def t180:TC := tG n180 42 f180
theorem c180:TF E 180 n180 [(3,some 36),(4,some 3)] t180 42 := zi (F := f180)
def n181:List Nat := [0,1,2,4,5,6,10,16,19,20]
def t181:TC := tG n181 21 f181
theorem c181:TF E 181 n181 [(3,none)] t181 21 := zi (F := f181)
def n184:List Nat := [0,1,2,3,4,5,6,7,13,16,17,18,19,35]
def t184:TC := tG n184 38 f184
theorem c184:TF E 184 n184 [(2,none),(3,none)] t184 38 := zi (F := f184)
def n191:List Nat := [0,1,2,3,6,7,8,9,10,11,20,32]
def t191:TC := .seq (.seq (.run 0 [.asg 6 (.v 1),.asg 7 (xn 6 8 (.v 6)),u9A 8 0]) (.block 0 (.loop (.seq (.run 0 [.asg 9 (xb .lss 2 10 9 (.v 8) (.v 7))]) (.seq (.cond
 9 (.skip) (.exit 0)) (.seq (.block 1 (.seq (.run 0 [.asg 4 (.v 8),.asg 5 (xl 2 13 (xi 6 8 10 (.v 6) (.v 8)))]) (.seq (.run 0 [.asg 10 (xb .neq 2 15 19 (.v 5) (xl 2 18 (xi
 6 16 17 (xl 6 2 (.v 2)) (.v 4))))]) (.cond 10 (.run 13 [u9E 11 (.append 0 36 36 (.t 21) (.t 31)) (.cons 21 (xl 36 3 (.v 3)) (.cons 31 (.n (.bslice false 36 1 [(0,
 (.t 30))]) (.cons 30 (.n (.build 37 [(0,(.t 22)),(1,(.t 23)),(2,(.t 29))]) (.cons 22 (.v 0) (.cons 23 (.v 4) (.cons 29 (xb .sub 2 24 28 (.v 5) (xl 2 27 (xi 6 25 26 (xl
 6 2 (.v 2)) (.v 4)))) .nil)))) .nil)) .nil)) (some 11),.eff none none (.store 36 (.t 3) (.t 32)) (.cons 3 (.v 3) (.cons 32 (.v 11) .nil)) (some 12)]) (.skip))))) (.run 0 [.asg
 8 (xk .add 2 10 (.int .i64 1) (.v 8))]))))))) (.run 0 [.eff none none (.store 6 (.t 2) (.t 34)) (.cons 2 (.v 2) (.cons 34 (.v 1) .nil)) none])
theorem c191:TF E 191 n191 [] t191 35 := zi (F := f191)
def n192:List Nat := [0,1,2,3,4]
def t192:TC := tG n192 6 f192
theorem c192:TF E 192 n192 [(4,none)] t192 6 := zi (F := f192)
def n193:List Nat := [0,1,2,3]
def t193:TC := tG n193 27 f193
theorem c193:TF E 193 n193 [(3,none)] t193 27 := zi (F := f193)
def n194:List Nat := [0,1,4]
def t194:TC := tG n194 9 f194
theorem c194:TF E 194 n194 [(2,none)] t194 9 := zi (F := f194)
def n195:List Nat := [0,1,2,3,6,7,8,9,10,12,17,19,20,21,22,30,31,32,33,35,43,50]
def t195:TC := tG n195 54 f195
theorem c195:TF E 195 n195 [(4,some 0)] t195 54 := zi (F := f195)
def n198:List Nat := [0,1,2,4,7,8,9,18,19]
def t198:TC := tG n198 21 f198
theorem c198:TF E 198 n198 [] t198 21 := zi (F := f198)
def n199:List Nat := [0,1,3]
def t199:TC := tG n199 14 f199
theorem c199:TF E 199 n199 [(2,none)] t199 14 := zi (F := f199)
def n200:List Nat := [0,2]
def t200:TC := tG n200 9 f200
theorem c200:TF E 200 n200 [(1,none)] t200 9 := zi (F := f200)
def n201:List Nat := [0,1,4,5,7,8,9,16]
def t201:TC := tG n201 19 f201
theorem c201:TF E 201 n201 [(2,none)] t201 19 := zi (F := f201)
def n202:List Nat := [0,2,3,5,6,7,11,13,14,15,16,19,20,21,22]
def t202:TC := tG n202 39 f202
theorem c202:TF E 202 n202 [(1,none)] t202 39 := zi (F := f202)
def n264:List Nat := [0,1,2,3,4,8,10,18]
def t264:TC := tG n264 19 f264
theorem c264:TF E 264 n264 [(2,none),(3,none)] t264 19 := zi (F := f264)
def n281:List Nat := [0,1,2,3,4,5,10,13]
def t281:TC := tG n281 16 f281
theorem c281:TF E 281 n281 [(2,none)] t281 16 := zi (F := f281)
def n282:List Nat := [0,1,3]
def t282:TC := tG n282 18 f282
theorem c282:TF E 282 n282 [(0,none)] t282 18 := zi (F := f282)
def n297:List Nat := [0,1,2,3,4,6,7,8,35,50,53,55,56,57,58,60,61,67]
def t297:TC := tG n297 74 f297
theorem c297:TF E 297 n297 [(2,none),(3,none)] t297 74 := zi (F := f297)
def n298:List Nat := [0,1,3,4,7,11]
def t298:TC := tG n298 12 f298
theorem c298:TF E 298 n298 [(3,none)] t298 12 := zi (F := f298)
def n299:List Nat := [0,1,3,4,7,12,15]
def t299:TC := tG n299 16 f299
theorem c299:TF E 299 n299 [(3,none)] t299 16 := zi (F := f299)
def n300:List Nat := [0,1,2,4,5,7,10,15,17,18,19,20,22,32]
def t300:TC := tG n300 35 f300
theorem c300:TF E 300 n300 [(4,none)] t300 35 := zi (F := f300)
def n311:List Nat := [0,2]
def t311:TC := tG n311 10 f311
theorem c311:TF E 311 n311 [(1,none)] t311 10 := zi (F := f311)
def n312:List Nat := [0,1,4,6,14,19]
def t312:TC := tG n312 20 f312
theorem c312:TF E 312 n312 [(2,none)] t312 20 := zi (F := f312)
def n316:List Nat := [0,1,2,3,8,9,10,11,12,13,14,20,24,38,45,49,52,55]
def t316:TC := tG n316 56 f316
theorem c316:TF E 316 n316 [(4,none),(5,none)] t316 56 := zi (F := f316)
def n318:List Nat := [0,1,2,4,5,6,7,8,9,10,14,17,18,19,28]
def t318:TC := tG n318 34 f318
theorem c318:TF E 318 n318 [(5,some 2),(6,none)] t318 34 := zi (F := f318)
def n324:List Nat := [0,2,3,6]
def t324:TC := tG n324 9 f324
theorem c324:TF E 324 n324 [(1,none)] t324 9 := zi (F := f324)
def n325:List Nat := [0,2,4,6,7,8,13,15,17]
def t325:TC := tG n325 18 f325
theorem c325:TF E 325 n325 [(1,some 67)] t325 18 := zi (F := f325)
def n331:List Nat := [0,1,4,5,12]
def t331:TC := tG n331 14 f331
theorem c331:TF E 331 n331 [(2,some 73)] t331 14 := zi (F := f331)
def n334:List Nat := [0,1,2,3,4,5,6,8,12,21,22,24,25,26,27,29,43,54,57]
def t334:TC := tG n334 60 f334
theorem c334:TF E 334 n334 [(2,none),(3,none)] t334 60 := zi (F := f334)
def n335:List Nat := [0,1,2,3,4]
def t335:TC := tG n335 10 f335
theorem c335:TF E 335 n335 [(4,some 73)] t335 10 := zi (F := f335)
def n340:List Nat := [0,1,2,3,4,8,9,10,11,13,14,15,19,41,42,43,44,45,46,48,79,94,95,96,103,106]
def t340:TC := tG n340 107 f340
theorem c340:TF E 340 n340 [(5,none),(6,none)] t340 107 := zi (F := f340)
def n345:List Nat := [0,1,2,6,7,8,10,12,14,15,19,23,24,25,26,27,28,30,39,41,42,43,44,46,48,49,50,51,53,57,66,70,73,81]
def t345:TC := tG n345 84 f345
theorem c345:TF E 345 n345 [(3,none),(4,none)] t345 84 := zi (F := f345)
def n350:List Nat := [0,2,3,4,5,7,9,13,16,17,18,20,21,22,23,25,33,35,36,37,38,40,48]
def t350:TC := tG n350 50 f350
theorem c350:TF E 350 n350 [(1,none),(2,none)] t350 50 := zi (F := f350)
def n352:List Nat := [0,1,2,6,7,9,10,11,15,19,21,22,23,24,26,30,31,39,46]
def t352:TC := tG n352 49 f352
theorem c352:TF E 352 n352 [(3,none),(4,none)] t352 49 := zi (F := f352)
def n354:List Nat := [0,2,3,5,6,7,8,9,10,14,16,17,18,19,21,25,30,31,32,33,36,61,63,67]
def t354:TC := tG n354 74 f354
theorem c354:TF E 354 n354 [(1,some 73),(2,none)] t354 74 := zi (F := f354)
def n355:List Nat := [0,1,2,3,4,5,47,49,50,51,52,55,92,107,114]
def t355:TC := tG n355 115 f355
theorem c355:TF E 355 n355 [(2,none)] t355 115 := zi (F := f355)
def n356:List Nat := [0,2,7]
def t356:TC := tG n356 8 f356
theorem c356:TF E 356 n356 [(1,none)] t356 8 := zi (F := f356)
def n359:List Nat := [0,1,2]
def t359:TC := tG n359 4 f359
theorem c359:TF E 359 n359 [(2,none)] t359 4 := zi (F := f359)
def n362:List Nat := [0,1,2,3,4]
def t362:TC := tG n362 17 f362
theorem c362:TF E 362 n362 [(4,none)] t362 17 := zi (F := f362)
def n363:List Nat := [0,2,3,4,5,8,13,25,32,44,59]
def t363:TC := tG n363 61 f363
theorem c363:TF E 363 n363 [(1,none)] t363 61 := zi (F := f363)
def n364:List Nat := [0,2,3,4,5,6,7,8,9,14,20,21,24,31,33,43,46,52,53,54,55,66]
def t364:TC := tG n364 69 f364
theorem c364:TF E 364 n364 [(1,some 73)] t364 69 := zi (F := f364)
def n365:List Nat := [0,2,3,5,6,8,9,10,11,12,20,24,25,26,27,28,33]
def t365:TC := tG n365 36 f365
theorem c365:TF E 365 n365 [(1,none)] t365 36 := zi (F := f365)
def n366:List Nat := [0,2,3,5,7,8,9,10,18]
def t366:TC := tG n366 22 f366
theorem c366:TF E 366 n366 [(1,some 55)] t366 22 := zi (F := f366)
def n367:List Nat := [0,2]
def t367:TC := tG n367 6 f367
theorem c367:TF E 367 n367 [(1,none)] t367 6 := zi (F := f367)
def n368:List Nat := [0,1,2,6]
def t368:TC := tG n368 15 f368
theorem c368:TF E 368 n368 [(3,none)] t368 15 := zi (F := f368)
def n369:List Nat := [0,1,2,3,4,5,6,7,8]
def t369:TC := tG n369 10 f369
theorem c369:TF E 369 n369 [(8,none)] t369 10 := zi (F := f369)
def n370:List Nat := [0,2,3,5,7,9,10,11,12,14,18,26]
def t370:TC := tG n370 29 f370
theorem c370:TF E 370 n370 [(1,none)] t370 29 := zi (F := f370)
def n375:List Nat := [0,2,3,4,5,6,7,8,9,10,13,15,36,38,44,63]
def t375:TC := tG n375 65 f375
theorem c375:TF E 375 n375 [(1,none)] t375 65 := zi (F := f375)
def n380:List Nat := [0,1,4,6,7,8,9,10,12,14,15,16,17,19,24,25]
def t380:TC := tG n380 28 f380
theorem c380:TF E 380 n380 [] t380 28 := zi (F := f380)
def n383:List Nat := [0,1,4,6,7,8]
def t383:TC := tG n383 23 f383
theorem c383:TF E 383 n383 [] t383 23 := zi (F := f383)
def n385:List Nat := [0,1,2,3,4,11,18,28,37,38]
def t385:TC := tG n385 39 f385
theorem c385:TF E 385 n385 [] t385 39 := zi (F := f385)
def n386:List Nat := [0,1,2,3,4]
def t386:TC := tG n386 17 f386
theorem c386:TF E 386 n386 [(4,none)] t386 17 := zi (F := f386)
def n387:List Nat := [0,1,2]
def t387:TC := tG n387 4 f387
theorem c387:TF E 387 n387 [(2,none)] t387 4 := zi (F := f387)
def n404:List Nat := [0,1,4,5,6,7,8,9,10,11,12,13,14,15,22,26,68,69,70,118,129,130]
def t404:TC := tG n404 144 f404
theorem c404:TF E 404 n404 [] t404 144 := zi (F := f404)
def n405:List Nat := [0,2,4,6,7,8,9]
def t405:TC := tG n405 19 f405
theorem c405:TF E 405 n405 [(1,none)] t405 19 := zi (F := f405)
def n406:List Nat := [0,1,4,5]
def t406:TC := tG n406 17 f406
theorem c406:TF E 406 n406 [(2,none)] t406 17 := zi (F := f406)
def n407:List Nat := [0,1,2,3,8]
def t407:TC := tG n407 23 f407
theorem c407:TF E 407 n407 [(4,none)] t407 23 := zi (F := f407)
def n424:List Nat := [0,1,2,3,4,5,6,7,8,9,16,17,18,19,20,21,22,23,24,25,26,28,71,72,78,84,91,111,112,118,125,143]
def t424:TC := tG n424 154 f424
theorem c424:TF E 424 n424 [(10,none)] t424 154 := zi (F := f424)
def n425:List Nat := [0,1,2,3,4,5,6,7,8,9,10,11,12,13,14,29,34,40,47,52,57,63]
def t425:TC := tG n425 118 f425
theorem c425:TF E 425 n425 [(0,none)] t425 118 := zi (F := f425)
def n426:List Nat := [0,1,2,3,6,7,8,9,10,11,12,13,14,15,16,17,18,19,20,21,22,37,42,49,64,97,116,121,124,137,159,168]
def t426:TC := tG n426 169 f426
theorem c426:TF E 426 n426 [(4,none)] t426 169 := zi (F := f426)
theorem ty_0:E.ty 0=⟨.struct [(0,10),(1,9),(2,14)],3,72,[(.imm .exact []),(.imm .exact []),(.imm .exact [])],false⟩ := rfl
theorem ty_1:E.ty 1=⟨.slice 2,1,24,[(.imm .exact [])],false⟩ := rfl
theorem ty_2:E.ty 2=⟨.int .i64,1,8,[(.int .i64 0)],false⟩ := rfl
theorem ty_3:E.ty 3=⟨.int .i64,1,8,[(.int .i64 0)],false⟩ := rfl
theorem ty_4:E.ty 4=⟨.slice 1,1,24,[(.imm .exact [])],false⟩ := rfl
theorem ty_6:E.ty 6=⟨.slice 2,1,24,[(.imm .exact [])],false⟩ := rfl
theorem ty_7:E.ty 7=⟨.bool,1,1,[(.bool false)],false⟩ := rfl
theorem ty_9:E.ty 9=⟨.slice 6,1,24,[(.imm .exact [])],false⟩ := rfl
theorem ylg:E.ty 10=⟨.slice 20,1,24,[(.imm .exact [])],false⟩ := rfl
theorem ylf:E.ty 11=⟨.struct [(0,2),(1,2)],2,16,[(.int .i64 0),(.int .i64 0)],true⟩ := rfl
theorem yle:E.ty 12=⟨.int .u64,1,8,[(.int .u64 0)],false⟩ := rfl
theorem ylc:E.ty 13=⟨.int .u8,1,1,[(.int .u8 0)],false⟩ := rfl
theorem ylb:E.ty 14=⟨.slice 15,1,24,[(.imm .exact [])],false⟩ := rfl
theorem yla:E.ty 15=⟨.struct [(0,2),(1,2),(2,6),(3,16)],4,64,[(.int .i64 0),(.int .i64 0),(.imm .exact []),(.imm .exact [])],false⟩ := rfl
theorem yl9:E.ty 16=⟨.slice 17,1,24,[(.imm .exact [])],false⟩ := rfl
theorem yl8:E.ty 17=⟨.struct [(0,2),(1,2),(2,2),(3,18)],4,48,[(.int .i64 0),(.int .i64 0),(.int .i64 0),(.imm .exact [])],false⟩ := rfl
theorem yl7:E.ty 18=⟨.slice 19,1,24,[(.imm .exact [])],false⟩ := rfl
theorem yl6:E.ty 19=⟨.struct [(0,20),(3,2)],4,32,[(.bool false),(.int .i64 0),(.int .i64 0),(.int .i64 0)],true⟩ := rfl
theorem yl5:E.ty 20=⟨.struct [(0,7),(1,2),(2,2)],3,24,[(.bool false),(.int .i64 0),(.int .i64 0)],true⟩ := rfl
theorem yl4:E.ty 21=⟨.map 20 7,1,8,[(.map none)],false⟩ := rfl
theorem yl3:E.ty 22=⟨.arr 4 2,4,32,[(.int .i64 0),(.int .i64 0),(.int .i64 0),(.int .i64 0)],true⟩ := rfl
theorem yl2:E.ty 26=⟨.map 20 2,1,8,[(.map none)],false⟩ := rfl
theorem yl1:E.ty 28=⟨.struct [(0,4),(1,6),(2,6),(3,31)],4,96,[(.imm .exact []),(.imm .exact []),(.imm .exact []),(.imm .exact [])],false⟩ := rfl
theorem yl0:E.ty 29=⟨.struct [(0,6),(1,6),(2,31)],3,72,[(.imm .exact []),(.imm .exact []),(.imm .exact [])],false⟩ := rfl
theorem ykz:E.ty 30=⟨.slice 13,1,24,[(.imm .exact [])],false⟩ := rfl
theorem yky:E.ty 31=⟨.slice 32,1,24,[(.imm .exact [])],false⟩ := rfl
theorem ykx:E.ty 32=⟨.struct [(0,1),(1,2),(2,9)],3,56,[(.imm .exact []),(.int .i64 0),(.imm .exact [])],false⟩ := rfl
theorem ykw:E.ty 33=⟨.func,1,8,[.nilfn],false⟩ := rfl
theorem ykv:E.ty 35=⟨.slice 1,1,24,[(.imm .exact [])],false⟩ := rfl
theorem yku:E.ty 36=⟨.slice 37,1,24,[(.imm .exact [])],false⟩ := rfl
theorem ykt:E.ty 37=⟨.struct [(0,2),(1,2),(2,2)],3,24,[(.int .i64 0),(.int .i64 0),(.int .i64 0)],true⟩ := rfl
theorem yks:E.ty 38=⟨.slice 39,1,24,[(.imm .exact [])],false⟩ := rfl
theorem ykr:E.ty 39=⟨.struct [(0,2),(1,9)],2,32,[(.int .i64 0),(.imm .exact [])],false⟩ := rfl
theorem ykq:E.ty 40=⟨.func,1,8,[.nilfn],false⟩ := rfl
theorem ykp:E.ty 53=⟨.str,1,16,[(.str [])],false⟩ := rfl
theorem yko:E.ty 55=⟨.struct [(0,2),(1,2),(2,53),(3,56)],4,56,[(.int .i64 0),(.int .i64 0),(.str []),(.imm .exact [])],false⟩ := rfl
theorem ykn:E.ty 56=⟨.slice 55,1,24,[(.imm .exact [])],false⟩ := rfl
theorem ykm:E.ty 57=⟨.arr 4 58,4,32,[.nilfn,.nilfn,.nilfn,.nilfn],false⟩ := rfl
theorem ykl:E.ty 58=⟨.struct [(0,59)],1,8,[.nilfn],false⟩ := rfl
theorem ykk:E.ty 59=⟨.func,1,8,[.nilfn],false⟩ := rfl
theorem ykj:E.ty 62=⟨.ptr 57,1,8,[.nilp],false⟩ := rfl
theorem yki:E.ty 63=⟨.int .u64,1,8,[(.int .u64 0)],false⟩ := rfl
theorem ykh:E.ty 64=⟨.arr 4 7,4,4,[(.bool false),(.bool false),(.bool false),(.bool false)],true⟩ := rfl
theorem ykg:E.ty 65=⟨.struct [(0,2),(1,2)],2,16,[(.int .i64 0),(.int .i64 0)],true⟩ := rfl
theorem ykf:E.ty 66=⟨.slice 72,1,24,[(.imm .exact [])],false⟩ := rfl
theorem yke:E.ty 67=⟨.slice 65,1,24,[(.imm .exact [])],false⟩ := rfl
theorem ykd:E.ty 70=⟨.slice 71,1,24,[(.imm .exact [])],false⟩ := rfl
theorem ykc:E.ty 71=⟨.struct [(0,2),(1,2),(2,2),(3,66),(4,73)],36,80,[(.int .i64 0),(.int .i64 0),(.int .i64 0),(.imm .exact []),(.int .u8 0),(.int .u8 0),(.int .u8 0),(.int .u8 0),(.int .u8 0),(.int .u8 0),(.int .u8 0),(.int .u8 0),(.int .u8 0),(.int .u8 0),(.int .u8 0),(.int .u8 0),(.int .u8 0),(.int .u8 0),(.int .u8 0),(.int .u8 0),(.int .u8 0),(.int .u8 0),(.int .u8 0),(.int .u8 0),(.int .u8 0),(.int .u8 0),(.int .u8 0),(.int .u8 0),(.int .u8 0),(.int .u8 0),(.int .u8 0),(.int .u8 0),(.int .u8 0),(.int .u8 0),(.int .u8 0),(.int .u8 0)],false⟩ := rfl
theorem ykb:E.ty 72=⟨.struct [(0,65),(2,2)],3,24,[(.int .i64 0),(.int .i64 0),(.int .i64 0)],true⟩ := rfl
theorem yka:E.ty 73=⟨.arr 32 13,32,32,[(.int .u8 0),(.int .u8 0),(.int .u8 0),(.int .u8 0),(.int .u8 0),(.int .u8 0),(.int .u8 0),(.int .u8 0),(.int .u8 0),(.int .u8 0),(.int .u8 0),(.int .u8 0),(.int .u8 0),(.int .u8 0),(.int .u8 0),(.int .u8 0),(.int .u8 0),(.int .u8 0),(.int .u8 0),(.int .u8 0),(.int .u8 0),(.int .u8 0),(.int .u8 0),(.int .u8 0),(.int .u8 0),(.int .u8 0),(.int .u8 0),(.int .u8 0),(.int .u8 0),(.int .u8 0),(.int .u8 0),(.int .u8 0)],true⟩ := rfl
theorem yk9:E.ty 74=⟨.slice 30,1,24,[(.imm .exact [])],false⟩ := rfl
theorem yk8:E.ty 75=⟨.map 65 2,1,8,[(.map none)],false⟩ := rfl
theorem yk7:E.ty 76=⟨.arr 8 78,8,32,[(.int .u32 0),(.int .u32 0),(.int .u32 0),(.int .u32 0),(.int .u32 0),(.int .u32 0),(.int .u32 0),(.int .u32 0)],true⟩ := rfl
theorem yk6:E.ty 77=⟨.arr 8 78,8,32,[(.int .u32 0),(.int .u32 0),(.int .u32 0),(.int .u32 0),(.int .u32 0),(.int .u32 0),(.int .u32 0),(.int .u32 0)],true⟩ := rfl
theorem yk5:E.ty 78=⟨.int .u32,1,4,[(.int .u32 0)],false⟩ := rfl
theorem yk4:E.ty 79=⟨.int .i64,1,8,[(.int .i64 0)],false⟩ := rfl
theorem yk3:E.ty 80=⟨.arr 64 78,64,256,[(.int .u32 0),(.int .u32 0),(.int .u32 0),(.int .u32 0),(.int .u32 0),(.int .u32 0),(.int .u32 0),(.int .u32 0),(.int .u32 0),(.int .u32 0),(.int .u32 0),(.int .u32 0),(.int .u32 0),(.int .u32 0),(.int .u32 0),(.int .u32 0),(.int .u32 0),(.int .u32 0),(.int .u32 0),(.int .u32 0),(.int .u32 0),(.int .u32 0),(.int .u32 0),(.int .u32 0),(.int .u32 0),(.int .u32 0),(.int .u32 0),(.int .u32 0),(.int .u32 0),(.int .u32 0),(.int .u32 0),(.int .u32 0),(.int .u32 0),(.int .u32 0),(.int .u32 0),(.int .u32 0),(.int .u32 0),(.int .u32 0),(.int .u32 0),(.int .u32 0),(.int .u32 0),(.int .u32 0),(.int .u32 0),(.int .u32 0),(.int .u32 0),(.int .u32 0),(.int .u32 0),(.int .u32 0),(.int .u32 0),(.int .u32 0),(.int .u32 0),(.int .u32 0),(.int .u32 0),(.int .u32 0),(.int .u32 0),(.int .u32 0),(.int .u32 0),(.int .u32 0),(.int .u32 0),(.int .u32 0),(.int .u32 0),(.int .u32 0),(.int .u32 0),(.int .u32 0)],true⟩ := rfl
theorem yk2:E.ty 81=⟨.slice 78,1,24,[(.imm .exact [])],false⟩ := rfl
theorem yk1:E.ty 82=⟨.int .u64,1,8,[(.int .u64 0)],false⟩ := rfl
end Dv
