/- Texts that a proof of this claim uses, joined: Lw.TCode. -/
import Derived.Test.YtfagnjchgplecaaDoorLwa
import Derived.Test.YtfagnjchgplecaaDoorCode
import Derived.KernelRfl
set_option linter.all false
namespace Dv
open Go (IntKind BinOp UnOp)

abbrev u9A(i:Nat)(k:Int):TS := .asg i (.c (.int .i64 k))
abbrev u9E(i:Nat)(o:DOp)(k:Xs)(r:Option Nat):TS := .eff none (some i) o k r
abbrev xl(t a:Nat)(x:Xp):Xp := .n (.load t (.t a)) (.cons a x .nil)
abbrev xn(t a:Nat)(x:Xp):Xp := .n (.len t (.t a)) (.cons a x .nil)
abbrev xf(t a k:Nat)(x:Xp):Xp := .n (.faddr t (.t a) k) (.cons a x .nil)
abbrev xe(a k:Nat)(x:Xp):Xp := .n (.extract (.t a) k) (.cons a x .nil)
abbrev xi(t a b:Nat)(x y:Xp):Xp := .n (.iaddr t (.t a) (.t b)) (.cons a x (.cons b y .nil))
abbrev xb(o:BinOp)(t a b:Nat)(x y:Xp):Xp := .n (.bin o t (.t a) (.t b)) (.cons a x (.cons b y .nil))
abbrev xk(o:BinOp)(t a:Nat)(c:D)(x:Xp):Xp := .n (.bin o t (.t a) (.c c)) (.cons a x .nil)

def n2:List Nat := [0,1,2,3,4,5,6,22,27,36,41,48,58,63,73]
def t2:TC := .seq (.run 0 [u9E 1 (.box 0 (.t 0)) (.cons 0 (.v 0) .nil) none,.asg 2 (.c (.bool false))]) (.seq (.seq (.run 0 [.asg 7 (.ite (.ite (xk .gtr 2 9 (.int .i64 12)
 (xn 10 8 (xl 10 7 (xf 0 1 0 (.v 1))))) (.c (.bool true)) (xk .gtr 2 14 (.int .i64 4) (xn 9 13 (xl 9 12 (xf 0 1 1 (.v 1)))))) (.c (.bool true)) (xk .gtr 2 20 (.int .i64 6) (xn
 14 19 (xl 14 18 (xf 0 1 2 (.v 1))))))]) (.cond 7 (.seq (.run 0 [.asg 2 (.c (.bool false))]) (.ret)) (.skip))) (.seq (.seq (.run 0 [u9A 3 0]) (.block 0 (.loop
 (.seq (.seq (.run 0 [.asg 8 (xb .lss 2 23 26 (.v 3) (xn 9 25 (xl 9 24 (xf 0 1 1 (.v 1)))))]) (.cond 8 (.skip) (.exit 0))) (.seq (.block 1 (.seq (.run 0 [.asg 9 (xk .gtr 2 35
 (.int .i64 16) (xn 6 34 (xl 6 33 (xi 9 31 32 (xl 9 30 (xf 0 1 1 (.v 1))) (.v 3)))))]) (.cond 9 (.seq (.run 0 [.asg 2 (.c (.bool false))]) (.ret)) (.skip)))) (.run 0 [.asg 3
 (xk .add 2 28 (.int .i64 1) (.v 3))])))))) (.seq (.seq (.run 0 [u9A 4 0]) (.block 2 (.loop (.seq (.seq (.run 0 [.asg 10 (xb .lss 2 37 40 (.v 4) (xn 14 39
 (xl 14 38 (xf 0 1 2 (.v 1)))))]) (.cond 10 (.skip) (.exit 2))) (.seq (.block 3 (.seq (.run 0 [.asg 11 (xl 15 47 (xi 14 45 46 (xl 14 44 (xf 0 1 2 (.v 1))) (.v 4))),u9E 5 (.alloc 15) .nil none,.eff none none (.store 15 (.t 5) (.t 48)) (.cons 5 (.v 5) (.cons 48 (.v 11) .nil)) none]) (.seq (.seq (.run 0 [.asg 12 (.ite (xk .gtr 2 51 (.int
 .i64 8) (xn 6 50 (xl 6 49 (xf 15 5 2 (.v 5))))) (.c (.bool true)) (xk .gtr 2 56 (.int .i64 8) (xn 16 55 (xl 16 54 (xf 15 5 3 (.v 5))))))]) (.cond 12 (.seq (.run 0 [.asg 2 (.c
 (.bool false))]) (.ret)) (.skip))) (.seq (.run 0 [u9A 6 0]) (.block 4 (.loop (.seq (.seq (.run 0 [.asg 13 (xb .lss 2 59 62 (.v 6) (xn 16 61 (xl 16 60 (xf
 15 5 3 (.v 5)))))]) (.cond 13 (.skip) (.exit 4))) (.seq (.block 5 (.seq (.run 0 [.asg 14 (xk .gtr 2 72 (.int .i64 12) (xn 18 71 (xl 18 70 (xf 17 69 3 (xi 16 67 68 (xl 16 66
 (xf 15 5 3 (.v 5))) (.v 6))))))]) (.cond 14 (.seq (.run 0 [.asg 2 (.c (.bool false))]) (.ret)) (.skip)))) (.run 0 [.asg 6 (xk .add 2 64 (.int .i64 1) (.v 6))]))))))))) (.run
 0 [.asg 4 (xk .add 2 42 (.int .i64 1) (.v 4))])))))) (.seq (.run 0 [.asg 2 (xk .lss 2 75 (.int .i64 2000) (.n (.call 0 (.f 61) [(.t 74),(.c (.int .i64 2000))]) (.cons 74 (xl
 0 1 (.v 1)) .nil)))]) (.ret)))))
theorem c2:TF E 2 n2 [(2,none)] t2 77 := zk (F := f2) rfl (by kernel_rfl) (by decide)

def n15:List Nat := [0,1,2,3,5,7,9,11,12,14,37,38,40,41,42,43,45,53,58,59,60,61,73,76,77,78,79,81,119,121,122,123,124,126,151,153,154,155,156,158,169]
def t15:TC := .seq (.run 0 [u9E 1 (.box 0 (.t 0)) (.cons 0 (.v 0) .nil) none,u9A 2 0]) (.seq (.seq (.run 0 [.asg 10 (.ite (.ite (.ite (xk .gtr 2 17 (.int
 .i64 4096) (xn 10 16 (xl 10 15 (xf 0 1 0 (.v 1))))) (.c (.bool true)) (.n (.un .not (.t 23)) (.cons 23 (.n (.call 0 (.f 67) [(.t 22),(.c (.int .i64 1)),(.c (.int .i64 32))])
 (.cons 22 (xn 9 21 (xl 9 20 (xf 0 1 1 (.v 1)))) .nil)) .nil))) (.c (.bool true)) (xk .gtr 2 29 (.int .i64 64) (xn 14 28 (xl 14 27 (xf 0 1 2 (.v 1)))))) (.c (.bool true)) (.n
 (.un .not (.t 35)) (.cons 35 (.n (.call 0 (.f 69) [(.t 34),(.f 70)]) (.cons 34 (xl 10 33 (xf 0 1 0 (.v 1))) .nil)) .nil)))]) (.cond 10 (.seq (.run 0 [u9A 2 270]) (.ret)) (.skip))) (.seq (.run 0 [u9E 11 (.mkmap 21) .nil none,.asg 3 (.v 11)]) (.seq (.seq (.run 0 [.asg 12 (xl 10 39 (xf 0 1 0 (.v 1))),.asg 13 (xn
 10 40 (.v 12)),u9A 14 0]) (.block 0 (.loop (.seq (.run 0 [.asg 15 (xb .lss 2 42 41 (.v 14) (.v 13))]) (.seq (.cond 15 (.skip) (.exit 0)) (.seq (.block 1
 (.seq (.run 0 [.asg 16 (xl 20 44 (xi 10 40 42 (.v 12) (.v 14))),u9E 4 (.alloc 20) .nil none,.eff none none (.store 20 (.t 5) (.t 45)) (.cons 5 (.v 4) (.cons
 45 (.v 16) .nil)) none]) (.seq (.seq (.run 0 [.asg 17 (.ite (xk .lss 2 47 (.int .i64 0) (xl 2 46 (xf 20 5 1 (.v 4)))) (.c (.bool true)) (xk .lss 2 51 (.int .i64 0) (xl 2 50
 (xf 20 5 2 (.v 4)))))]) (.cond 17 (.seq (.run 0 [u9A 2 270]) (.ret)) (.skip))) (.run 0 [.eff none none (.mapset 21 (.t 54) (.t 55) (.c (.bool true))) (.cons
 54 (.v 3) (.cons 55 (xl 20 5 (.v 4)) .nil)) none])))) (.run 0 [.asg 14 (xk .add 2 42 (.int .i64 1) (.v 14))]))))))) (.seq (.seq (.run 0 [.asg 18 (xl 9 57 (xf 0 1 1 (.v 1))),
 .asg 19 (xn 9 58 (.v 18)),u9A 20 0]) (.block 2 (.loop (.seq (.run 0 [.asg 21 (xb .lss 2 60 59 (.v 20) (.v 19))]) (.seq (.cond 21 (.skip) (.exit 2)) (.seq
 (.block 3 (.seq (.run 0 [.asg 5 (xl 6 62 (xi 9 58 60 (.v 18) (.v 20)))]) (.seq (.run 0 [.asg 22 (.ite (xb .neq 2 65 68 (xn 6 64 (.v 5)) (xn 10 67 (xl 10 66 (xf 0 1 0 (.v 1)))))
 (.c (.bool true)) (.n (.call 0 (.f 71) [(.t 71),(.f 72)]) (.cons 71 (.v 5) .nil)))]) (.cond 22 (.seq (.run 0 [u9A 2 270]) (.ret)) (.skip))))) (.run 0 [.asg
 20 (xk .add 2 60 (.int .i64 1) (.v 20))]))))))) (.seq (.seq (.run 0 [.asg 23 (xl 14 75 (xf 0 1 2 (.v 1))),.asg 24 (xn 14 76 (.v 23)),u9A 25 0]) (.block
 4 (.loop (.seq (.run 0 [.asg 26 (xb .lss 2 78 77 (.v 25) (.v 24))]) (.seq (.cond 26 (.skip) (.exit 4)) (.seq (.block 5 (.seq (.run 0 [.asg 27 (xl 15 80 (xi 14 76 78 (.v 23)
 (.v 25))),u9E 6 (.alloc 15) .nil none,.eff none none (.store 15 (.t 9) (.t 81)) (.cons 9 (.v 6) (.cons 81 (.v 27) .nil)) none]) (.seq (.seq (.run 38 [.asg 28
 (.ite (.ite (.ite (.ite (xk .eql 2 84 (.int .i64 0) (xn 6 83 (xl 6 82 (xf 15 9 2 (.v 6))))) (.c (.bool true)) (.n (.un .not (.t 90)) (.cons 90 (.n (.call 0 (.f 67) [(.t 89),
 (.c (.int .i64 1)),(.c (.int .i64 96))]) (.cons 89 (xn 16 88 (xl 16 87 (xf 15 9 3 (.v 6)))) .nil)) .nil))) (.c (.bool true)) (.n (.un .not (.t 96)) (.cons 96 (.n (.call 0
 (.f 73) [(.t 95),(.f 74)]) (.cons 95 (xl 6 94 (xf 15 9 2 (.v 6))) .nil)) .nil))) (.c (.bool true)) (xk .lss 2 103 (.int .i64 0) (xl 2 102 (.n (.iaddr 6 (.t 101) (.c (.int
 .i64 0))) (.cons 101 (xl 6 100 (xf 15 9 2 (.v 6))) .nil))))) (.c (.bool true)) (xb .geq 2 114 117 (xl 2 113 (xi 6 108 112 (xl 6 107 (xf 15 9 2 (.v 6))) (xk .sub 2 111 (.int
 .i64 1) (xn 6 110 (xl 6 109 (xf 15 9 2 (.v 6))))))) (xn 9 116 (xl 9 115 (xf 0 1 1 (.v 1))))))]) (.cond 28 (.seq (.run 0 [u9A 2 270]) (.ret)) (.skip))) (.seq
 (.run 0 [.asg 29 (xl 16 120 (xf 15 9 3 (.v 6))),.asg 30 (xn 16 121 (.v 29)),u9A 31 0]) (.block 6 (.loop (.seq (.run 0 [.asg 32 (xb .lss 2 123 122 (.v 31)
 (.v 30))]) (.seq (.cond 32 (.skip) (.exit 6)) (.seq (.block 7 (.seq (.run 0 [.asg 33 (xl 17 125 (xi 16 121 123 (.v 29) (.v 31))),u9E 7 (.alloc 17) .nil none,
 .eff none none (.store 17 (.t 11) (.t 126)) (.cons 11 (.v 7) (.cons 126 (.v 33) .nil)) none]) (.seq (.run 0 [u9A 8 1048576]) (.seq (.seq (.run 0 [.asg 34
 (.ite (.ite (.ite (.n (.un .not (.t 130)) (.cons 130 (.n (.call 0 (.f 67) [(.t 128),(.c (.int .i64 0)),(.t 129)]) (.cons 128 (xl 2 127 (xf 17 11 0 (.v 7))) (.cons 129 (.v
 8) .nil))) .nil)) (.c (.bool true)) (.n (.un .not (.t 136)) (.cons 136 (.n (.call 0 (.f 67) [(.t 134),(.c (.int .i64 0)),(.t 135)]) (.cons 134 (xl 2 133 (xf 17 11 1 (.v 7)))
 (.cons 135 (.v 8) .nil))) .nil))) (.c (.bool true)) (.n (.un .not (.t 143)) (.cons 143 (.n (.call 0 (.f 67) [(.t 141),(.c (.int .i64 0)),(.t 142)]) (.cons 141 (xl 2 140 (xf
 17 11 2 (.v 7))) (.cons 142 (.v 8) .nil))) .nil))) (.c (.bool true)) (.n (.un .not (.t 149)) (.cons 149 (.n (.call 0 (.f 75) [(.t 148),(.f 76)]) (.cons 148 (xl 18 147 (xf
 17 11 3 (.v 7))) .nil)) .nil)))]) (.cond 34 (.seq (.run 0 [u9A 2 270]) (.ret)) (.skip))) (.seq (.run 0 [.asg 35 (xl 18 152 (xf 17 11 3 (.v 7))),.asg 36 (xn
 18 153 (.v 35)),u9A 37 0]) (.block 8 (.loop (.seq (.run 0 [.asg 38 (xb .lss 2 155 154 (.v 37) (.v 36))]) (.seq (.cond 38 (.skip) (.exit 8)) (.seq (.block
 9 (.seq (.run 0 [.asg 39 (xl 19 157 (xi 18 153 155 (.v 35) (.v 37))),u9E 9 (.alloc 19) .nil none,.eff none none (.store 19 (.t 14) (.t 158)) (.cons 14 (.v 9)
 (.cons 158 (.v 39) .nil)) none]) (.seq (.run 0 [.asg 40 (.ite (.n (.un .not (.t 162)) (.cons 162 (.n (.lookup 21 (.t 159) (.t 161) false) (.cons 159 (.v 3) (.cons 161 (xl 20
 160 (xf 19 14 0 (.v 9))) .nil))) .nil)) (.c (.bool true)) (.n (.un .not (.t 167)) (.cons 167 (.n (.call 0 (.f 67) [(.t 166),(.c (.int .i64 1)),(.c (.int .i64 8))]) (.cons
 166 (xl 2 165 (xf 19 14 1 (.v 9))) .nil)) .nil)))]) (.cond 40 (.seq (.run 0 [u9A 2 270]) (.ret)) (.skip))))) (.run 0 [.asg 37 (xk .add 2 155 (.int .i64 1)
 (.v 37))]))))))))))) (.run 0 [.asg 31 (xk .add 2 123 (.int .i64 1) (.v 31))])))))))))) (.run 0 [.asg 25 (xk .add 2 78 (.int .i64 1) (.v 25))]))))))) (.seq (.run 0 [u9A 2 0]) (.ret)))))))
theorem c15:TF E 15 n15 [(2,none)] t15 173 := zk (F := f15) rfl (by kernel_rfl) (by decide)

def n19:List Nat := [0,1,2,3,4,5,6,28,33,70,75,87,92,104,109,119]
def t19:TC := .seq (.run 0 [u9E 1 (.box 0 (.t 0)) (.cons 0 (.v 0) .nil) none,u9A 2 0]) (.seq (.seq (.run 0 [.asg 7 (.ite (.ite (.ite (xk .gtr 2 9 (.int .i64
 4096) (xn 10 8 (xl 10 7 (xf 0 1 0 (.v 1))))) (.c (.bool true)) (xk .lss 2 14 (.int .i64 1) (xn 9 13 (xl 9 12 (xf 0 1 1 (.v 1)))))) (.c (.bool true)) (xk .gtr 2 20 (.int .i64
 32) (xn 9 19 (xl 9 18 (xf 0 1 1 (.v 1)))))) (.c (.bool true)) (xk .gtr 2 26 (.int .i64 64) (xn 14 25 (xl 14 24 (xf 0 1 2 (.v 1))))))]) (.cond 7 (.seq (.run 0 [u9A 2 270]) (.ret)) (.skip))) (.seq (.seq (.run 0 [u9A 3 0]) (.block 0 (.loop (.seq (.seq (.run 0 [.asg 8 (xb .lss 2 29 32 (.v 3) (xn 10 31 (xl 10 30 (xf
 0 1 0 (.v 1)))))]) (.cond 8 (.skip) (.exit 0))) (.seq (.block 1 (.seq (.run 35 [.asg 9 (.ite (.ite (xk .lss 2 41 (.int .i64 0) (xl 2 40 (xf 20 39 1 (xi 10 37 38 (xl 10 36 (xf
 0 1 0 (.v 1))) (.v 3))))) (.c (.bool true)) (xk .lss 2 49 (.int .i64 0) (xl 2 48 (xf 20 47 2 (xi 10 45 46 (xl 10 44 (xf 0 1 0 (.v 1))) (.v 3)))))) (.c (.bool true)) (.ite (xk
 .gtr 2 53 (.int .i64 0) (.v 3)) (.n (.un .not (.t 67)) (.cons 67 (.n (.call 0 (.f 81) [(.t 61),(.t 66)]) (.cons 61 (xl 20 60 (xi 10 57 59 (xl 10 56 (xf 0 1 0 (.v 1))) (xk
 .sub 2 58 (.int .i64 1) (.v 3)))) (.cons 66 (xl 20 65 (xi 10 63 64 (xl 10 62 (xf 0 1 0 (.v 1))) (.v 3))) .nil))) .nil)) (.c (.bool false))))]) (.cond 9 (.seq (.run 0 [u9A 2 270]) (.ret)) (.skip)))) (.run 0 [.asg 3 (xk .add 2 34 (.int .i64 1) (.v 3))])))))) (.seq (.seq (.run 0 [u9A 4 0]) (.block 2 (.loop (.seq
 (.seq (.run 0 [.asg 10 (xb .lss 2 71 74 (.v 4) (xn 9 73 (xl 9 72 (xf 0 1 1 (.v 1)))))]) (.cond 10 (.skip) (.exit 2))) (.seq (.block 3 (.seq (.seq (.run 10 [.asg 11 (xb .neq
 2 83 86 (xn 6 82 (xl 6 81 (xi 9 79 80 (xl 9 78 (xf 0 1 1 (.v 1))) (.v 4)))) (xn 10 85 (xl 10 84 (xf 0 1 0 (.v 1)))))]) (.cond 11 (.seq (.run 0 [u9A 2 270])
 (.ret)) (.skip))) (.seq (.run 0 [u9A 5 0]) (.block 4 (.loop (.seq (.seq (.run 0 [.asg 12 (xb .lss 2 88 91 (.v 5) (xn 10 90 (xl 10 89 (xf 0 1 0 (.v 1)))))])
 (.cond 12 (.skip) (.exit 4))) (.seq (.block 5 (.seq (.run 0 [.asg 13 (.n (.un .not (.t 103)) (.cons 103 (.n (.call 0 (.f 79) [(.t 102),(.c (.int .i64 0)),(.c (.int .i64 4096))])
 (.cons 102 (xl 2 101 (xi 6 99 100 (xl 6 98 (xi 9 96 97 (xl 9 95 (xf 0 1 1 (.v 1))) (.v 4))) (.v 5))) .nil)) .nil))]) (.cond 13 (.seq (.run 0 [u9A 2 270])
 (.ret)) (.skip)))) (.run 0 [.asg 5 (xk .add 2 93 (.int .i64 1) (.v 5))])))))))) (.run 0 [.asg 4 (xk .add 2 76 (.int .i64 1) (.v 4))])))))) (.seq (.seq (.run 0 [u9A 6 0]) (.block 6 (.loop (.seq (.seq (.run 0 [.asg 14 (xb .lss 2 105 108 (.v 6) (xn 14 107 (xl 14 106 (xf 0 1 2 (.v 1)))))]) (.cond 14 (.skip) (.exit 6))) (.seq (.block
 7 (.seq (.run 8 [.asg 15 (.n (.un .not (.t 118)) (.cons 118 (.n (.call 0 (.f 82) [(.t 112),(.t 117)]) (.cons 112 (xl 0 1 (.v 1)) (.cons 117 (xl 15 116 (xi 14 114 115 (xl 14
 113 (xf 0 1 2 (.v 1))) (.v 6))) .nil))) .nil))]) (.cond 15 (.seq (.run 0 [u9A 2 270]) (.ret)) (.skip)))) (.run 0 [.asg 6 (xk .add 2 110 (.int .i64 1) (.v
 6))])))))) (.seq (.run 0 [u9A 2 0]) (.ret))))))
theorem c19:TF E 19 n19 [(2,none)] t19 120 := zk (F := f19) rfl (by kernel_rfl) (by decide)

def n61:List Nat := [0,1,2,4,5,6,16]
def t61:TC := .seq (.run 0 [u9E 2 (.box 0 (.t 0)) (.cons 0 (.v 0) .nil) none,u9A 3 0]) (.seq (.run 0 [u9A 4 1]) (.seq (.seq (.run 0 [u9A 5 0]) (.block 0 (.loop (.seq (.seq (.run 0 [.asg 6 (.ite (xb .lss 2 7 10 (.v 5) (xn 14 9 (xl 14 8 (xf 0 2 2 (.v 2))))) (xb .lss 2 13 14 (.v 4) (.v 1)) (.c
 (.bool false)))]) (.cond 6 (.skip) (.exit 0))) (.seq (.block 1 (.run 0 [.asg 4 (xb .mul 2 19 27 (.v 4) (.n (.maxi [(.c (.int .i64 1)),(.t 26)]) (.cons 26 (xn 16 25 (xl 16
 24 (xf 15 23 3 (xi 14 21 22 (xl 14 20 (xf 0 2 2 (.v 2))) (.v 5))))) .nil)))])) (.run 0 [.asg 5 (xk .add 2 17 (.int .i64 1) (.v 5))])))))) (.seq (.run 0 [.asg 3 (.n (.mini [(.t
 29),(.t 30)]) (.cons 29 (.v 4) (.cons 30 (.v 1) .nil)))]) (.ret))))
theorem c61:TF E 61 n61 [(3,none)] t61 32 := zk (F := f61) rfl (by kernel_rfl) (by decide)

def n67:List Nat := [0,1,2,6]
def t67:TC := .seq (.run 0 [.asg 3 (.c (.bool false))]) (.seq (.run 0 [.asg 3 (.ite (xb .leq 2 7 8 (.v 1) (.v 0)) (xb .leq 2 11 12 (.v 0) (.v 2)) (.c (.bool false)))]) (.ret))
theorem c67:TF E 67 n67 [(3,none)] t67 15 := zk (F := f67) rfl (by kernel_rfl) (by decide)

def n69:List Nat := [0,1,4,5,9,23]
def t69:TC := .seq (.run 0 [.asg 2 (.c (.bool false))]) (.seq (.seq (.run 0 [u9A 3 1]) (.block 0 (.loop (.seq (.seq (.run 0 [.asg 4 (xb .lss 2 6 8 (.v 3) (xn 10 7 (.v 0)))])
 (.cond 4 (.skip) (.exit 0))) (.seq (.block 1 (.seq (.run 12 [.asg 5 (xk .geq 2 22 (.int .i64 0) (.n (.call 0 (.t 12) [(.t 17),(.t 21)]) (.cons 12 (.v 1) (.cons 17 (xl 20 16
 (xi 10 13 15 (.v 0) (xk .sub 2 14 (.int .i64 1) (.v 3)))) (.cons 21 (xl 20 20 (xi 10 18 19 (.v 0) (.v 3))) .nil)))))]) (.cond 5 (.seq (.run 0 [.asg 2 (.c (.bool false))]) (.ret))
 (.skip)))) (.run 0 [.asg 3 (xk .add 2 10 (.int .i64 1) (.v 3))])))))) (.seq (.run 0 [.asg 2 (.c (.bool true))]) (.ret)))
theorem c69:TF E 69 n69 [(2,none)] t69 24 := zk (F := f69) rfl (by kernel_rfl) (by decide)

def n70:List Nat := [0,1,2,3,4,9,11]
def t70:TC := .seq (.run 0 [u9E 2 (.box 20 (.t 0)) (.cons 0 (.v 0) .nil) none,u9E 3 (.box 20 (.t 1)) (.cons 1 (.v 1) .nil) none,u9A 4 0]) (.seq
 (.seq (.run 0 [.asg 5 (xb .neq 7 6 8 (xl 7 5 (xf 20 2 0 (.v 2))) (xl 7 7 (xf 20 3 0 (.v 3))))]) (.cond 5 (.seq (.seq (.run 0 [.asg 6 (xl 7 10 (xf 20 3 0 (.v 3)))]) (.cond 6
 (.seq (.run 0 [.asg 4 (.c (.int .i64 (-1)))]) (.ret)) (.skip))) (.seq (.run 0 [u9A 4 1]) (.ret))) (.skip))) (.seq (.run 13 [.asg 4 (.n (.call 0 (.f 105) [(.t
 22)]) (.cons 22 (.n (.bslice false 6 2 [(0,(.t 16)),(1,(.t 21))]) (.cons 16 (.n (.call 0 (.f 74) [(.t 13),(.t 15)]) (.cons 13 (xl 2 12 (xf 20 2 1 (.v 2))) (.cons 15 (xl
 2 14 (xf 20 3 1 (.v 3))) .nil))) (.cons 21 (.n (.call 0 (.f 74) [(.t 18),(.t 20)]) (.cons 18 (xl 2 17 (xf 20 2 2 (.v 2))) (.cons 20 (xl 2 19 (xf 20 3 2 (.v 3))) .nil))) .nil)))
 .nil))]) (.ret)))
theorem c70:TF E 70 n70 [(4,none)] t70 24 := zk (F := f70) rfl (by kernel_rfl) (by decide)

def n71:List Nat := [0,1,4]
def t71:TC := .seq (.run 0 [.asg 2 (.c (.bool false))]) (.seq (.run 0 [.asg 2 (xk .geq 2 7 (.int .i64 0) (.n (.call 0 (.f 106) [(.t 5),(.t 6)]) (.cons 5 (.v 0) (.cons 6 (.v 1) .nil))))])
 (.ret))
theorem c71:TF E 71 n71 [(2,none)] t71 9 := zk (F := f71) rfl (by kernel_rfl) (by decide)

def n72:List Nat := [0,2]
def t72:TC := .seq (.run 0 [.asg 1 (.c (.bool false))]) (.seq (.run 0 [.asg 1 (.n (.un .not (.t 4)) (.cons 4 (.n (.call 0 (.f 67) [(.t 3),(.c (.int .i64 0)),(.c (.int .i64 4096))]) (.cons
 3 (.v 0) .nil)) .nil))]) (.ret))
theorem c72:TF E 72 n72 [(1,none)] t72 6 := zk (F := f72) rfl (by kernel_rfl) (by decide)

def n73:List Nat := [0,1,4,5,9,23]
def t73:TC := .seq (.run 0 [.asg 2 (.c (.bool false))]) (.seq (.seq (.run 0 [u9A 3 1]) (.block 0 (.loop (.seq (.seq (.run 0 [.asg 4 (xb .lss 2 6 8 (.v 3) (xn 6 7 (.v 0)))])
 (.cond 4 (.skip) (.exit 0))) (.seq (.block 1 (.seq (.run 12 [.asg 5 (xk .geq 2 22 (.int .i64 0) (.n (.call 0 (.t 12) [(.t 17),(.t 21)]) (.cons 12 (.v 1) (.cons 17 (xl 2 16
 (xi 6 13 15 (.v 0) (xk .sub 2 14 (.int .i64 1) (.v 3)))) (.cons 21 (xl 2 20 (xi 6 18 19 (.v 0) (.v 3))) .nil)))))]) (.cond 5 (.seq (.run 0 [.asg 2 (.c (.bool false))]) (.ret))
 (.skip)))) (.run 0 [.asg 3 (xk .add 2 10 (.int .i64 1) (.v 3))])))))) (.seq (.run 0 [.asg 2 (.c (.bool true))]) (.ret)))
theorem c73:TF E 73 n73 [(2,none)] t73 24 := zk (F := f73) rfl (by kernel_rfl) (by decide)

def n74:List Nat := [0,1,4,5,6,11,12,13,16,19]
def t74:TC := .seq (.run 0 [u9A 2 0]) (.seq (.run 0 [.asg 3 (.n (.call 0 (.f 107) [(.t 7)]) (.cons 7 (.v 0) .nil))]) (.seq (.run 0 [.asg 4 (.n (.call 0 (.f 107) [(.t 9)])
 (.cons 9 (.v 1) .nil))]) (.seq (.seq (.run 0 [.asg 5 (.v 3)]) (.cond 5 (.seq (.seq (.run 0 [.asg 6 (.v 4)]) (.cond 6 (.seq (.run 0 [u9A 2 0]) (.ret)) (.skip)))
 (.seq (.run 0 [.asg 2 (.c (.int .i64 (-1)))]) (.ret))) (.skip))) (.seq (.seq (.run 0 [.asg 7 (.v 4)]) (.cond 7 (.seq (.run 0 [u9A 2 1]) (.ret)) (.skip)))
 (.seq (.seq (.run 0 [.asg 8 (xb .lss 2 14 15 (.v 0) (.v 1))]) (.cond 8 (.seq (.run 0 [.asg 2 (.c (.int .i64 (-1)))]) (.ret)) (.skip))) (.seq (.seq (.run 0 [.asg 9 (xb .gtr
 2 17 18 (.v 0) (.v 1))]) (.cond 9 (.seq (.run 0 [u9A 2 1]) (.ret)) (.skip))) (.seq (.run 0 [u9A 2 0]) (.ret))))))))
theorem c74:TF E 74 n74 [(2,none)] t74 20 := zk (F := f74) rfl (by kernel_rfl) (by decide)

def n75:List Nat := [0,1,4,5,9,23]
def t75:TC := .seq (.run 0 [.asg 2 (.c (.bool false))]) (.seq (.seq (.run 0 [u9A 3 1]) (.block 0 (.loop (.seq (.seq (.run 0 [.asg 4 (xb .lss 2 6 8 (.v 3) (xn 18 7 (.v 0)))])
 (.cond 4 (.skip) (.exit 0))) (.seq (.block 1 (.seq (.run 12 [.asg 5 (xk .geq 2 22 (.int .i64 0) (.n (.call 0 (.t 12) [(.t 17),(.t 21)]) (.cons 12 (.v 1) (.cons 17 (xl 19 16
 (xi 18 13 15 (.v 0) (xk .sub 2 14 (.int .i64 1) (.v 3)))) (.cons 21 (xl 19 20 (xi 18 18 19 (.v 0) (.v 3))) .nil)))))]) (.cond 5 (.seq (.run 0 [.asg 2 (.c (.bool false))]) (.ret))
 (.skip)))) (.run 0 [.asg 3 (xk .add 2 10 (.int .i64 1) (.v 3))])))))) (.seq (.run 0 [.asg 2 (.c (.bool true))]) (.ret)))
theorem c75:TF E 75 n75 [(2,none)] t75 24 := zk (F := f75) rfl (by kernel_rfl) (by decide)

def n76:List Nat := [0,1,2,3,4]
def t76:TC := .seq (.run 0 [u9E 2 (.box 19 (.t 0)) (.cons 0 (.v 0) .nil) none,u9E 3 (.box 19 (.t 1)) (.cons 1 (.v 1) .nil) none,u9A 4 0]) (.seq
 (.run 0 [.asg 4 (.n (.call 0 (.f 70) [(.t 6),(.t 8)]) (.cons 6 (xl 20 5 (xf 19 2 0 (.v 2))) (.cons 8 (xl 20 7 (xf 19 3 0 (.v 3))) .nil)))]) (.ret))
theorem c76:TF E 76 n76 [(4,none)] t76 10 := zk (F := f76) rfl (by kernel_rfl) (by decide)

def n79:List Nat := [0,1,2,6]
def t79:TC := .seq (.run 0 [.asg 3 (.c (.bool false))]) (.seq (.run 0 [.asg 3 (.ite (xb .leq 2 7 8 (.v 1) (.v 0)) (xb .leq 2 11 12 (.v 0) (.v 2)) (.c (.bool false)))]) (.ret))
theorem c79:TF E 79 n79 [(3,none)] t79 15 := zk (F := f79) rfl (by kernel_rfl) (by decide)

def n81:List Nat := [0,1,2,3,4,9,16]
def t81:TC := .seq (.run 0 [u9E 2 (.box 20 (.t 0)) (.cons 0 (.v 0) .nil) none,u9E 3 (.box 20 (.t 1)) (.cons 1 (.v 1) .nil) none,.asg 4 (.c (.bool false))]) (.seq
 (.seq (.run 0 [.asg 5 (xb .neq 7 6 8 (xl 7 5 (xf 20 2 0 (.v 2))) (xl 7 7 (xf 20 3 0 (.v 3))))]) (.cond 5 (.seq (.run 0 [.asg 4 (xl 7 10 (xf 20 3 0 (.v 3)))]) (.ret)) (.skip)))
 (.seq (.seq (.run 0 [.asg 6 (xb .neq 2 13 15 (xl 2 12 (xf 20 2 1 (.v 2))) (xl 2 14 (xf 20 3 1 (.v 3))))]) (.cond 6 (.seq (.run 0 [.asg 4 (xb .lss 2 18 20 (xl 2 17 (xf 20 2
 1 (.v 2))) (xl 2 19 (xf 20 3 1 (.v 3))))]) (.ret)) (.skip))) (.seq (.run 0 [.asg 4 (xb .lss 2 23 25 (xl 2 22 (xf 20 2 2 (.v 2))) (xl 2 24 (xf 20 3 2 (.v 3))))]) (.ret))))
theorem c81:TF E 81 n81 [(4,none)] t81 27 := zk (F := f81) rfl (by kernel_rfl) (by decide)

def n82:List Nat := [0,1,2,3,4,5,6,7,8,9,25,30,61,66,73,89,94,101,130]
def t82:TC := .seq (.run 0 [u9E 2 (.box 0 (.t 0)) (.cons 0 (.v 0) .nil) none,u9E 3 (.box 15 (.t 1)) (.cons 1 (.v 1) .nil) none,.asg 4 (.c (.bool false))]) (.seq
 (.seq (.run 0 [.asg 10 (.ite (.ite (xk .lss 2 12 (.int .i64 1) (xn 6 11 (xl 6 10 (xf 15 3 2 (.v 3))))) (.c (.bool true)) (xk .lss 2 17 (.int .i64 1) (xn 16 16 (xl 16 15 (xf
 15 3 3 (.v 3)))))) (.c (.bool true)) (xk .gtr 2 23 (.int .i64 96) (xn 16 22 (xl 16 21 (xf 15 3 3 (.v 3))))))]) (.cond 10 (.seq (.run 0 [.asg 4 (.c (.bool false))]) (.ret))
 (.skip))) (.seq (.seq (.run 0 [u9A 5 0]) (.block 0 (.loop (.seq (.seq (.run 0 [.asg 11 (xb .lss 2 26 29 (.v 5) (xn 6 28 (xl 6 27 (xf 15 3 2 (.v 3)))))]) (.cond
 11 (.skip) (.exit 0))) (.seq (.block 1 (.seq (.run 29 [.asg 12 (.ite (.n (.un .not (.t 42)) (.cons 42 (.n (.call 0 (.f 79) [(.t 37),(.c (.int .i64 0)),(.t 41)]) (.cons 37
 (xl 2 36 (xi 6 34 35 (xl 6 33 (xf 15 3 2 (.v 3))) (.v 5))) (.cons 41 (xk .sub 2 40 (.int .i64 1) (xn 9 39 (xl 9 38 (xf 0 2 1 (.v 2))))) .nil))) .nil)) (.c (.bool true)) (.ite
 (xk .gtr 2 45 (.int .i64 0) (.v 5)) (xb .geq 2 53 58 (xl 2 52 (xi 6 49 51 (xl 6 48 (xf 15 3 2 (.v 3))) (xk .sub 2 50 (.int .i64 1) (.v 5)))) (xl 2 57 (xi 6 55 56 (xl 6 54 (xf
 15 3 2 (.v 3))) (.v 5)))) (.c (.bool false))))]) (.cond 12 (.seq (.run 0 [.asg 4 (.c (.bool false))]) (.ret)) (.skip)))) (.run 0 [.asg 5 (xk .add 2 31 (.int .i64 1) (.v 5))]))))))
 (.seq (.seq (.run 0 [u9A 6 0]) (.block 2 (.loop (.seq (.seq (.run 0 [.asg 13 (xb .lss 2 62 65 (.v 6) (xn 16 64 (xl 16 63 (xf 15 3 3 (.v 3)))))]) (.cond 13
 (.skip) (.exit 2))) (.seq (.block 3 (.seq (.run 0 [.asg 14 (xl 17 72 (xi 16 70 71 (xl 16 69 (xf 15 3 3 (.v 3))) (.v 6))),u9E 7 (.alloc 17) .nil none,.eff none
 none (.store 17 (.t 7) (.t 73)) (.cons 7 (.v 7) (.cons 73 (.v 14) .nil)) none]) (.seq (.seq (.run 0 [.asg 15 (.ite (.ite (.n (.un .not (.t 76)) (.cons 76 (.n (.call 0 (.f 79)
 [(.t 75),(.c (.int .i64 0)),(.c (.int .i64 1048576))]) (.cons 75 (xl 2 74 (xf 17 7 0 (.v 7))) .nil)) .nil)) (.c (.bool true)) (.n (.un .not (.t 81)) (.cons 81 (.n (.call
 0 (.f 79) [(.t 80),(.c (.int .i64 0)),(.c (.int .i64 1048576))]) (.cons 80 (xl 2 79 (xf 17 7 1 (.v 7))) .nil)) .nil))) (.c (.bool true)) (.n (.un .not (.t 87)) (.cons 87
 (.n (.call 0 (.f 79) [(.t 86),(.c (.int .i64 0)),(.c (.int .i64 1048576))]) (.cons 86 (xl 2 85 (xf 17 7 2 (.v 7))) .nil)) .nil)))]) (.cond 15 (.seq (.run 0 [.asg 4 (.c (.bool
 false))]) (.ret)) (.skip))) (.seq (.run 0 [u9A 8 0]) (.block 4 (.loop (.seq (.seq (.run 0 [.asg 16 (xb .lss 2 90 93 (.v 8) (xn 18 92 (xl 18 91 (xf 17 7 3
 (.v 7)))))]) (.cond 16 (.skip) (.exit 4))) (.seq (.block 5 (.seq (.run 0 [.asg 17 (xl 19 100 (xi 18 98 99 (xl 18 97 (xf 17 7 3 (.v 7))) (.v 8))),u9E 9 (.alloc
 19) .nil none,.eff none none (.store 19 (.t 9) (.t 101)) (.cons 9 (.v 9) (.cons 101 (.v 17) .nil)) none]) (.seq (.run 29 [.asg 18 (.ite (.ite (xk .lss 2 106 (.int .i64 0)
 (.n (.call 0 (.f 109) [(.t 103),(.t 105)]) (.cons 103 (xl 10 102 (xf 0 2 0 (.v 2))) (.cons 105 (xl 20 104 (xf 19 9 0 (.v 9))) .nil)))) (.c (.bool true)) (.n (.un .not (.t
 111)) (.cons 111 (.n (.call 0 (.f 79) [(.t 110),(.c (.int .i64 1)),(.c (.int .i64 8))]) (.cons 110 (xl 2 109 (xf 19 9 1 (.v 9))) .nil)) .nil))) (.c (.bool true)) (.ite (xk
 .gtr 2 115 (.int .i64 0) (.v 8)) (.n (.un .not (.t 127)) (.cons 127 (.n (.call 0 (.f 81) [(.t 124),(.t 126)]) (.cons 124 (xl 20 123 (xf 19 122 0 (xi 18 119 121 (xl 18 118
 (xf 17 7 3 (.v 7))) (xk .sub 2 120 (.int .i64 1) (.v 8))))) (.cons 126 (xl 20 125 (xf 19 9 0 (.v 9))) .nil))) .nil)) (.c (.bool false))))]) (.cond 18 (.seq (.run 0 [.asg 4
 (.c (.bool false))]) (.ret)) (.skip))))) (.run 0 [.asg 8 (xk .add 2 95 (.int .i64 1) (.v 8))]))))))))) (.run 0 [.asg 6 (xk .add 2 67 (.int .i64 1) (.v 6))])))))) (.seq (.run
 0 [.asg 4 (.c (.bool true))]) (.ret)))))
theorem c82:TF E 82 n82 [(4,none)] t82 131 := zk (F := f82) rfl (by kernel_rfl) (by decide)

def n105:List Nat := [0,2,3,5,6,7,8,9,14]
def t105:TC := .seq (.run 0 [u9A 1 0]) (.seq (.run 0 [u9A 2 0]) (.seq (.seq (.run 0 [.asg 4 (.v 0),.asg 5 (xn 6 6 (.v 4)),u9A 6 0])
 (.block 0 (.loop (.seq (.run 0 [.asg 7 (xb .lss 2 8 7 (.v 6) (.v 5))]) (.seq (.cond 7 (.skip) (.exit 0)) (.seq (.block 1 (.seq (.run 0 [.asg 3 (xl 2 10 (xi 6 6 8 (.v 4) (.v
 6)))]) (.seq (.run 0 [.asg 8 (xb .neq 2 12 13 (.v 3) (.v 2))]) (.cond 8 (.seq (.run 0 [.asg 1 (.v 3)]) (.ret)) (.skip))))) (.run 0 [.asg 6 (xk .add 2 8 (.int .i64 1) (.v 6))])))))))
 (.seq (.run 0 [.asg 1 (.v 2)]) (.ret))))
theorem c105:TF E 105 n105 [(1,none)] t105 18 := zk (F := f105) rfl (by kernel_rfl) (by decide)

def n106:List Nat := [0,1,4,5,7,8,9,16]
def t106:TC := .seq (.run 0 [u9A 2 0]) (.seq (.seq (.run 0 [.asg 4 (xn 6 6 (.v 0)),u9A 5 0]) (.block 0 (.loop (.seq (.run 0 [.asg 6 (xb .lss 2 8 7 (.v
 5) (.v 4))]) (.seq (.cond 6 (.skip) (.exit 0)) (.seq (.block 1 (.seq (.run 0 [.asg 3 (.v 5)]) (.seq (.run 0 [.asg 7 (.n (.call 0 (.t 11) [(.t 15)]) (.cons 11 (.v 1) (.cons
 15 (xl 2 14 (xi 6 12 13 (.v 0) (.v 3))) .nil)))]) (.cond 7 (.seq (.run 0 [.asg 2 (.v 3)]) (.ret)) (.skip))))) (.run 0 [.asg 5 (xk .add 2 8 (.int .i64 1) (.v 5))]))))))) (.seq
 (.run 0 [.asg 2 (.c (.int .i64 (-1)))]) (.ret)))
theorem c106:TF E 106 n106 [(2,none)] t106 19 := zk (F := f106) rfl (by kernel_rfl) (by decide)

def n107:List Nat := [0,2]
def t107:TC := .seq (.run 0 [.asg 1 (.c (.bool false))]) (.seq (.run 0 [.asg 1 (xb .neq 2 3 4 (.v 0) (.v 0))]) (.ret))
theorem c107:TF E 107 n107 [(1,none)] t107 6 := zk (F := f107) rfl (by kernel_rfl) (by decide)

def n109:List Nat := [0,1,3,4,5,9,17]
def t109:TC := .seq (.run 0 [u9E 2 (.box 20 (.t 1)) (.cons 1 (.v 1) .nil) none,u9A 3 0]) (.seq (.seq (.run 0 [u9A 4 0]) (.block 0 (.loop
 (.seq (.seq (.run 0 [.asg 5 (xb .lss 2 6 8 (.v 4) (xn 10 7 (.v 0)))]) (.cond 5 (.skip) (.exit 0))) (.seq (.block 1 (.seq (.run 6 [.asg 6 (xb .eql 20 15 16 (xl 20 14 (xi 10
 12 13 (.v 0) (.v 4))) (xl 20 3 (.v 2)))]) (.cond 6 (.seq (.run 0 [.asg 3 (.v 4)]) (.ret)) (.skip)))) (.run 0 [.asg 4 (xk .add 2 10 (.int .i64 1) (.v 4))])))))) (.seq (.run
 0 [.asg 3 (.c (.int .i64 (-1)))]) (.ret)))
theorem c109:TF E 109 n109 [(3,none)] t109 19 := zk (F := f109) rfl (by kernel_rfl) (by decide)

def n264:List Nat := [0,1,2,3,4,8,10,18]
def t264:TC := .seq (.run 0 [.asg 1 (.n (.ibox 55 (.t 0)) (.cons 0 (.v 0) .nil)),.asg 2 (.c (.imm .exact [])),u9A 3 0]) (.seq (.seq (.run 0 [.asg 4 (.n (.call 0 (.f 281)
 [(.t 5)]) (.cons 5 (.n (.iload 55 (.t 1)) (.cons 1 (.v 1) .nil)) .nil))]) (.seq (.run 0 [.asg 5 (xk .neq 3 7 (.int .i64 0) (.v 4))]) (.cond 5 (.seq (.run 0 [.asg 2 (.c (.imm
 .exact [])),.asg 3 (.v 4)]) (.ret)) (.skip)))) (.seq (.run 11 [u9E 6 (.call 4 (.f 282) []) .nil (some 0),u9E 7 (.call 2 (.t 16) [(.c (.imm .exact
 [])),(.t 17)]) (.cons 16 (xl 59 15 (xf 58 14 0 (xi 57 13 12 (.n (.nilc (.t 10)) (.cons 10 (.v 6) .nil)) (.n (.iload 2 (.t 11)) (.cons 11 (xf 55 1 0 (.v 1)) .nil))))) (.cons
 17 (.n (.iload 55 (.t 1)) (.cons 1 (.v 1) .nil)) .nil)) (some 8),.asg 2 (.v 7),u9A 3 0]) (.ret)))
theorem c264:TF E 264 n264 [(2,none),(3,none)] t264 19 := zk (F := f264) rfl (by kernel_rfl) (by decide)

def n281:List Nat := [0,1,2,3,4,5,10,13]
def t281:TC := .seq (.run 0 [.asg 1 (.n (.ibox 55 (.t 0)) (.cons 0 (.v 0) .nil)),u9A 2 0]) (.seq (.run 0 [.asg 5 (.n (.call 0 (.f 297) [(.t 6)]) (.cons 6 (.n (.iload 55
 (.t 1)) (.cons 1 (.v 1) .nil)) .nil)),.asg 3 (xe 5 0 (.v 5)),.asg 4 (xe 5 1 (.v 5))]) (.seq (.block 0 (.seq (.run 0 [.asg 6 (.n (.un .not (.t 11)) (.cons 11 (.v 4) .nil))])
 (.cond 6 (.seq (.run 0 [u9A 2 1]) (.ret)) (.seq (.run 0 [.asg 7 (xk .gtr 2 14 (.int .i64 16) (.v 3))]) (.cond 7 (.seq (.run 0 [u9A 2 2])
 (.ret)) (.skip)))))) (.seq (.run 0 [u9A 2 0]) (.ret))))
theorem c281:TF E 281 n281 [(2,none)] t281 16 := zk (F := f281) rfl (by kernel_rfl) (by decide)

def n282:List Nat := [0,1,3]
def t282:TC := .seq (.run 0 [.asg 0 (.c .nilp)]) (.seq (.run 0 [u9E 2 (.box 57 (.t 2)) (.cons 2 (.n (.build 57 []) .nil) .nil) none,u9E 1 (.alloc 62) .nil none,
 .eff none none (.store 62 (.t 1) (.t 3)) (.cons 1 (.v 1) (.cons 3 (.v 2) .nil)) none]) (.seq (.run 0 [.eff none none (.store 59 (.t 7) (.f 298)) (.cons 7 (xf 58 6 0 (.n (.iaddr
 57 (.t 5) (.c (.int .i64 1))) (.cons 5 (.n (.nilc (.t 4)) (.cons 4 (xl 62 1 (.v 1)) .nil)) .nil))) .nil) none]) (.seq (.run 0 [.eff none none (.store 59 (.t 11) (.f 299)) (.cons
 11 (xf 58 10 0 (.n (.iaddr 57 (.t 9) (.c (.int .i64 2))) (.cons 9 (.n (.nilc (.t 8)) (.cons 8 (xl 62 1 (.v 1)) .nil)) .nil))) .nil) none]) (.seq (.run 0 [.eff none none (.store
 59 (.t 16) (.t 13)) (.cons 16 (xf 58 15 0 (.n (.iaddr 57 (.t 14) (.c (.int .i64 3))) (.cons 14 (.n (.nilc (.t 12)) (.cons 12 (xl 62 1 (.v 1)) .nil)) .nil))) (.cons 13 (.n (.mkfn
 300 [(.t 1)]) (.cons 1 (.v 1) .nil)) .nil)) none]) (.seq (.run 0 [.asg 0 (xl 62 1 (.v 1))]) (.ret))))))
theorem c282:TF E 282 n282 [(0,none)] t282 18 := zk (F := f282) rfl (by kernel_rfl) (by decide)

def n297:List Nat := [0,1,2,3,4,6,7,8,35,50,53,55,56,57,58,60,61,67]
def t297:TC := .seq (.run 0 [.asg 1 (.n (.ibox 55 (.t 0)) (.cons 0 (.v 0) .nil)),u9A 2 0,.asg 3 (.c (.bool false))]) (.seq (.run 0 [.asg 8 (.n (.build 64 [(1,(.t 17)),
 (2,(.t 26)),(3,(.t 34))]) (.cons 17 (.ite (xk .eql 53 10 (.str []) (.n (.iload 53 (.t 9)) (.cons 9 (xf 55 1 2 (.v 1)) .nil))) (xk .eql 2 15 (.int .i64 0) (xn 56 14 (.n (.iload
 56 (.t 13)) (.cons 13 (xf 55 1 3 (.v 1)) .nil)))) (.c (.bool false))) (.cons 26 (.ite (xk .eql 2 19 (.int .i64 0) (.n (.iload 2 (.t 18)) (.cons 18 (xf 55 1 1 (.v 1)) .nil)))
 (xk .eql 2 24 (.int .i64 0) (xn 56 23 (.n (.iload 56 (.t 22)) (.cons 22 (xf 55 1 3 (.v 1)) .nil)))) (.c (.bool false))) (.cons 34 (.ite (xk .eql 2 28 (.int .i64 0) (.n (.iload
 2 (.t 27)) (.cons 27 (xf 55 1 1 (.v 1)) .nil))) (xk .eql 53 32 (.str []) (.n (.iload 53 (.t 31)) (.cons 31 (xf 55 1 2 (.v 1)) .nil))) (.c (.bool false))) .nil)))),u9E 4 (.alloc 64) .nil none,.eff none none (.store 64 (.t 4) (.t 35)) (.cons 4 (.v 4) (.cons 35 (.v 8) .nil)) none]) (.seq (.seq (.run 0 [.asg 9 (.ite (.ite (xk .lss 2
 37 (.int .i64 1) (.n (.iload 2 (.t 36)) (.cons 36 (xf 55 1 0 (.v 1)) .nil))) (.c (.bool true)) (xk .gtr 2 41 (.int .i64 3) (.n (.iload 2 (.t 40)) (.cons 40 (xf 55 1 0 (.v 1))
 .nil)))) (.c (.bool true)) (.n (.un .not (.t 48)) (.cons 48 (xl 7 47 (xi 64 4 46 (.v 4) (.n (.iload 2 (.t 45)) (.cons 45 (xf 55 1 0 (.v 1)) .nil)))) .nil)))]) (.cond 9 (.seq
 (.run 0 [u9A 2 0,.asg 3 (.c (.bool false))]) (.ret)) (.skip))) (.seq (.seq (.run 0 [.asg 10 (xk .lss 2 52 (.int .i64 3) (.n (.iload 2 (.t 51)) (.cons 51
 (xf 55 1 0 (.v 1)) .nil)))]) (.cond 10 (.seq (.run 0 [u9A 2 0,.asg 3 (.c (.bool true))]) (.ret)) (.skip))) (.seq (.seq (.run 0 [.asg 11 (.n (.iload 56 (.t
 54)) (.cons 54 (xf 55 1 3 (.v 1)) .nil)),.asg 12 (xn 56 55 (.v 11)),u9A 13 0]) (.block 0 (.loop (.seq (.run 0 [.asg 14 (xb .lss 2 57 56 (.v 13) (.v 12))])
 (.seq (.cond 14 (.skip) (.exit 0)) (.seq (.block 1 (.seq (.run 0 [.asg 15 (xl 55 59 (xi 56 55 57 (.v 11) (.v 13))),u9E 5 (.alloc 55) .nil none,.eff none none
 (.store 55 (.t 6) (.t 60)) (.cons 6 (.v 5) (.cons 60 (.v 15) .nil)) none]) (.seq (.run 0 [.asg 16 (.n (.call 0 (.f 297) [(.t 62)]) (.cons 62 (xl 55 6 (.v 5)) .nil)),.asg 6
 (xe 61 0 (.v 16)),.asg 7 (xe 61 1 (.v 16))]) (.seq (.seq (.run 0 [.asg 17 (.n (.un .not (.t 66)) (.cons 66 (.v 7) .nil))]) (.cond 17 (.seq (.run 0 [u9A 2 0,
 .asg 3 (.c (.bool false))]) (.ret)) (.skip))) (.run 0 [.asg 2 (.n (.maxi [(.t 68),(.t 69)]) (.cons 68 (.v 2) (.cons 69 (.v 6) .nil)))]))))) (.run 0 [.asg 13 (xk .add 2 57
 (.int .i64 1) (.v 13))]))))))) (.seq (.run 0 [.asg 2 (xk .add 2 72 (.int .i64 1) (.v 2)),.asg 3 (.c (.bool true))]) (.ret))))))
theorem c297:TF E 297 n297 [(2,none),(3,none)] t297 74 := zk (F := f297) rfl (by kernel_rfl) (by decide)

def n298:List Nat := [0,1,3,4,7,11]
def t298:TC := .seq (.run 0 [.asg 2 (.n (.ibox 55 (.t 1)) (.cons 1 (.v 1) .nil)),.asg 3 (.c (.imm .exact []))]) (.seq (.run 8 [u9E 4 (.append 0 30 30 (.t 5) (.t 6)) (.cons 5
 (.v 0) (.cons 6 (.n (.bslice false 30 1 [(0,(.c (.int .u8 1)))]) .nil) .nil)) (some 2),u9E 5 (.call 2 (.f 312) [(.t 7),(.t 10)]) (.cons 7 (.v 4) (.cons 10 (.n
 (.call 0 (.f 311) [(.t 9)]) (.cons 9 (.n (.iload 2 (.t 8)) (.cons 8 (xf 55 3 1 (.v 2)) .nil)) .nil)) .nil)) (some 6),.asg 3 (.v 5)]) (.ret))
theorem c298:TF E 298 n298 [(3,none)] t298 12 := zk (F := f298) rfl (by kernel_rfl) (by decide)

def n299:List Nat := [0,1,3,4,7,12,15]
def t299:TC := .seq (.run 0 [.asg 2 (.n (.ibox 55 (.t 1)) (.cons 1 (.v 1) .nil)),.asg 3 (.c (.imm .exact []))]) (.seq (.run 12 [u9E 4 (.append 0 30 30 (.t 5) (.t 6)) (.cons
 5 (.v 0) (.cons 6 (.n (.bslice false 30 1 [(0,(.c (.int .u8 2)))]) .nil) .nil)) (some 2),u9E 5 (.call 2 (.f 312) [(.t 7),(.t 11)]) (.cons 7 (.v 4) (.cons 11
 (.n (.conv 2 63 (.t 10)) (.cons 10 (xn 53 9 (.n (.iload 53 (.t 8)) (.cons 8 (xf 55 3 2 (.v 2)) .nil))) .nil)) .nil)) (some 7),u9E 6 (.append 0 30 53 (.t 12) (.t
 14)) (.cons 12 (.v 5) (.cons 14 (.n (.iload 53 (.t 13)) (.cons 13 (xf 55 3 2 (.v 2)) .nil)) .nil)) (some 10),.asg 3 (.v 6)]) (.ret))
theorem c299:TF E 299 n299 [(3,none)] t299 16 := zk (F := f299) rfl (by kernel_rfl) (by decide)

def n300:List Nat := [0,1,2,4,5,7,10,15,17,18,19,20,22,32]
def t300:TC := .seq (.run 0 [.asg 3 (.n (.ibox 55 (.t 1)) (.cons 1 (.v 1) .nil)),.asg 4 (.c (.imm .exact []))]) (.seq (.run 9 [u9E 6 (.append 0 30 30 (.t 8) (.t 9)) (.cons 8
 (.v 0) (.cons 9 (.n (.bslice false 30 1 [(0,(.c (.int .u8 3)))]) .nil) .nil)) (some 2),u9E 7 (.call 2 (.f 312) [(.t 10),(.t 14)]) (.cons 10 (.v 6) (.cons 14
 (.n (.conv 2 63 (.t 13)) (.cons 13 (xn 56 12 (.n (.iload 56 (.t 11)) (.cons 11 (xf 55 4 3 (.v 3)) .nil))) .nil)) .nil)) (some 7),.asg 0 (.v 7)]) (.seq (.seq (.run 0 [.asg
 8 (.n (.iload 56 (.t 16)) (.cons 16 (xf 55 4 3 (.v 3)) .nil)),.asg 9 (xn 56 17 (.v 8)),u9A 10 0]) (.block 0 (.loop (.seq (.run 0 [.asg 11 (xb .lss 2 19
 18 (.v 10) (.v 9))]) (.seq (.cond 11 (.skip) (.exit 0)) (.seq (.block 1 (.seq (.run 0 [.asg 12 (xl 55 21 (xi 56 17 19 (.v 8) (.v 10))),u9E 5 (.alloc 55) .nil
 none,.eff none none (.store 55 (.t 7) (.t 22)) (.cons 7 (.v 5) (.cons 22 (.v 12) .nil)) none]) (.run 11 [u9E 13 (.call 2 (.t 29) [(.t 30),(.t 31)]) (.cons 29
 (xl 59 28 (xf 58 27 0 (xi 57 26 25 (.n (.nilc (.t 23)) (.cons 23 (xl 62 2 (.v 2)) .nil)) (xl 2 24 (xf 55 7 0 (.v 5)))))) (.cons 30 (.v 0) (.cons 31 (xl 55 7 (.v 5)) .nil)))
 (some 9),.asg 0 (.v 13)]))) (.run 0 [.asg 10 (xk .add 2 19 (.int .i64 1) (.v 10))]))))))) (.seq (.run 0 [.asg 4 (.v 0)]) (.ret))))
theorem c300:TF E 300 n300 [(4,none)] t300 35 := zk (F := f300) rfl (by kernel_rfl) (by decide)

def n311:List Nat := [0,2]
def t311:TC := .seq (.run 0 [.asg 1 (.c (.int .u64 0))]) (.seq (.run 0 [.asg 1 (xb .xor 63 5 8 (xk .shl 63 4 (.int .u64 1) (.n (.conv 2 63 (.t 3)) (.cons 3 (.v 0) .nil))) (.n (.conv 2 63
 (.t 7)) (.cons 7 (xk .shr 2 6 (.int .u64 63) (.v 0)) .nil)))]) (.ret))
theorem c311:TF E 311 n311 [(1,none)] t311 10 := zk (F := f311) rfl (by kernel_rfl) (by decide)

def n312:List Nat := [0,1,4,6,14,19]
def t312:TC := .seq (.run 0 [.asg 2 (.c (.imm .exact []))]) (.seq (.block 0 (.loop (.seq (.seq (.run 0 [.asg 3 (xk .geq 63 5 (.int .u64 128) (.v 1))]) (.cond 3 (.skip) (.exit 0))) (.seq (.block
 1 (.run 0 [u9E 4 (.append 0 30 30 (.t 9) (.t 13)) (.cons 9 (.v 0) (.cons 13 (.n (.bslice false 30 1 [(0,(.t 12))]) (.cons 12 (xk .or 13 11 (.int .u8 128) (.n
 (.conv 63 13 (.t 10)) (.cons 10 (.v 1) .nil))) .nil)) .nil)) none,.asg 0 (.v 4)])) (.run 0 [.asg 1 (xk .shr 63 7 (.int .u64 7) (.v 1))]))))) (.seq (.run 0 [u9E 5 (.append 0 30 30 (.t 15) (.t 18)) (.cons 15 (.v 0) (.cons 18 (.n (.bslice false 30 1 [(0,(.t 17))]) (.cons 17 (.n (.conv 63 13 (.t 16)) (.cons 16 (.v 1) .nil)) .nil)) .nil))
 none,.asg 2 (.v 5)]) (.ret)))
theorem c312:TF E 312 n312 [(2,none)] t312 20 := zk (F := f312) rfl (by kernel_rfl) (by decide)

def n316:List Nat := [0,1,2,3,8,9,10,11,12,13,14,20,24,38,45,49,52,55]
def t316:TC := .seq (.run 0 [.asg 4 (.c (.imm .exact [])),u9A 5 0]) (.seq (.run 0 [.asg 10 (.n (.call 0 (.f 354) [(.t 15)]) (.cons 15 (.v 0) .nil)),u9E 6
 (.alloc 73) .nil none,.eff none none (.store 73 (.t 10) (.t 17)) (.cons 10 (.v 6) (.cons 17 (xe 14 0 (.v 10)) .nil)) none,.asg 5 (xe 14 1 (.v 10))]) (.seq (.seq (.run 0 [.asg
 11 (xk .neq 3 19 (.int .i64 0) (.v 5))]) (.cond 11 (.seq (.run 0 [.asg 4 (.c (.imm .exact [])),.asg 5 (.v 5)]) (.ret)) (.skip))) (.seq (.seq (.run 0 [.asg 12 (xk .eql 2 23
 (.int .i64 65536) (xn 70 22 (.v 0)))]) (.cond 12 (.seq (.run 0 [.asg 4 (.c (.imm .exact [])),u9A 5 2]) (.ret)) (.skip))) (.seq (.seq (.run 0 [.asg 7 (xn
 70 25 (.v 0))]) (.seq (.run 0 [.asg 13 (.ite (xk .gtr 2 27 (.int .i64 0) (.v 7)) (xb .gtr 2 35 36 (xl 2 34 (xf 71 33 1 (xi 70 30 32 (.v 0) (xk .sub 2 31 (.int .i64 1) (.v 7)))))
 (.v 1)) (.c (.bool false)))]) (.cond 13 (.seq (.run 0 [.asg 4 (.c (.imm .exact [])),u9A 5 410]) (.ret)) (.skip)))) (.seq (.run 0 [.asg 14 (.n (.build 71
 [(0,(.t 40)),(1,(.t 41)),(2,(.t 42)),(3,(.t 43)),(4,(.t 44))]) (.cons 40 (xn 70 39 (.v 0)) (.cons 41 (.v 1) (.cons 42 (.v 2) (.cons 43 (.v 3) (.cons 44 (xl 73 10 (.v
 6)) .nil)))))),u9E 8 (.alloc 71) .nil none,.eff none none (.store 71 (.t 12) (.t 45)) (.cons 12 (.v 8) (.cons 45 (.v 14) .nil)) none]) (.seq (.seq (.run 0 [.asg
 9 (.n (.call 0 (.f 355) [(.t 46)]) (.cons 46 (xl 71 12 (.v 8)) .nil))]) (.seq (.run 0 [.asg 15 (xk .neq 3 48 (.int .i64 0) (.v 9))]) (.cond 15 (.seq (.run 0 [.asg 4 (.c (.imm
 .exact [])),.asg 5 (.v 9)]) (.ret)) (.skip)))) (.seq (.run 7 [u9E 16 (.mkcall (.f 356) [(.t 51)]) (.cons 51 (.v 0) .nil) (some 1),u9E 17 (.append
 2 70 70 (.t 52) (.t 54)) (.cons 52 (.v 16) (.cons 54 (.n (.bslice false 70 1 [(0,(.t 53))]) (.cons 53 (xl 71 12 (.v 8)) .nil)) .nil)) (some 4),.asg 4 (.v 17),u9A 5 0]) (.ret))))))))
theorem c316:TF E 316 n316 [(4,none),(5,none)] t316 56 := zk (F := f316) rfl (by kernel_rfl) (by decide)

def n318:List Nat := [0,1,2,4,5,6,7,8,9,10,14,17,18,19,28]
def t318:TC := .seq (.run 0 [.asg 3 (.n (.ibox 65 (.t 1)) (.cons 1 (.v 1) .nil)),.asg 4 (.n (.ibox 2 (.t 2)) (.cons 2 (.v 2) .nil)),u9E 5 (.alloc 2) .nil none,u9A 6 0]) (.seq (.seq (.run 0 [.asg 7 (.n (.call 0 (.f 324) [(.t 11)]) (.cons 11 (.v 0) .nil))]) (.seq (.run 0 [.asg 10 (xk .neq 3 13 (.int .i64 0) (.v 7))]) (.cond 10 (.seq
 (.run 0 [.eff none none (.store 2 (.t 6) (.c (.int .i64 0))) (.cons 6 (.v 5) .nil) none,.asg 6 (.v 7)]) (.ret)) (.skip)))) (.seq (.seq (.run 0 [.asg 11 (.n (.call 0 (.f 359)
 [(.t 16)]) (.cons 16 (.v 0) .nil))]) (.block 0 (.rfunc 11 [12,13] (.seq (.run 0 [.asg 8 (.v 12)]) (.run 0 [u9E 9 (.alloc 72) .nil none,.eff none none (.store
 72 (.t 10) (.t 19)) (.cons 10 (.v 9) (.cons 19 (.v 13) .nil)) none])) (.block 1 (.seq (.run 0 [.asg 14 (.ite (xb .leq 2 20 21 (.v 8) (.n (.iload 2 (.t 5)) (.cons 5 (.v 4) .nil)))
 (xb .eql 65 25 26 (xl 65 24 (xf 72 10 0 (.v 9))) (.n (.iload 65 (.t 4)) (.cons 4 (.v 3) .nil))) (.c (.bool false)))]) (.cond 14 (.run 0 [.eff none none (.store 2 (.t 6) (.t
 32)) (.cons 6 (.v 5) (.cons 32 (xb .add 2 29 31 (xl 2 6 (.v 5)) (xl 2 30 (xf 72 10 1 (.v 9)))) .nil)) none]) (.skip))))))) (.seq (.run 0 [.eff none none (.store 2 (.t 6) (.t
 33)) (.cons 6 (.v 5) (.cons 33 (xl 2 6 (.v 5)) .nil)) none,u9A 6 0]) (.ret))))
theorem c318:TF E 318 n318 [(5,some 2),(6,none)] t318 34 := zk (F := f318) rfl (by kernel_rfl) (by decide)

def n324:List Nat := [0,2,3,6]
def t324:TC := .seq (.run 0 [u9A 1 0]) (.seq (.run 0 [.asg 2 (.n (.call 0 (.f 354) [(.t 4)]) (.cons 4 (.v 0) .nil)),.asg 3 (xe 3 0 (.v 2)),.asg 1 (xe 3 1 (.v 2))]) (.seq
 (.run 0 [.asg 1 (.v 1)]) (.ret)))
theorem c324:TF E 324 n324 [(1,none)] t324 9 := zk (F := f324) rfl (by kernel_rfl) (by decide)

def n325:List Nat := [0,2,4,6,7,8,13,15,17]
def t325:TC := .seq (.run 0 [u9E 1 (.alloc 67) .nil none]) (.seq (.seq (.run 0 [.asg 3 (.n (.call 0 (.f 359) [(.t 5)]) (.cons 5 (.v 0) .nil))]) (.block 0 (.rfunc 3 [4,5] (.run
 0 [u9E 2 (.alloc 72) .nil none,.eff none none (.store 72 (.t 4) (.t 8)) (.cons 4 (.v 2) (.cons 8 (.v 5) .nil)) none]) (.block 1 (.run 0 [u9E 6 (.append
 2 67 67 (.t 9) (.t 12)) (.cons 9 (xl 67 2 (.v 1)) (.cons 12 (.n (.bslice false 67 1 [(0,(.t 11))]) (.cons 11 (xl 65 10 (xf 72 4 0 (.v 2))) .nil)) .nil)) none,.eff none none
 (.store 67 (.t 2) (.t 13)) (.cons 2 (.v 1) (.cons 13 (.v 6) .nil)) none]))))) (.seq (.run 0 [u9E 7 (.call 2 (.f 361) [(.t 14),(.f 362)]) (.cons 14 (xl 67 2 (.v
 1)) .nil) none]) (.seq (.run 0 [u9E 8 (.call 2 (.f 363) [(.t 16)]) (.cons 16 (xl 67 2 (.v 1)) .nil) none,.eff none none (.store 67 (.t 2) (.t 17)) (.cons 2 (.v
 1) (.cons 17 (.v 8) .nil)) none]) (.ret))))
theorem c325:TF E 325 n325 [(1,some 67)] t325 18 := zk (F := f325) rfl (by kernel_rfl) (by decide)

def n331:List Nat := [0,1,4,5,12]
def t331:TC := .seq (.run 0 [u9E 2 (.alloc 73) .nil none]) (.seq (.run 0 [u9E 3 (.alloc 73) .nil none,.eff none none (.store 73 (.t 5) (.t 8)) (.cons 5 (.v 3) (.cons
 8 (.n (.call 0 (.f 364) [(.t 7)]) (.cons 7 (.n (.s2b 53 30 (.t 6)) (.cons 6 (.v 0) .nil)) .nil)) .nil)) none]) (.seq (.run 0 [u9E 4 (.call 1 (.f 365) [(.t 11)])
 (.cons 11 (.n (.bslice false 74 2 [(0,(.t 9)),(1,(.t 10))]) (.cons 9 (.n (.slice 73 (.t 5) none none none) (.cons 5 (.v 3) .nil)) (.cons 10 (.v 1) .nil))) .nil) none,.eff
 none none (.store 73 (.t 4) (.t 13)) (.cons 4 (.v 2) (.cons 13 (.n (.call 0 (.f 364) [(.t 12)]) (.cons 12 (.v 4) .nil)) .nil)) none]) (.ret)))
theorem c331:TF E 331 n331 [(2,some 73)] t331 14 := zk (F := f331) rfl (by kernel_rfl) (by decide)

def n334:List Nat := [0,1,2,3,4,5,6,8,12,21,22,24,25,26,27,29,43,54,57]
def t334:TC := .seq (.run 0 [.asg 1 (.n (.ibox 71 (.t 0)) (.cons 0 (.v 0) .nil)),.asg 2 (.c (.imm .exact [])),u9A 3 0]) (.seq (.seq (.run 0 [.asg 4 (.n (.call 0 (.f 355)
 [(.t 9)]) (.cons 9 (.n (.iload 71 (.t 1)) (.cons 1 (.v 1) .nil)) .nil))]) (.seq (.run 0 [.asg 8 (xk .neq 3 11 (.int .i64 0) (.v 4))]) (.cond 8 (.seq (.run 0 [.asg 2 (.c (.imm
 .exact [])),.asg 3 (.v 4)]) (.ret)) (.skip)))) (.seq (.run 0 [u9E 9 (.mkcall (.f 366) [(.t 20)]) (.cons 20 (.n (.bslice false 6 3 [(0,(.t 15)),(1,(.t 17)),
 (2,(.t 19))]) (.cons 15 (.n (.iload 2 (.t 14)) (.cons 14 (xf 71 1 0 (.v 1)) .nil)) (.cons 17 (.n (.iload 2 (.t 16)) (.cons 16 (xf 71 1 1 (.v 1)) .nil)) (.cons 19 (.n (.iload
 2 (.t 18)) (.cons 18 (xf 71 1 2 (.v 1)) .nil)) .nil)))) .nil) none,u9E 10 (.mkcall (.f 366) [(.c (.imm .exact []))]) .nil none,u9E 5 (.alloc 55)
 .nil none,u9E 6 (.alloc 55) .nil none,.eff none none (.store 55 (.t 5) (.t 21)) (.cons 5 (.v 5) (.cons 21 (.v 9) .nil)) none,.eff none none (.store 55 (.t 6)
 (.t 22)) (.cons 6 (.v 6) (.cons 22 (.v 10) .nil)) none]) (.seq (.seq (.run 0 [.asg 11 (.n (.iload 66 (.t 23)) (.cons 23 (xf 71 1 3 (.v 1)) .nil)),.asg 12 (xn 66 24 (.v 11)),
 u9A 13 0]) (.block 0 (.loop (.seq (.run 0 [.asg 14 (xb .lss 2 26 25 (.v 13) (.v 12))]) (.seq (.cond 14 (.skip) (.exit 0)) (.seq (.block 1 (.seq (.run 0 [.asg
 15 (xl 72 28 (xi 66 24 26 (.v 11) (.v 13))),u9E 7 (.alloc 72) .nil none,.eff none none (.store 72 (.t 8) (.t 29)) (.cons 8 (.v 7) (.cons 29 (.v 15) .nil)) none])
 (.run 16 [u9E 16 (.append 0 56 56 (.t 31) (.t 42)) (.cons 31 (xl 56 30 (xf 55 6 3 (.v 6))) (.cons 42 (.n (.bslice false 56 1 [(0,(.t 41))]) (.cons 41 (.n (.call
 0 (.f 366) [(.t 40)]) (.cons 40 (.n (.bslice false 6 3 [(0,(.t 34)),(1,(.t 37)),(2,(.t 39))]) (.cons 34 (xl 2 33 (xf 65 32 0 (xf 72 8 0 (.v 7)))) (.cons 37 (xl 2 36 (xf
 65 35 1 (xf 72 8 0 (.v 7)))) (.cons 39 (xl 2 38 (xf 72 8 1 (.v 7))) .nil)))) .nil)) .nil)) .nil)) (some 13),.eff none none (.store 56 (.t 44) (.t 43)) (.cons 44 (xf 55 6 3
 (.v 6)) (.cons 43 (.v 16) .nil)) (some 15)]))) (.run 0 [.asg 13 (xk .add 2 26 (.int .i64 1) (.v 13))]))))))) (.seq (.run 11 [u9E 17 (.append 0 56 56 (.t 47) (.t
 53)) (.cons 47 (xl 56 46 (xf 55 5 3 (.v 5))) (.cons 53 (.n (.bslice false 56 2 [(0,(.t 48)),(1,(.t 52))]) (.cons 48 (xl 55 6 (.v 6)) (.cons 52 (.n (.build 55 [(0,(.c (.int
 .i64 2))),(2,(.t 51))]) (.cons 51 (.n (.b2s 30 53 (.t 50)) (.cons 50 (.n (.slice 73 (.t 49) none none none) (.cons 49 (xf 71 1 4 (.v 1)) .nil)) .nil)) .nil)) .nil))) .nil))
 (some 8),.eff none none (.store 56 (.t 55) (.t 54)) (.cons 55 (xf 55 5 3 (.v 5)) (.cons 54 (.v 17) .nil)) (some 10)]) (.seq (.run 0 [.asg 18 (.n (.call 0 (.f 264) [(.t 56)])
 (.cons 56 (xl 55 5 (.v 5)) .nil)),.asg 2 (xe 57 0 (.v 18)),.asg 3 (xe 57 1 (.v 18))]) (.ret))))))
theorem c334:TF E 334 n334 [(2,none),(3,none)] t334 60 := zk (F := f334) rfl (by kernel_rfl) (by decide)

def n335:List Nat := [0,1,2,3,4]
def t335:TC := .seq (.run 0 [.asg 2 (.n (.ibox 73 (.t 0)) (.cons 0 (.v 0) .nil)),.asg 3 (.n (.ibox 73 (.t 1)) (.cons 1 (.v 1) .nil)),u9E 4 (.alloc 73) .nil none]) (.seq (.run
 6 [.eff none none (.store 73 (.t 4) (.t 9)) (.cons 4 (.v 4) (.cons 9 (.n (.call 0 (.f 331) [(.c (.str [99,104,97,105,110])),(.t 8)]) (.cons 8 (.n (.call 0 (.f 365) [(.t
 7)]) (.cons 7 (.n (.bslice false 74 2 [(0,(.t 5)),(1,(.t 6))]) (.cons 5 (.n (.slice 73 (.t 2) none none none) (.cons 2 (.v 2) .nil)) (.cons 6 (.n (.slice 73 (.t 3) none
 none none) (.cons 3 (.v 3) .nil)) .nil))) .nil)) .nil)) .nil)) (some 5)]) (.ret))
theorem c335:TF E 335 n335 [(4,some 73)] t335 10 := zk (F := f335) rfl (by kernel_rfl) (by decide)

def n338:List Nat := [0,1,2,3,4,8,9,10,11,12,14,27,28,36]
def t338:TC := .seq (.run 0 [.asg 4 (.n (.ibox 0 (.t 0)) (.cons 0 (.v 0) .nil)),.asg 5 (.c (.bool false))]) (.seq (.seq (.run 0 [.asg 10 (.n (.un .not (.t 13)) (.cons 13 (.n (.call 0 (.f
 339) []) .nil) .nil))]) (.cond 10 (.seq (.run 0 [.asg 5 (.c (.bool false))]) (.ret)) (.skip))) (.seq (.seq (.run 0 [.asg 11 (.ite (.ite (.n (.un .not (.t 16)) (.cons 16 (.n
 (.call 0 (.f 2) [(.t 15)]) (.cons 15 (.n (.iload 0 (.t 4)) (.cons 4 (.v 4) .nil)) .nil)) .nil)) (.c (.bool true)) (xk .gtr 2 20 (.int .i64 20) (xn 6 19 (.v 1)))) (.c (.bool
 true)) (xk .gtr 2 25 (.int .i64 40) (xn 36 24 (.v 3))))]) (.cond 11 (.seq (.run 0 [.asg 5 (.c (.bool true))]) (.ret)) (.skip))) (.seq (.run 0 [.asg 12 (.n (.call 0 (.f 340)
 [(.t 29),(.t 30),(.t 31),(.t 32)]) (.cons 29 (.n (.iload 0 (.t 4)) (.cons 4 (.v 4) .nil)) (.cons 30 (.v 1) (.cons 31 (.v 2) (.cons 32 (.v 3) .nil))))),.asg 6 (xe 28 0 (.v
 12)),.asg 7 (xe 28 1 (.v 12))]) (.seq (.run 0 [.asg 13 (.n (.call 0 (.f 341) [(.t 37),(.t 38),(.t 39),(.t 40)]) (.cons 37 (.n (.iload 0 (.t 4)) (.cons 4 (.v 4) .nil)) (.cons
 38 (.v 1) (.cons 39 (.v 2) (.cons 40 (.v 3) .nil))))),.asg 8 (xe 36 0 (.v 13)),.asg 9 (xe 36 1 (.v 13))]) (.seq (.run 0 [.asg 5 (.ite (.n (.call 0 (.f 342) [(.t 44),(.t
 45)]) (.cons 44 (.v 6) (.cons 45 (.v 8) .nil))) (xb .eql 3 48 49 (.v 7) (.v 9)) (.c (.bool false)))]) (.ret))))))
theorem c338:TF E 338 n338 [(5,none)] t338 52 := zk (F := f338) rfl (by kernel_rfl) (by decide)

def n339:List Nat := [0,1,2,3,4,5,6,7,8,9,10,11,12,13,15,16,17,18,19,20,21,30,38,43,49,53,58,63,65,67,72,119]
def t339:TC := .seq (.run 0 [.asg 0 (.c (.bool false))]) (.seq (.run 0 [u9E 1 (.alloc 0) .nil none,.eff none none (.store 0 (.t 1) (.t 29)) (.cons 1 (.v 1) (.cons 29 (.n (.build
 0 [(1,(.t 23)),(2,(.t 28))]) (.cons 23 (.n (.bslice false 9 1 [(0,(.t 22))]) (.cons 22 (.n (.bslice false 6 0 []) .nil) .nil)) (.cons 28 (.n (.bslice false 14 1 [(0,(.t
 27))]) (.cons 27 (.n (.build 15 [(0,(.c (.int .i64 7))),(2,(.t 24)),(3,(.t 26))]) (.cons 24 (.n (.bslice false 6 1 [(0,(.c (.int .i64 0)))]) .nil) (.cons 26 (.n (.bslice
 false 16 1 [(0,(.t 25))]) (.cons 25 (.n (.build 17 []) .nil) .nil)) .nil))) .nil)) .nil))) .nil)) none]) (.seq (.run 0 [.asg 21 (.n (.call 0 (.f 340) [(.t 31),(.t 32),(.c
 (.int .i64 1)),(.t 34)]) (.cons 31 (xl 0 1 (.v 1)) (.cons 32 (.n (.bslice false 6 1 [(0,(.c (.int .i64 3)))]) .nil) (.cons 34 (.n (.bslice false 36 1 [(0,(.t 33))]) (.cons
 33 (.n (.build 37 [(0,(.c (.int .i64 2))),(2,(.c (.int .i64 10)))]) .nil) .nil)) .nil)))),.asg 2 (xe 30 0 (.v 21)),.asg 3 (xe 30 1 (.v 21))]) (.seq (.run 0 [.asg 22 (.n
 (.call 0 (.f 345) [(.c (.imm .exact [])),(.c (.int .i64 5)),(.t 39)]) (.cons 39 (.v 2) .nil)),.asg 4 (xe 38 0 (.v 22)),.asg 5 (xe 38 1 (.v 22))]) (.seq (.run 0 [.asg 23
 (.n (.call 0 (.f 345) [(.t 44),(.c (.int .i64 9)),(.t 45)]) (.cons 44 (.v 4) (.cons 45 (.v 2) .nil))),.asg 6 (xe 43 0 (.v 23)),.asg 7 (xe 43 1 (.v 23))]) (.seq (.run 0
 [.asg 24 (.n (.call 0 (.f 345) [(.c (.imm .exact [])),(.c (.int .i64 5)),(.c (.imm .exact []))]) .nil),.asg 8 (xe 49 0 (.v 24)),.asg 9 (xe 49 1 (.v 24))]) (.seq (.run 0
 [.asg 25 (.n (.call 0 (.f 352) [(.t 54),(.c (.int .i64 3)),(.c (.int .i64 5))]) (.cons 54 (.v 4) .nil)),.asg 10 (xe 53 0 (.v 25)),.asg 11 (xe 53 1 (.v 25))]) (.seq (.run
 0 [.asg 26 (.n (.call 0 (.f 352) [(.t 59),(.c (.int .i64 3)),(.c (.int .i64 4))]) (.cons 59 (.v 4) .nil)),.asg 12 (xe 58 0 (.v 26)),.asg 13 (xe 58 1 (.v 26))]) (.seq (.run
 0 [.asg 27 (.n (.call 0 (.f 352) [(.c (.imm .exact [])),(.c (.int .i64 0)),(.c (.int .i64 5))]) .nil),.asg 28 (xe 63 0 (.v 27)),.asg 14 (xe 63 1 (.v 27))]) (.seq (.run
 0 [.asg 29 (.n (.call 0 (.f 350) [(.t 68)]) (.cons 68 (.v 4) .nil)),.asg 15 (xe 67 0 (.v 29)),.asg 16 (xe 67 1 (.v 29))]) (.seq (.run 0 [.asg 30 (.n (.call 0 (.f 350) [(.c
 (.imm .exact []))]) .nil),.asg 17 (xe 72 0 (.v 30)),.asg 18 (xe 72 1 (.v 30))]) (.seq (.seq (.run 0 [.asg 31 (.ite (.ite (.ite (.ite (.ite (.ite (.ite (.ite (.ite (.ite (xk
 .neq 3 76 (.int .i64 0) (.v 3)) (.c (.bool true)) (xk .neq 3 79 (.int .i64 0) (.v 5))) (.c (.bool true)) (xk .neq 3 83 (.int .i64 0) (.v 7))) (.c (.bool true)) (xk .neq 3 87
 (.int .i64 0) (.v 9))) (.c (.bool true)) (xk .neq 3 91 (.int .i64 0) (.v 11))) (.c (.bool true)) (xk .neq 3 95 (.int .i64 0) (.v 13))) (.c (.bool true)) (xk .neq 3 99 (.int
 .i64 430) (.v 14))) (.c (.bool true)) (xk .neq 3 103 (.int .i64 0) (.v 16))) (.c (.bool true)) (xk .neq 3 107 (.int .i64 0) (.v 18))) (.c (.bool true)) (xk .neq 2 112 (.int
 .i64 1) (xn 70 111 (.v 4)))) (.c (.bool true)) (xk .neq 2 117 (.int .i64 0) (xn 70 116 (.v 8))))]) (.cond 31 (.seq (.run 0 [.asg 0 (.c (.bool false))]) (.ret)) (.skip))) (.seq
 (.run 0 [u9E 19 (.alloc 65) .nil none,.eff none none (.store 65 (.t 20) (.t 120)) (.cons 20 (.v 19) (.cons 120 (.n (.build 65 [(0,(.c (.int .i64 3))),(1,(.c
 (.int .i64 2)))]) .nil) .nil)) none]) (.seq (.run 0 [.asg 20 (.n (.bslice false 66 4 [(0,(.t 122)),(1,(.t 124)),(2,(.t 126)),(3,(.t 128))]) (.cons 122 (.n (.build 72
 [(0,(.t 121)),(1,(.c (.int .i64 10)))]) (.cons 121 (.n (.build 65 [(0,(.c (.int .i64 1))),(1,(.c (.int .i64 3)))]) .nil) .nil)) (.cons 124 (.n (.build 72 [(0,(.t 123)),
 (1,(.c (.int .i64 10)))]) (.cons 123 (.n (.build 65 [(0,(.c (.int .i64 2))),(1,(.c (.int .i64 7)))]) .nil) .nil)) (.cons 126 (.n (.build 72 [(0,(.t 125)),(1,(.c (.int
 .i64 (-10))))]) (.cons 125 (xl 65 20 (.v 19)) .nil)) (.cons 128 (.n (.build 72 [(0,(.t 127)),(1,(.c (.int .i64 (-10))))]) (.cons 127 (.n (.build 65 [(0,(.c (.int .i64 4))),
 (1,(.c (.int .i64 1)))]) .nil) .nil)) .nil)))))]) (.seq (.run 0 [.asg 0 (.ite (.ite (.ite (.ite (.ite (.ite (.n (.call 0 (.f 342) [(.t 130),(.t 131)]) (.cons 130 (.v 2) (.cons
 131 (.v 20) .nil))) (.n (.call 0 (.f 346) [(.t 134),(.t 135)]) (.cons 134 (.v 6) (.cons 135 (.v 4) .nil))) (.c (.bool false))) (xk .eql 2 142 (.int .i64 (-1)) (xl 2 141 (xf
 71 140 2 (.n (.iaddr 70 (.t 139) (.c (.int .i64 0))) (.cons 139 (.v 4) .nil))))) (.c (.bool false))) (.n (.call 0 (.f 342) [(.t 146),(.t 149)]) (.cons 146 (.v 10) (.cons 149
 (.n (.bslice false 66 1 [(0,(.t 148))]) (.cons 148 (.n (.build 72 [(0,(.t 147)),(1,(.c (.int .i64 (-10))))]) (.cons 147 (xl 65 20 (.v 19)) .nil)) .nil)) .nil))) (.c (.bool
 false))) (.n (.call 0 (.f 342) [(.t 153),(.t 156)]) (.cons 153 (.v 12) (.cons 156 (.n (.bslice false 66 1 [(0,(.t 155))]) (.cons 155 (.n (.build 72 [(0,(.t 154))]) (.cons
 154 (xl 65 20 (.v 19)) .nil)) .nil)) .nil))) (.c (.bool false))) (.v 15) (.c (.bool false))) (.v 17) (.c (.bool false)))]) (.ret)))))))))))))))
theorem c339:TF E 339 n339 [(0,none)] t339 165 := zk (F := f339) rfl (by kernel_rfl) (by decide)

def n340:List Nat := [0,1,2,3,4,8,9,10,11,13,14,15,19,41,42,43,44,45,46,48,79,94,95,96,103,106]
def t340:TC := .seq (.run 0 [.asg 4 (.n (.ibox 0 (.t 0)) (.cons 0 (.v 0) .nil)),.asg 5 (.c (.imm .exact [])),u9A 6 0]) (.seq (.seq (.run 0 [.asg 6 (.n (.call 0 (.f 15)
 [(.t 16)]) (.cons 16 (.n (.iload 0 (.t 4)) (.cons 4 (.v 4) .nil)) .nil))]) (.seq (.run 0 [.asg 12 (xk .neq 3 18 (.int .i64 0) (.v 6))]) (.cond 12 (.seq (.run 0 [.asg 5 (.c
 (.imm .exact [])),.asg 6 (.v 6)]) (.ret)) (.skip)))) (.seq (.run 0 [.asg 7 (.c (.fn 367 []))]) (.seq (.seq (.run 0 [.asg 13 (.ite (.ite (.ite (xb .neq 2 22 25 (xn 6 21 (.v
 1)) (xn 14 24 (.n (.iload 14 (.t 23)) (.cons 23 (xf 0 4 2 (.v 4)) .nil)))) (.c (.bool true)) (.n (.call 0 (.f 71) [(.t 28),(.t 29)]) (.cons 28 (.v 1) (.cons 29 (.v 7) .nil))))
 (.c (.bool true)) (.n (.un .not (.t 34)) (.cons 34 (.n (.call 0 (.f 368) [(.t 33),(.c (.int .i64 0)),(.c (.int .i64 3))]) (.cons 33 (.v 2) .nil)) .nil))) (.c (.bool true))
 (xk .gtr 2 39 (.int .i64 1024) (xn 36 38 (.v 3))))]) (.cond 13 (.seq (.run 0 [.asg 5 (.c (.imm .exact [])),u9A 6 430]) (.ret)) (.skip))) (.seq (.run 0 [u9E 14 (.mkmap 75) .nil none,u9E 8 (.alloc 75) .nil none,.eff none none (.store 75 (.t 11) (.t 42)) (.cons 11 (.v 8) (.cons 42 (.v 14) .nil)) none])
 (.seq (.seq (.run 0 [.asg 15 (.v 3),.asg 16 (xn 36 43 (.v 15)),u9A 17 0]) (.block 0 (.loop (.seq (.run 0 [.asg 18 (xb .lss 2 45 44 (.v 17) (.v 16))]) (.seq
 (.cond 18 (.skip) (.exit 0)) (.seq (.block 1 (.seq (.run 0 [.asg 19 (xl 37 47 (xi 36 43 45 (.v 15) (.v 17))),u9E 9 (.alloc 37) .nil none,.eff none none (.store
 37 (.t 13) (.t 48)) (.cons 13 (.v 9) (.cons 48 (.v 19) .nil)) none]) (.seq (.seq (.run 0 [.asg 20 (.ite (.ite (.ite (.n (.un .not (.t 55)) (.cons 55 (.n (.call 0 (.f 368) [(.t
 50),(.c (.int .i64 0)),(.t 54)]) (.cons 50 (xl 2 49 (xf 37 13 1 (.v 9))) (.cons 54 (xk .sub 2 53 (.int .i64 1) (xn 14 52 (.n (.iload 14 (.t 51)) (.cons 51 (xf 0 4 2 (.v 4))
 .nil)))) .nil))) .nil)) (.c (.bool true)) (.n (.un .not (.t 65)) (.cons 65 (.n (.call 0 (.f 368) [(.t 64),(.c (.int .i64 0)),(.c (.int .i64 4095))]) (.cons 64 (xl 2 63 (xf
 15 62 0 (xi 14 59 61 (.n (.iload 14 (.t 58)) (.cons 58 (xf 0 4 2 (.v 4)) .nil)) (xl 2 60 (xf 37 13 1 (.v 9)))))) .nil)) .nil))) (.c (.bool true)) (.n (.un .not (.t 71)) (.cons
 71 (.n (.call 0 (.f 368) [(.t 70),(.c (.int .i64 (-1))),(.c (.int .i64 7))]) (.cons 70 (xl 2 69 (xf 37 13 0 (.v 9))) .nil)) .nil))) (.c (.bool true)) (.n (.un .not (.t 77))
 (.cons 77 (.n (.call 0 (.f 368) [(.t 76),(.c (.int .i64 (-1048576))),(.c (.int .i64 1048576))]) (.cons 76 (xl 2 75 (xf 37 13 2 (.v 9))) .nil)) .nil)))]) (.cond 20 (.seq (.run
 0 [.asg 5 (.c (.imm .exact [])),u9A 6 430]) (.ret)) (.skip))) (.seq (.run 15 [.asg 21 (.n (.call 0 (.f 369) [(.t 80),(.t 85),(.t 92),(.t 93)]) (.cons
 80 (xl 37 13 (.v 9)) (.cons 85 (xl 2 84 (xi 6 81 83 (.v 1) (xl 2 82 (xf 37 13 1 (.v 9))))) (.cons 92 (xl 2 91 (xf 15 90 0 (xi 14 87 89 (.n (.iload 14 (.t 86)) (.cons 86 (xf
 0 4 2 (.v 4)) .nil)) (xl 2 88 (xf 37 13 1 (.v 9)))))) (.cons 93 (.v 2) .nil)))))]) (.block 2 (.rfunc 21 [22,23] (.seq (.run 0 [u9E 10 (.alloc 65) .nil none,.eff
 none none (.store 65 (.t 14) (.t 95)) (.cons 14 (.v 10) (.cons 95 (.v 22) .nil)) none]) (.run 0 [.asg 11 (.v 23)])) (.block 3 (.run 0 [.asg 24 (.c (.bool true)),.asg 24 (.ite
 (.ite (.v 24) (.c (.bool true)) (.c (.bool true))) (.c .undef) (.c .undef)),.eff none none (.mapset 75 (.t 97) (.t 98) (.t 101)) (.cons 97 (xl 75 11 (.v 8)) (.cons 98 (xl
 65 14 (.v 10)) (.cons 101 (xb .add 2 99 100 (.n (.lookup 75 (.t 97) (.t 98) false) (.cons 97 (xl 75 11 (.v 8)) (.cons 98 (xl 65 14 (.v 10)) .nil))) (.v 11)) .nil))) none]))))))))
 (.run 0 [.asg 17 (xk .add 2 45 (.int .i64 1) (.v 17))]))))))) (.seq (.run 0 [u9E 25 (.call 2 (.f 370) [(.t 105)]) (.cons 105 (xl 75 11 (.v 8)) .nil) none,.asg
 5 (.v 25),u9A 6 0]) (.ret)))))))
theorem c340:TF E 340 n340 [(5,none),(6,none)] t340 107 := zk (F := f340) rfl (by kernel_rfl) (by decide)

def n341:List Nat := [0,1,2,3,4,8,9,10,11,12,13,14,15,16,20,40,57,67,72,78]
def t341:TC := .seq (.run 0 [.asg 4 (.n (.ibox 0 (.t 0)) (.cons 0 (.v 0) .nil)),.asg 5 (.c (.imm .exact [])),u9A 6 0]) (.seq (.run 0 [.asg 7 (.n (.call 0 (.f 19) [(.t
 17)]) (.cons 17 (.n (.iload 0 (.t 4)) (.cons 4 (.v 4) .nil)) .nil))]) (.seq (.seq (.run 0 [.asg 14 (xk .neq 3 19 (.int .i64 0) (.v 7))]) (.cond 14 (.seq (.run 0 [.asg 5 (.c
 (.imm .exact [])),.asg 6 (.v 7)]) (.ret)) (.skip))) (.seq (.run 0 [.asg 8 (.ite (.ite (xb .eql 2 23 26 (xn 6 22 (.v 1)) (xn 14 25 (.n (.iload 14 (.t 24)) (.cons 24 (xf 0 4
 2 (.v 4)) .nil)))) (.n (.call 0 (.f 371) [(.t 29),(.c (.int .i64 0)),(.c (.int .i64 3))]) (.cons 29 (.v 2) .nil)) (.c (.bool false))) (xk .leq 2 34 (.int .i64 1024) (xn 36
 33 (.v 3))) (.c (.bool false)))]) (.seq (.seq (.run 0 [u9A 9 0]) (.block 0 (.loop (.seq (.seq (.run 0 [.asg 15 (xb .lss 2 37 39 (.v 9) (xn 6 38 (.v 1)))])
 (.cond 15 (.skip) (.exit 0))) (.seq (.block 1 (.run 0 [.asg 8 (.ite (.v 8) (.n (.call 0 (.f 371) [(.t 48),(.c (.int .i64 0)),(.c (.int .i64 7))]) (.cons 48 (xl 2 47 (xi 6
 45 46 (.v 1) (.v 9))) .nil)) (.c (.bool false)))])) (.run 0 [.asg 9 (xk .add 2 41 (.int .i64 1) (.v 9))])))))) (.seq (.seq (.run 0 [u9A 10 0]) (.block 2 (.loop
 (.seq (.seq (.run 0 [.asg 16 (.ite (.v 8) (xb .lss 2 53 55 (.v 10) (xn 36 54 (.v 3))) (.c (.bool false)))]) (.cond 16 (.skip) (.exit 2))) (.seq (.block 3 (.run 7 [.asg 8 (.n
 (.call 0 (.f 372) [(.t 60),(.t 64)]) (.cons 60 (.n (.iload 0 (.t 4)) (.cons 4 (.v 4) .nil)) (.cons 64 (xl 37 63 (xi 36 61 62 (.v 3) (.v 10))) .nil)))])) (.run 0 [.asg 10 (xk
 .add 2 58 (.int .i64 1) (.v 10))])))))) (.seq (.seq (.run 0 [.asg 17 (.n (.un .not (.t 66)) (.cons 66 (.v 8) .nil))]) (.cond 17 (.seq (.run 0 [.asg 5 (.c (.imm .exact [])),
 u9A 6 430]) (.ret)) (.skip))) (.seq (.run 0 [.asg 11 (.n (.bslice false 66 0 []) .nil)]) (.seq (.seq (.run 0 [u9A 12 0]) (.block 4 (.loop
 (.seq (.seq (.run 0 [.asg 18 (xb .lss 2 69 71 (.v 12) (xn 36 70 (.v 3)))]) (.cond 18 (.skip) (.exit 4))) (.seq (.block 5 (.seq (.run 0 [.asg 19 (xl 37 77 (xi 36 75 76 (.v 3)
 (.v 12))),u9E 13 (.alloc 37) .nil none,.eff none none (.store 37 (.t 16) (.t 78)) (.cons 16 (.v 13) (.cons 78 (.v 19) .nil)) none]) (.seq (.run 11 [.asg 11 (.n
 (.call 0 (.f 373) [(.t 79),(.t 85),(.t 87)]) (.cons 79 (.v 11) (.cons 85 (.n (.build 65 [(0,(.c (.int .i64 1))),(1,(.t 84))]) (.cons 84 (xl 2 83 (xi 6 80 82 (.v 1) (xl
 2 81 (xf 37 16 1 (.v 13))))) .nil)) (.cons 87 (xl 2 86 (xf 37 16 2 (.v 13))) .nil))))]) (.seq (.run 13 [.asg 11 (.n (.call 0 (.f 373) [(.t 89),(.t 97),(.t 99)]) (.cons 89
 (.v 11) (.cons 97 (.n (.build 65 [(0,(.c (.int .i64 2))),(1,(.t 96))]) (.cons 96 (xl 2 95 (xf 15 94 0 (xi 14 91 93 (.n (.iload 14 (.t 90)) (.cons 90 (xf 0 4 2 (.v 4)) .nil))
 (xl 2 92 (xf 37 16 1 (.v 13)))))) .nil)) (.cons 99 (xl 2 98 (xf 37 16 2 (.v 13))) .nil))))]) (.seq (.run 0 [.asg 11 (.n (.call 0 (.f 373) [(.t 101),(.t 104),(.t 107)]) (.cons
 101 (.v 11) (.cons 104 (.n (.build 65 [(0,(.c (.int .i64 3))),(1,(.t 103))]) (.cons 103 (xl 2 102 (xf 37 16 0 (.v 13))) .nil)) (.cons 107 (.n (.un .neg (.t 106)) (.cons
 106 (xl 2 105 (xf 37 16 2 (.v 13))) .nil)) .nil))))]) (.run 0 [.asg 11 (.n (.call 0 (.f 373) [(.t 109),(.t 111),(.t 114)]) (.cons 109 (.v 11) (.cons 111 (.n (.build 65 [(0,
 (.c (.int .i64 4))),(1,(.t 110))]) (.cons 110 (.v 2) .nil)) (.cons 114 (.n (.un .neg (.t 113)) (.cons 113 (xl 2 112 (xf 37 16 2 (.v 13))) .nil)) .nil))))])))))) (.run 0 [.asg
 12 (xk .add 2 73 (.int .i64 1) (.v 12))])))))) (.seq (.run 0 [.asg 5 (.n (.call 0 (.f 374) [(.t 116)]) (.cons 116 (.v 11) .nil)),u9A 6 0]) (.ret))))))))))
theorem c341:TF E 341 n341 [(5,none),(6,none)] t341 118 := zk (F := f341) rfl (by kernel_rfl) (by decide)

def n342:List Nat := [0,1,4,5,10,14,25]
def t342:TC := .seq (.run 0 [.asg 2 (.c (.bool false))]) (.seq (.seq (.run 0 [.asg 4 (xb .neq 2 7 9 (xn 66 6 (.v 0)) (xn 66 8 (.v 1)))]) (.cond 4 (.seq (.run 0 [.asg 2 (.c (.bool false))])
 (.ret)) (.skip))) (.seq (.seq (.run 0 [u9A 3 0]) (.block 0 (.loop (.seq (.seq (.run 0 [.asg 5 (xb .lss 2 11 13 (.v 3) (xn 66 12 (.v 0)))]) (.cond 5 (.skip)
 (.exit 0))) (.seq (.block 1 (.seq (.run 9 [.asg 6 (xb .neq 72 20 24 (xl 72 19 (xi 66 17 18 (.v 0) (.v 3))) (xl 72 23 (xi 66 21 22 (.v 1) (.v 3))))]) (.cond 6 (.seq (.run 0
 [.asg 2 (.c (.bool false))]) (.ret)) (.skip)))) (.run 0 [.asg 3 (xk .add 2 15 (.int .i64 1) (.v 3))])))))) (.seq (.run 0 [.asg 2 (.c (.bool true))]) (.ret))))
theorem c342:TF E 342 n342 [(2,none)] t342 26 := zk (F := f342) rfl (by kernel_rfl) (by decide)

def n345:List Nat := [0,1,2,6,7,8,10,12,14,15,19,23,24,25,26,27,28,30,39,41,42,43,44,46,48,49,50,51,53,57,66,70,73,81]
def t345:TC := .seq (.run 0 [.asg 3 (.c (.imm .exact [])),u9A 4 0]) (.seq (.seq (.run 0 [.asg 4 (.n (.call 0 (.f 324) [(.t 16)]) (.cons 16 (.v 0) .nil))]) (.seq (.run 0
 [.asg 10 (xk .neq 3 18 (.int .i64 0) (.v 4))]) (.cond 10 (.seq (.run 0 [.asg 3 (.c (.imm .exact [])),.asg 4 (.v 4)]) (.ret)) (.skip)))) (.seq (.seq (.run 0 [.asg 11 (.n (.un
 .not (.t 22)) (.cons 22 (.n (.call 0 (.f 375) [(.t 21)]) (.cons 21 (.v 2) .nil)) .nil))]) (.cond 11 (.seq (.run 0 [.asg 3 (.c (.imm .exact [])),u9A 4 430])
 (.ret)) (.skip))) (.seq (.run 0 [u9E 12 (.mkmap 75) .nil none,.asg 5 (.v 12)]) (.seq (.seq (.run 0 [.asg 13 (.v 2),.asg 14 (xn 66 25 (.v 13)),u9A 15 0]) (.block 0 (.loop (.seq (.run 0 [.asg 16 (xb .lss 2 27 26 (.v 15) (.v 14))]) (.seq (.cond 16 (.skip) (.exit 0)) (.seq (.block 1 (.seq (.run 0 [.asg 17 (xl 72 29 (xi
 66 25 27 (.v 13) (.v 15))),u9E 6 (.alloc 72) .nil none,.eff none none (.store 72 (.t 10) (.t 30)) (.cons 10 (.v 6) (.cons 30 (.v 17) .nil)) none]) (.run 0 [.asg
 18 (.c (.bool true)),.asg 18 (.ite (.ite (.v 18) (.c (.bool true)) (.c (.bool true))) (.c .undef) (.c .undef)),.eff none none (.mapset 75 (.t 31) (.t 33) (.t 37)) (.cons
 31 (.v 5) (.cons 33 (xl 65 32 (xf 72 10 0 (.v 6))) (.cons 37 (xb .add 2 34 36 (.n (.lookup 75 (.t 31) (.t 33) false) (.cons 31 (.v 5) (.cons 33 (xl 65 32 (xf 72 10 0 (.v 6)))
 .nil))) (xl 2 35 (xf 72 10 1 (.v 6)))) .nil))) none]))) (.run 0 [.asg 15 (xk .add 2 27 (.int .i64 1) (.v 15))]))))))) (.seq (.seq (.run 0 [.asg 19 (.v 0),.asg 20 (xn 70 41
 (.v 19)),u9A 21 0]) (.block 2 (.loop (.seq (.run 0 [.asg 22 (xb .lss 2 43 42 (.v 21) (.v 20))]) (.seq (.cond 22 (.skip) (.exit 2)) (.seq (.block 3 (.seq
 (.run 0 [.asg 23 (xl 71 45 (xi 70 41 43 (.v 19) (.v 21))),u9E 7 (.alloc 71) .nil none,.eff none none (.store 71 (.t 12) (.t 46)) (.cons 12 (.v 7) (.cons 46 (.v
 23) .nil)) none]) (.seq (.run 0 [.asg 24 (xl 66 47 (xf 71 12 3 (.v 7))),.asg 25 (xn 66 48 (.v 24)),u9A 26 0]) (.block 4 (.loop (.seq (.run 0 [.asg 27 (xb
 .lss 2 50 49 (.v 26) (.v 25))]) (.seq (.cond 27 (.skip) (.exit 4)) (.seq (.block 5 (.seq (.run 0 [.asg 28 (xl 72 52 (xi 66 48 50 (.v 24) (.v 26))),u9E 8 (.alloc
 72) .nil none,.eff none none (.store 72 (.t 14) (.t 53)) (.cons 14 (.v 8) (.cons 53 (.v 28) .nil)) none]) (.seq (.run 0 [.asg 29 (xk .leq 2 56 (.int .i64 4) (xl 2 55 (xf 65
 54 0 (xf 72 14 0 (.v 8)))))]) (.cond 29 (.run 0 [.asg 30 (.c (.bool true)),.asg 30 (.ite (.ite (.v 30) (.c (.bool true)) (.c (.bool true))) (.c .undef) (.c .undef)),.eff
 none none (.mapset 75 (.t 58) (.t 60) (.t 64)) (.cons 58 (.v 5) (.cons 60 (xl 65 59 (xf 72 14 0 (.v 8))) (.cons 64 (xb .sub 2 61 63 (.n (.lookup 75 (.t 58) (.t 60) false) (.cons
 58 (.v 5) (.cons 60 (xl 65 59 (xf 72 14 0 (.v 8))) .nil))) (xl 2 62 (xf 72 14 1 (.v 8)))) .nil))) none]) (.skip))))) (.run 0 [.asg 26 (xk .add 2 50 (.int .i64 1) (.v 26))])))))))))
 (.run 0 [.asg 21 (xk .add 2 43 (.int .i64 1) (.v 21))]))))))) (.seq (.run 0 [u9E 31 (.call 2 (.f 370) [(.t 69)]) (.cons 69 (.v 5) .nil) none,.asg 9 (.v 31)])
 (.seq (.seq (.run 0 [.asg 32 (xk .eql 2 72 (.int .i64 0) (xn 66 71 (.v 9)))]) (.cond 32 (.seq (.run 0 [.asg 3 (.v 0),u9A 4 0]) (.ret)) (.skip))) (.seq (.run
 0 [.asg 33 (.n (.call 0 (.f 316) [(.t 75),(.t 76),(.t 79),(.t 80)]) (.cons 75 (.v 0) (.cons 76 (.v 1) (.cons 79 (xk .sub 2 78 (.int .i64 1) (xn 70 77 (.v 0))) (.cons 80
 (.v 9) .nil))))),.asg 3 (xe 81 0 (.v 33)),.asg 4 (xe 81 1 (.v 33))]) (.ret)))))))))
theorem c345:TF E 345 n345 [(3,none),(4,none)] t345 84 := zk (F := f345) rfl (by kernel_rfl) (by decide)

def n346:List Nat := [0,1,4,5,10,14,80]
def t346:TC := .seq (.run 0 [.asg 2 (.c (.bool false))]) (.seq (.seq (.run 0 [.asg 4 (xb .neq 2 7 9 (xn 70 6 (.v 0)) (xn 70 8 (.v 1)))]) (.cond 4 (.seq (.run 0 [.asg 2 (.c (.bool false))])
 (.ret)) (.skip))) (.seq (.seq (.run 0 [u9A 3 0]) (.block 0 (.loop (.seq (.seq (.run 0 [.asg 5 (xb .lss 2 11 13 (.v 3) (xn 70 12 (.v 0)))]) (.cond 5 (.skip)
 (.exit 0))) (.seq (.block 1 (.seq (.run 64 [.asg 6 (.ite (.ite (.ite (.ite (xb .neq 2 21 26 (xl 2 20 (xf 71 19 0 (xi 70 17 18 (.v 0) (.v 3)))) (xl 2 25 (xf 71 24 0 (xi 70 22
 23 (.v 1) (.v 3))))) (.c (.bool true)) (xb .neq 2 33 38 (xl 2 32 (xf 71 31 1 (xi 70 29 30 (.v 0) (.v 3)))) (xl 2 37 (xf 71 36 1 (xi 70 34 35 (.v 1) (.v 3)))))) (.c (.bool true))
 (xb .neq 2 46 51 (xl 2 45 (xf 71 44 2 (xi 70 42 43 (.v 0) (.v 3)))) (xl 2 50 (xf 71 49 2 (xi 70 47 48 (.v 1) (.v 3)))))) (.c (.bool true)) (xb .neq 73 59 64 (xl 73 58 (xf 71
 57 4 (xi 70 55 56 (.v 0) (.v 3)))) (xl 73 63 (xf 71 62 4 (xi 70 60 61 (.v 1) (.v 3)))))) (.c (.bool true)) (.n (.un .not (.t 78)) (.cons 78 (.n (.call 0 (.f 342) [(.t 72),
 (.t 77)]) (.cons 72 (xl 66 71 (xf 71 70 3 (xi 70 68 69 (.v 0) (.v 3)))) (.cons 77 (xl 66 76 (xf 71 75 3 (xi 70 73 74 (.v 1) (.v 3)))) .nil))) .nil)))]) (.cond 6 (.seq (.run
 0 [.asg 2 (.c (.bool false))]) (.ret)) (.skip)))) (.run 0 [.asg 3 (xk .add 2 15 (.int .i64 1) (.v 3))])))))) (.seq (.run 0 [.asg 2 (.c (.bool true))]) (.ret))))
theorem c346:TF E 346 n346 [(2,none)] t346 81 := zk (F := f346) rfl (by kernel_rfl) (by decide)

def n350:List Nat := [0,2,3,4,5,7,9,13,16,17,18,20,21,22,23,25,33,35,36,37,38,40,48]
def t350:TC := .seq (.run 0 [.asg 1 (.c (.bool false)),u9A 2 0]) (.seq (.seq (.run 0 [.asg 2 (.n (.call 0 (.f 324) [(.t 10)]) (.cons 10 (.v 0) .nil))]) (.seq (.run 0 [.asg
 7 (xk .neq 3 12 (.int .i64 0) (.v 2))]) (.cond 7 (.seq (.run 0 [.asg 1 (.c (.bool false)),.asg 2 (.v 2)]) (.ret)) (.skip)))) (.seq (.seq (.run 0 [.asg 8 (xn 70 15 (.v 0)),
 u9A 9 0]) (.block 0 (.loop (.seq (.run 0 [.asg 10 (xb .lss 2 17 16 (.v 9) (.v 8))]) (.seq (.cond 10 (.skip) (.exit 0)) (.seq (.block 1 (.seq (.run 0 [.asg
 3 (.v 9)]) (.seq (.run 0 [u9A 4 0]) (.seq (.seq (.run 0 [.asg 11 (.v 0),.asg 12 (xn 70 20 (.v 11)),u9A 13 0]) (.block 2 (.loop (.seq (.run
 0 [.asg 14 (xb .lss 2 22 21 (.v 13) (.v 12))]) (.seq (.cond 14 (.skip) (.exit 2)) (.seq (.block 3 (.seq (.run 0 [.asg 15 (xl 71 24 (xi 70 20 22 (.v 11) (.v 13))),u9E 5 (.alloc 71) .nil none,.eff none none (.store 71 (.t 7) (.t 25)) (.cons 7 (.v 5) (.cons 25 (.v 15) .nil)) none]) (.seq (.run 8 [.asg 16 (xb .leq 2 27 32 (xl 2 26 (xf
 71 7 1 (.v 5))) (xl 2 31 (xf 71 30 1 (xi 70 28 29 (.v 0) (.v 3)))))]) (.cond 16 (.seq (.run 0 [.asg 17 (xl 66 34 (xf 71 7 3 (.v 5))),.asg 18 (xn 66 35 (.v 17)),u9A 19 0]) (.block 4 (.loop (.seq (.run 0 [.asg 20 (xb .lss 2 37 36 (.v 19) (.v 18))]) (.seq (.cond 20 (.skip) (.exit 4)) (.seq (.block 5 (.seq (.run 0 [.asg 21 (xl 72
 39 (xi 66 35 37 (.v 17) (.v 19))),u9E 6 (.alloc 72) .nil none,.eff none none (.store 72 (.t 9) (.t 40)) (.cons 9 (.v 6) (.cons 40 (.v 21) .nil)) none]) (.run
 0 [.asg 4 (xb .add 2 41 43 (.v 4) (xl 2 42 (xf 72 9 1 (.v 6))))]))) (.run 0 [.asg 19 (xk .add 2 37 (.int .i64 1) (.v 19))]))))))) (.skip))))) (.run 0 [.asg 13 (xk .add 2 22
 (.int .i64 1) (.v 13))]))))))) (.seq (.run 0 [.asg 22 (xk .neq 2 47 (.int .i64 0) (.v 4))]) (.cond 22 (.seq (.run 0 [.asg 1 (.c (.bool false)),u9A 2 0])
 (.ret)) (.skip))))))) (.run 0 [.asg 9 (xk .add 2 17 (.int .i64 1) (.v 9))]))))))) (.seq (.run 0 [.asg 1 (.c (.bool true)),u9A 2 0]) (.ret))))
theorem c350:TF E 350 n350 [(1,none),(2,none)] t350 50 := zk (F := f350) rfl (by kernel_rfl) (by decide)

def n352:List Nat := [0,1,2,6,7,9,10,11,15,19,21,22,23,24,26,30,31,39,46]
def t352:TC := .seq (.run 0 [.asg 3 (.c (.imm .exact [])),u9A 4 0]) (.seq (.seq (.run 0 [.asg 4 (.n (.call 0 (.f 324) [(.t 12)]) (.cons 12 (.v 0) .nil))]) (.seq (.run 0
 [.asg 8 (xk .neq 3 14 (.int .i64 0) (.v 4))]) (.cond 8 (.seq (.run 0 [.asg 3 (.c (.imm .exact [])),.asg 4 (.v 4)]) (.ret)) (.skip)))) (.seq (.seq (.run 0 [.asg 9 (.n (.un
 .not (.t 18)) (.cons 18 (.n (.call 0 (.f 368) [(.t 17),(.c (.int .i64 1)),(.c (.int .i64 5))]) (.cons 17 (.v 1) .nil)) .nil))]) (.cond 9 (.seq (.run 0 [.asg 3 (.c (.imm .exact
 [])),u9A 4 430]) (.ret)) (.skip))) (.seq (.seq (.run 0 [.asg 10 (.n (.call 0 (.f 325) [(.t 20)]) (.cons 20 (.v 0) .nil)),.asg 11 (xn 67 21 (.v 10)),u9A 12 0]) (.block 0 (.loop (.seq (.run 0 [.asg 13 (xb .lss 2 23 22 (.v 12) (.v 11))]) (.seq (.cond 13 (.skip) (.exit 0)) (.seq (.block 1 (.seq (.run 0 [.asg 14
 (xl 65 25 (xi 67 21 23 (.v 10) (.v 12))),u9E 5 (.alloc 65) .nil none,.eff none none (.store 65 (.t 9) (.t 26)) (.cons 9 (.v 5) (.cons 26 (.v 14) .nil)) none])
 (.seq (.run 0 [.asg 15 (xb .eql 2 28 29 (xl 2 27 (xf 65 9 0 (.v 5))) (.v 1))]) (.cond 15 (.seq (.run 0 [.asg 16 (.n (.call 0 (.f 318) [(.t 32),(.t 33),(.t 34)]) (.cons 32
 (.v 0) (.cons 33 (xl 65 9 (.v 5)) (.cons 34 (.v 2) .nil)))),.asg 6 (xe 31 0 (.v 16)),.asg 7 (xe 31 1 (.v 16))]) (.seq (.seq (.run 0 [.asg 17 (xk .neq 3 38 (.int .i64 0) (.v
 7))]) (.cond 17 (.seq (.run 0 [.asg 3 (.c (.imm .exact [])),.asg 4 (.v 7)]) (.ret)) (.skip))) (.run 0 [u9E 18 (.append 0 66 66 (.t 41) (.t 45)) (.cons 41 (.v
 3) (.cons 45 (.n (.bslice false 66 1 [(0,(.t 44))]) (.cons 44 (.n (.build 72 [(0,(.t 42)),(1,(.t 43))]) (.cons 42 (xl 65 9 (.v 5)) (.cons 43 (.v 6) .nil))) .nil)) .nil))
 none,.asg 3 (.v 18)]))) (.skip))))) (.run 0 [.asg 12 (xk .add 2 23 (.int .i64 1) (.v 12))]))))))) (.seq (.run 0 [.asg 3 (.v 3),u9A 4 0]) (.ret)))))
theorem c352:TF E 352 n352 [(3,none),(4,none)] t352 49 := zk (F := f352) rfl (by kernel_rfl) (by decide)

def n354:List Nat := [0,2,3,5,6,7,8,9,10,14,16,17,18,19,21,25,30,31,32,33,36,61,63,67]
def t354:TC := .seq (.run 0 [u9E 1 (.alloc 73) .nil none,u9A 2 0]) (.seq (.seq (.run 0 [.asg 9 (xk .gtr 2 13 (.int .i64 65536) (xn 70 12 (.v 0)))]) (.cond
 9 (.seq (.run 0 [.eff none none (.store 73 (.t 2) (.t 15)) (.cons 2 (.v 1) (.cons 15 (xl 73 2 (.v 1)) .nil)) none,u9A 2 2]) (.ret)) (.skip))) (.seq (.seq
 (.run 0 [.asg 10 (.v 0),.asg 11 (xn 70 16 (.v 10)),u9A 12 0]) (.block 0 (.loop (.seq (.run 0 [.asg 13 (xb .lss 2 18 17 (.v 12) (.v 11))]) (.seq (.cond 13
 (.skip) (.exit 0)) (.seq (.block 1 (.seq (.run 0 [.asg 14 (xl 71 20 (xi 70 16 18 (.v 10) (.v 12))),u9E 3 (.alloc 71) .nil none,.eff none none (.store 71 (.t
 5) (.t 21)) (.cons 5 (.v 3) (.cons 21 (.v 14) .nil)) none]) (.seq (.run 0 [.asg 4 (.n (.call 0 (.f 355) [(.t 22)]) (.cons 22 (xl 71 5 (.v 3)) .nil))]) (.seq (.run 0 [.asg 15
 (xk .neq 3 24 (.int .i64 0) (.v 4))]) (.cond 15 (.seq (.run 0 [.eff none none (.store 73 (.t 2) (.t 26)) (.cons 2 (.v 1) (.cons 26 (xl 73 2 (.v 1)) .nil)) none,.asg 2 (.v
 4)]) (.ret)) (.skip)))))) (.run 0 [.asg 12 (xk .add 2 18 (.int .i64 1) (.v 12))]))))))) (.seq (.run 0 [u9E 5 (.alloc 73) .nil none,.eff none none (.store 73 (.t
 7) (.t 29)) (.cons 7 (.v 5) (.cons 29 (.n (.call 0 (.f 331) [(.c (.str [112,111,115,116,105,110,103,115])),(.c (.imm .exact []))]) .nil) .nil)) none]) (.seq (.seq (.run
 0 [.asg 16 (.v 0),.asg 17 (xn 70 30 (.v 16)),u9A 18 0]) (.block 2 (.loop (.seq (.run 0 [.asg 19 (xb .lss 2 32 31 (.v 18) (.v 17))]) (.seq (.cond 19 (.skip)
 (.exit 2)) (.seq (.block 3 (.seq (.run 0 [.asg 20 (xl 71 35 (xi 70 30 32 (.v 16) (.v 18))),u9E 7 (.alloc 71) .nil none,.asg 6 (.v 18),.eff none none (.store
 71 (.t 9) (.t 36)) (.cons 9 (.v 7) (.cons 36 (.v 20) .nil)) none]) (.seq (.seq (.run 25 [.asg 21 (.ite (.ite (xb .neq 2 38 39 (xl 2 37 (xf 71 9 0 (.v 7))) (.v 6)) (.c (.bool
 true)) (.ite (xk .gtr 2 42 (.int .i64 0) (.v 6)) (xb .gtr 2 50 52 (xl 2 49 (xf 71 48 1 (xi 70 45 47 (.v 0) (xk .sub 2 46 (.int .i64 1) (.v 6))))) (xl 2 51 (xf 71 9 1 (.v 7))))
 (.c (.bool false)))) (.c (.bool true)) (xb .neq 73 58 59 (xl 73 57 (xf 71 9 4 (.v 7))) (xl 73 7 (.v 5))))]) (.cond 21 (.seq (.run 0 [.eff none none (.store 73 (.t 2) (.t 62))
 (.cons 2 (.v 1) (.cons 62 (xl 73 2 (.v 1)) .nil)) none,u9A 2 410]) (.ret)) (.skip))) (.seq (.run 0 [.asg 22 (.n (.call 0 (.f 334) [(.t 64)]) (.cons 64 (xl
 71 9 (.v 7)) .nil)),.asg 23 (xe 63 1 (.v 22)),.asg 8 (xe 63 0 (.v 22))]) (.run 5 [.eff none none (.store 73 (.t 7) (.t 71)) (.cons 7 (.v 5) (.cons 71 (.n (.call 0 (.f 335)
 [(.t 68),(.t 70)]) (.cons 68 (xl 73 7 (.v 5)) (.cons 70 (.n (.call 0 (.f 331) [(.c (.str [112,111,115,116,105,110,103])),(.t 69)]) (.cons 69 (.v 8) .nil)) .nil))) .nil))
 (some 4)]))))) (.run 0 [.asg 18 (xk .add 2 32 (.int .i64 1) (.v 18))]))))))) (.seq (.run 0 [.eff none none (.store 73 (.t 2) (.t 73)) (.cons 2 (.v 1) (.cons 73 (xl 73 7 (.v
 5)) .nil)) none,u9A 2 0]) (.ret))))))
theorem c354:TF E 354 n354 [(1,some 73),(2,none)] t354 74 := zk (F := f354) rfl (by kernel_rfl) (by decide)

def n355:List Nat := [0,1,2,3,4,5,47,49,50,51,52,55,92,107,114]
def t355:TC := .seq (.run 0 [.asg 1 (.n (.ibox 71 (.t 0)) (.cons 0 (.v 0) .nil)),u9A 2 0]) (.seq (.seq (.run 0 [.asg 6 (.ite (.ite (.ite (.ite (.ite (.ite (.ite (xk .lss
 2 7 (.int .i64 0) (.n (.iload 2 (.t 6)) (.cons 6 (xf 71 1 0 (.v 1)) .nil))) (.c (.bool true)) (xk .geq 2 11 (.int .i64 65536) (.n (.iload 2 (.t 10)) (.cons 10 (xf 71 1 0 (.v
 1)) .nil)))) (.c (.bool true)) (xk .lss 2 16 (.int .i64 0) (.n (.iload 2 (.t 15)) (.cons 15 (xf 71 1 1 (.v 1)) .nil)))) (.c (.bool true)) (xk .geq 2 21 (.int .i64 1440) (.n
 (.iload 2 (.t 20)) (.cons 20 (xf 71 1 1 (.v 1)) .nil)))) (.c (.bool true)) (xk .lss 2 26 (.int .i64 (-1)) (.n (.iload 2 (.t 25)) (.cons 25 (xf 71 1 2 (.v 1)) .nil)))) (.c (.bool
 true)) (xb .geq 2 31 33 (.n (.iload 2 (.t 30)) (.cons 30 (xf 71 1 2 (.v 1)) .nil)) (.n (.iload 2 (.t 32)) (.cons 32 (xf 71 1 0 (.v 1)) .nil)))) (.c (.bool true)) (xk .lss 2
 39 (.int .i64 2) (xn 66 38 (.n (.iload 66 (.t 37)) (.cons 37 (xf 71 1 3 (.v 1)) .nil))))) (.c (.bool true)) (xk .gtr 2 45 (.int .i64 4096) (xn 66 44 (.n (.iload 66 (.t 43))
 (.cons 43 (xf 71 1 3 (.v 1)) .nil)))))]) (.cond 6 (.seq (.run 0 [u9A 2 410]) (.ret)) (.skip))) (.seq (.run 0 [u9A 3 0]) (.seq (.seq (.run
 0 [.asg 7 (.n (.iload 66 (.t 48)) (.cons 48 (xf 71 1 3 (.v 1)) .nil)),.asg 8 (xn 66 49 (.v 7)),u9A 9 0]) (.block 0 (.loop (.seq (.run 0 [.asg 10 (xb .lss
 2 51 50 (.v 9) (.v 8))]) (.seq (.cond 10 (.skip) (.exit 0)) (.seq (.block 1 (.seq (.run 0 [.asg 11 (xl 72 54 (xi 66 49 51 (.v 7) (.v 9))),u9E 5 (.alloc 72) .nil
 none,.asg 4 (.v 9),.eff none none (.store 72 (.t 5) (.t 55)) (.cons 5 (.v 5) (.cons 55 (.v 11) .nil)) none]) (.seq (.seq (.run 0 [.asg 12 (.ite (.ite (.ite (.ite (.ite (.ite
 (xk .lss 2 58 (.int .i64 1) (xl 2 57 (xf 65 56 0 (xf 72 5 0 (.v 5))))) (.c (.bool true)) (xk .gtr 2 63 (.int .i64 5) (xl 2 62 (xf 65 61 0 (xf 72 5 0 (.v 5)))))) (.c (.bool
 true)) (xk .lss 2 69 (.int .i64 (-1)) (xl 2 68 (xf 65 67 1 (xf 72 5 0 (.v 5)))))) (.c (.bool true)) (xk .gtr 2 75 (.int .i64 4095) (xl 2 74 (xf 65 73 1 (xf 72 5 0 (.v 5))))))
 (.c (.bool true)) (xk .eql 2 80 (.int .i64 0) (xl 2 79 (xf 72 5 1 (.v 5))))) (.c (.bool true)) (xk .lss 2 85 (.int .i64 (-1099511627776)) (xl 2 84 (xf 72 5 1 (.v 5))))) (.c
 (.bool true)) (xk .gtr 2 90 (.int .i64 1099511627776) (xl 2 89 (xf 72 5 1 (.v 5)))))]) (.cond 12 (.seq (.run 0 [u9A 2 410]) (.ret)) (.skip))) (.seq (.seq
 (.run 15 [.asg 13 (.ite (xk .gtr 2 93 (.int .i64 0) (.v 4)) (xk .geq 2 105 (.int .i64 0) (.n (.call 0 (.f 362) [(.t 102),(.t 104)]) (.cons 102 (xl 65 101 (xf 72 100 0 (xi
 66 97 99 (.n (.iload 66 (.t 96)) (.cons 96 (xf 71 1 3 (.v 1)) .nil)) (xk .sub 2 98 (.int .i64 1) (.v 4))))) (.cons 104 (xl 65 103 (xf 72 5 0 (.v 5))) .nil)))) (.c (.bool false)))])
 (.cond 13 (.seq (.run 0 [u9A 2 410]) (.ret)) (.skip))) (.run 0 [.asg 3 (xb .add 2 108 110 (.v 3) (xl 2 109 (xf 72 5 1 (.v 5))))]))))) (.run 0 [.asg 9 (xk
 .add 2 51 (.int .i64 1) (.v 9))]))))))) (.seq (.seq (.run 0 [.asg 14 (xk .neq 2 113 (.int .i64 0) (.v 3))]) (.cond 14 (.seq (.run 0 [u9A 2 411]) (.ret)) (.skip)))
 (.seq (.run 0 [u9A 2 0]) (.ret))))))
theorem c355:TF E 355 n355 [(2,none)] t355 115 := zk (F := f355) rfl (by kernel_rfl) (by decide)

def n356:List Nat := [0,2,7]
def t356:TC := .seq (.run 0 [.asg 1 (.c (.imm .exact []))]) (.seq (.run 0 [u9E 2 (.append 1 70 70 (.t 5) (.t 6)) (.cons 5 (.n (.bslice false 70 0 []) .nil) (.cons 6 (.v 0) .nil))
 none,.asg 1 (.v 2)]) (.ret))
theorem c356:TF E 356 n356 [(1,none)] t356 8 := zk (F := f356) rfl (by kernel_rfl) (by decide)

def n359:List Nat := [0,1,2]
def t359:TC := .seq (.run 0 [.asg 1 (.n (.ibox 70 (.t 0)) (.cons 0 (.v 0) .nil)),.asg 2 (.c .nilfn)]) (.seq (.run 0 [.asg 2 (.n (.mkfn 380 [(.t 1)]) (.cons 1 (.v 1) .nil))]) (.ret))
theorem c359:TF E 359 n359 [(2,none)] t359 4 := zk (F := f359) rfl (by kernel_rfl) (by decide)

def n362:List Nat := [0,1,2,3,4]
def t362:TC := .seq (.run 0 [.asg 2 (.n (.ibox 65 (.t 0)) (.cons 0 (.v 0) .nil)),.asg 3 (.n (.ibox 65 (.t 1)) (.cons 1 (.v 1) .nil)),u9A 4 0]) (.seq (.run 13 [.asg 4 (.n
 (.call 0 (.f 105) [(.t 15)]) (.cons 15 (.n (.bslice false 6 2 [(0,(.t 9)),(1,(.t 14))]) (.cons 9 (.n (.call 0 (.f 74) [(.t 6),(.t 8)]) (.cons 6 (.n (.iload 2 (.t 5)) (.cons
 5 (xf 65 2 0 (.v 2)) .nil)) (.cons 8 (.n (.iload 2 (.t 7)) (.cons 7 (xf 65 3 0 (.v 3)) .nil)) .nil))) (.cons 14 (.n (.call 0 (.f 74) [(.t 11),(.t 13)]) (.cons 11 (.n (.iload
 2 (.t 10)) (.cons 10 (xf 65 2 1 (.v 2)) .nil)) (.cons 13 (.n (.iload 2 (.t 12)) (.cons 12 (xf 65 3 1 (.v 3)) .nil)) .nil))) .nil))) .nil))]) (.ret))
theorem c362:TF E 362 n362 [(4,none)] t362 17 := zk (F := f362) rfl (by kernel_rfl) (by decide)

def n363:List Nat := [0,2,3,4,5,8,13,25,32,44,59]
def t363:TC := .seq (.run 0 [.asg 1 (.c (.imm .exact []))]) (.seq (.seq (.run 0 [.asg 5 (xk .lss 2 7 (.int .i64 2) (xn 67 6 (.v 0)))]) (.cond 5 (.seq (.run 0 [.asg 1 (.v 0)]) (.ret)) (.skip)))
 (.seq (.seq (.run 0 [u9A 2 1]) (.block 0 (.loop (.seq (.seq (.run 0 [.asg 6 (xb .lss 2 10 12 (.v 2) (xn 67 11 (.v 0)))]) (.cond 6 (.skip) (.exit 0))) (.seq
 (.block 1 (.seq (.run 10 [.asg 7 (xb .eql 65 19 24 (xl 65 18 (xi 67 16 17 (.v 0) (.v 2))) (xl 65 23 (xi 67 20 22 (.v 0) (xk .sub 2 21 (.int .i64 1) (.v 2)))))]) (.cond 7 (.seq
 (.run 0 [.asg 3 (.n (.slice 67 (.t 26) (some (.t 27)) none none) (.cons 26 (.v 0) (.cons 27 (.v 2) .nil)))]) (.seq (.seq (.run 0 [u9A 4 1]) (.block 2 (.loop
 (.seq (.seq (.run 0 [.asg 8 (xb .lss 2 29 31 (.v 4) (xn 67 30 (.v 3)))]) (.cond 8 (.skip) (.exit 2))) (.seq (.block 3 (.seq (.run 10 [.asg 9 (xb .neq 65 38 43 (xl 65 37 (xi
 67 35 36 (.v 3) (.v 4))) (xl 65 42 (xi 67 39 41 (.v 3) (xk .sub 2 40 (.int .i64 1) (.v 4)))))]) (.cond 9 (.seq (.run 0 [.eff none none (.store 65 (.t 51) (.t 50)) (.cons 51
 (xi 67 45 46 (.v 0) (.v 2)) (.cons 50 (xl 65 49 (xi 67 47 48 (.v 3) (.v 4))) .nil)) none]) (.run 0 [.asg 2 (xk .add 2 52 (.int .i64 1) (.v 2))])) (.skip)))) (.run 0 [.asg 4
 (xk .add 2 33 (.int .i64 1) (.v 4))])))))) (.seq (.run 0 [.eff none none (.clr 67 (.t 56)) (.cons 56 (.n (.slice 67 (.t 54) (some (.t 55)) none none) (.cons 54 (.v 0) (.cons
 55 (.v 2) .nil))) .nil) none]) (.seq (.run 0 [u9E 10 (.reslice 67 (.t 57) (.t 58)) (.cons 57 (.v 0) (.cons 58 (.v 2) .nil)) none,.asg 1 (.v 10)]) (.ret))))) (.skip))))
 (.run 0 [.asg 2 (xk .add 2 14 (.int .i64 1) (.v 2))])))))) (.seq (.run 0 [.asg 1 (.v 0)]) (.ret))))
theorem c363:TF E 363 n363 [(1,none)] t363 61 := zk (F := f363) rfl (by kernel_rfl) (by decide)

def n364:List Nat := [0,2,3,4,5,6,7,8,9,14,20,21,24,31,33,43,46,52,53,54,55,66]
def t364:TC := .seq (.run 0 [u9E 1 (.alloc 73) .nil none]) (.seq (.run 0 [.asg 8 (.n (.load 76 (.c (.iptr [(.int .u32 1779033703),(.int .u32 3144134277),(.int .u32 1013904242),
 (.int .u32 2773480762),(.int .u32 1359893119),(.int .u32 2600822924),(.int .u32 528734635),(.int .u32 1541459225)]))) .nil),u9E 2 (.alloc 77) .nil none,.eff
 none none (.store 77 (.t 3) (.t 9)) (.cons 3 (.v 2) (.cons 9 (.v 8) .nil)) none]) (.seq (.run 0 [.asg 3 (.n (.mkbfn 404 (.t 3)) (.cons 3 (.v 2) .nil))]) (.seq (.run 0 [.asg
 4 (.v 0)]) (.seq (.block 0 (.loop (.seq (.seq (.run 0 [.asg 9 (xk .geq 2 13 (.int .i64 64) (xn 30 12 (.v 4)))]) (.cond 9 (.skip) (.exit 0))) (.seq (.block 1 (.run 0 [u9E 10 (.call 2 (.t 17) [(.t 19)]) (.cons 17 (.v 3) (.cons 19 (.n (.slice 30 (.t 18) none (some (.c (.int .i64 64))) none) (.cons 18 (.v 4) .nil)) .nil)) none])) (.run 0
 [.asg 4 (.n (.slice 30 (.t 15) (some (.c (.int .i64 64))) none none) (.cons 15 (.v 4) .nil))]))))) (.seq (.run 0 [u9E 11 (.mkcap 30 (.c (.int .i64 64)) (.c (.int
 .i64 128))) .nil none,.asg 5 (.v 11)]) (.seq (.run 0 [u9E 12 (.copy 30 30 (.t 22) (.t 23)) (.cons 22 (.v 5) (.cons 23 (.v 4) .nil)) none]) (.seq (.run 0 [.eff
 none none (.store 13 (.t 28) (.c (.int .u8 128))) (.cons 28 (xi 30 25 27 (.v 5) (xn 30 26 (.v 4))) .nil) none]) (.seq (.seq (.run 0 [.asg 13 (xk .gtr 2 30 (.int .i64 55) (xn
 30 29 (.v 4)))]) (.cond 13 (.run 0 [u9E 14 (.reslice 30 (.t 32) (.c (.int .i64 128))) (.cons 32 (.v 5) .nil) none,.asg 5 (.v 14)]) (.skip))) (.seq (.run 0 [u9E 15 (.call 2 (.f 383) [(.t 38),(.t 42)]) (.cons 38 (.n (.slice 30 (.t 34) (some (.t 37)) none none) (.cons 34 (.v 5) (.cons 37 (xk .sub 2 36 (.int .i64 8) (xn 30
 35 (.v 5))) .nil))) (.cons 42 (xk .mul 63 41 (.int .u64 8) (.n (.conv 2 63 (.t 40)) (.cons 40 (xn 30 39 (.v 0)) .nil))) .nil)) none]) (.seq (.block 2 (.loop (.seq (.seq (.run
 0 [.asg 16 (xk .gtr 2 45 (.int .i64 0) (xn 30 44 (.v 5)))]) (.cond 16 (.skip) (.exit 2))) (.seq (.block 3 (.run 0 [u9E 17 (.call 2 (.t 49) [(.t 51)]) (.cons 49
 (.v 3) (.cons 51 (.n (.slice 30 (.t 50) none (some (.c (.int .i64 64))) none) (.cons 50 (.v 5) .nil)) .nil)) none])) (.run 0 [.asg 5 (.n (.slice 30 (.t 47) (some (.c (.int
 .i64 64))) none none) (.cons 47 (.v 5) .nil))]))))) (.seq (.seq (.run 0 [.asg 18 (xl 77 3 (.v 2)),u9A 19 0]) (.block 4 (.loop (.seq (.run 0 [.asg 20 (xk
 .lss 2 54 (.int .i64 8) (.v 19))]) (.seq (.cond 20 (.skip) (.exit 4)) (.seq (.block 5 (.seq (.run 0 [.asg 6 (.v 19),.asg 7 (.n (.index 77 (.t 53) (.t 54)) (.cons 53 (.v 18)
 (.cons 54 (.v 19) .nil)))]) (.run 0 [u9E 21 (.call 2 (.f 383) [(.t 63),(.t 65)]) (.cons 63 (.n (.slice 73 (.t 2) (some (.t 59)) (some (.t 62)) none) (.cons 2
 (.v 1) (.cons 59 (.n (.bin .mul 2 (.c (.int .i64 4)) (.t 58)) (.cons 58 (.v 6) .nil)) (.cons 62 (xk .add 2 61 (.int .i64 4) (.n (.bin .mul 2 (.c (.int .i64 4)) (.t 60)) (.cons
 60 (.v 6) .nil))) .nil)))) (.cons 65 (.n (.conv 78 63 (.t 64)) (.cons 64 (.v 7) .nil)) .nil)) none]))) (.run 0 [.asg 19 (xk .add 2 54 (.int .i64 1) (.v 19))]))))))) (.seq (.run
 0 [.eff none none (.store 73 (.t 2) (.t 68)) (.cons 2 (.v 1) (.cons 68 (xl 73 2 (.v 1)) .nil)) none]) (.ret)))))))))))))
theorem c364:TF E 364 n364 [(1,some 73)] t364 69 := zk (F := f364) rfl (by kernel_rfl) (by decide)

def n365:List Nat := [0,2,3,5,6,8,9,10,11,12,20,24,25,26,27,28,33]
def t365:TC := .seq (.run 0 [.asg 1 (.c (.imm .exact []))]) (.seq (.run 0 [u9A 2 0]) (.seq (.seq (.run 0 [.asg 6 (.v 0),.asg 7 (xn 74 9 (.v 6)),u9A 8 0])
 (.block 0 (.loop (.seq (.run 0 [.asg 9 (xb .lss 2 11 10 (.v 8) (.v 7))]) (.seq (.cond 9 (.skip) (.exit 0)) (.seq (.block 1 (.seq (.run 0 [.asg 3 (xl 30 13 (xi 74 9 11 (.v 6)
 (.v 8)))]) (.seq (.run 0 [.asg 2 (xb .add 2 15 17 (.v 2) (xn 30 16 (.v 3)))]) (.seq (.run 0 [.asg 10 (xk .lss 2 19 (.int .i64 0) (.v 2))]) (.cond 10 (.dead) (.skip)))))) (.run
 0 [.asg 8 (xk .add 2 11 (.int .i64 1) (.v 8))]))))))) (.seq (.run 0 [u9E 11 (.call 2 (.f 384) [(.c (.imm .exact [])),(.t 23)]) (.cons 23 (.v 2) .nil) none,.asg
 4 (.v 11)]) (.seq (.seq (.run 0 [.asg 12 (.v 0),.asg 13 (xn 74 25 (.v 12)),u9A 14 0]) (.block 2 (.loop (.seq (.run 0 [.asg 15 (xb .lss 2 27 26 (.v 14) (.v
 13))]) (.seq (.cond 15 (.skip) (.exit 2)) (.seq (.block 3 (.seq (.run 0 [.asg 5 (xl 30 29 (xi 74 25 27 (.v 12) (.v 14)))]) (.run 0 [u9E 16 (.append 0 30 30 (.t
 31) (.t 32)) (.cons 31 (.v 4) (.cons 32 (.v 5) .nil)) none,.asg 4 (.v 16)]))) (.run 0 [.asg 14 (xk .add 2 27 (.int .i64 1) (.v 14))]))))))) (.seq (.run 0 [.asg 1 (.v 4)])
 (.ret))))))
theorem c365:TF E 365 n365 [(1,none)] t365 36 := zk (F := f365) rfl (by kernel_rfl) (by decide)

def n366:List Nat := [0,2,3,5,7,8,9,10,18]
def t366:TC := .seq (.run 0 [u9E 1 (.alloc 55) .nil none]) (.seq (.run 0 [u9E 2 (.alloc 55) .nil none,.eff none none (.store 55 (.t 3) (.t 6)) (.cons 3 (.v 2) (.cons
 6 (.n (.build 55 [(0,(.c (.int .i64 3)))]) .nil) .nil)) none]) (.seq (.seq (.run 0 [.asg 4 (.v 0),.asg 5 (xn 6 7 (.v 4)),u9A 6 0]) (.block 0 (.loop (.seq
 (.run 0 [.asg 7 (xb .lss 2 9 8 (.v 6) (.v 5))]) (.seq (.cond 7 (.skip) (.exit 0)) (.seq (.block 1 (.seq (.run 0 [.asg 3 (xl 2 11 (xi 6 7 9 (.v 4) (.v 6)))]) (.run 0 [u9E 8 (.append 0 56 56 (.t 14) (.t 17)) (.cons 14 (xl 56 13 (xf 55 3 3 (.v 2))) (.cons 17 (.n (.bslice false 56 1 [(0,(.t 16))]) (.cons 16 (.n (.build 55 [(0,(.c (.int
 .i64 1))),(1,(.t 15))]) (.cons 15 (.v 3) .nil)) .nil)) .nil)) none,.eff none none (.store 56 (.t 19) (.t 18)) (.cons 19 (xf 55 3 3 (.v 2)) (.cons 18 (.v 8) .nil)) none])))
 (.run 0 [.asg 6 (xk .add 2 9 (.int .i64 1) (.v 6))]))))))) (.seq (.run 0 [.eff none none (.store 55 (.t 2) (.t 21)) (.cons 2 (.v 1) (.cons 21 (xl 55 3 (.v 2)) .nil)) none])
 (.ret))))
theorem c366:TF E 366 n366 [(1,some 55)] t366 22 := zk (F := f366) rfl (by kernel_rfl) (by decide)

def n367:List Nat := [0,2]
def t367:TC := .seq (.run 0 [.asg 1 (.c (.bool false))]) (.seq (.run 0 [.asg 1 (.n (.un .not (.t 4)) (.cons 4 (.n (.call 0 (.f 368) [(.t 3),(.c (.int .i64 0)),(.c (.int .i64 7))]) (.cons
 3 (.v 0) .nil)) .nil))]) (.ret))
theorem c367:TF E 367 n367 [(1,none)] t367 6 := zk (F := f367) rfl (by kernel_rfl) (by decide)

def n368:List Nat := [0,1,2,6]
def t368:TC := .seq (.run 0 [.asg 3 (.c (.bool false))]) (.seq (.run 0 [.asg 3 (.ite (xb .leq 2 7 8 (.v 1) (.v 0)) (xb .leq 2 11 12 (.v 0) (.v 2)) (.c (.bool false)))]) (.ret))
theorem c368:TF E 368 n368 [(3,none)] t368 15 := zk (F := f368) rfl (by kernel_rfl) (by decide)

def n369:List Nat := [0,1,2,3,4,5,6,7,8]
def t369:TC := .seq (.run 0 [.asg 4 (.n (.ibox 37 (.t 0)) (.cons 0 (.v 0) .nil)),.asg 5 (.n (.ibox 2 (.t 1)) (.cons 1 (.v 1) .nil)),.asg 6 (.n (.ibox 2 (.t 2)) (.cons 2 (.v 2) .nil)),.asg
 7 (.n (.ibox 2 (.t 3)) (.cons 3 (.v 3) .nil)),.asg 8 (.c .nilfn)]) (.seq (.run 0 [.asg 8 (.n (.mkfn 385 [(.t 5),(.t 4),(.t 6),(.t 7)]) (.cons 5 (.v 5) (.cons 4 (.v 4) (.cons
 6 (.v 6) (.cons 7 (.v 7) .nil)))))]) (.ret))
theorem c369:TF E 369 n369 [(8,none)] t369 10 := zk (F := f369) rfl (by kernel_rfl) (by decide)

def n370:List Nat := [0,2,3,5,7,9,10,11,12,14,18,26]
def t370:TC := .seq (.run 0 [.asg 1 (.c (.imm .exact []))]) (.seq (.run 0 [.asg 2 (.c (.fn 386 []))]) (.seq (.seq (.run 0 [u9E 4 (.call 2 (.f 387) [(.t 6)]) (.cons 6 (.v 0) .nil)
 none,u9E 5 (.call 2 (.f 388) [(.t 7),(.t 8)]) (.cons 7 (.v 4) (.cons 8 (.v 2) .nil)) none,.asg 6 (xn 67 9 (.v 5)),u9A 7 0]) (.block 0 (.loop
 (.seq (.run 0 [.asg 8 (xb .lss 2 11 10 (.v 7) (.v 6))]) (.seq (.cond 8 (.skip) (.exit 0)) (.seq (.block 1 (.seq (.run 0 [.asg 9 (xl 65 13 (xi 67 9 11 (.v 5) (.v 7))),u9E 3 (.alloc 65) .nil none,.eff none none (.store 65 (.t 5) (.t 14)) (.cons 5 (.v 3) (.cons 14 (.v 9) .nil)) none]) (.seq (.run 0 [.asg 10 (xk .neq 2 17 (.int .i64
 0) (.n (.lookup 75 (.t 15) (.t 16) false) (.cons 15 (.v 0) (.cons 16 (xl 65 5 (.v 3)) .nil))))]) (.cond 10 (.run 9 [u9E 11 (.append 0 66 66 (.t 19) (.t 25)) (.cons
 19 (.v 1) (.cons 25 (.n (.bslice false 66 1 [(0,(.t 24))]) (.cons 24 (.n (.build 72 [(0,(.t 20)),(1,(.t 23))]) (.cons 20 (xl 65 5 (.v 3)) (.cons 23 (.n (.lookup 75 (.t
 21) (.t 22) false) (.cons 21 (.v 0) (.cons 22 (xl 65 5 (.v 3)) .nil))) .nil))) .nil)) .nil)) (some 7),.asg 1 (.v 11)]) (.skip))))) (.run 0 [.asg 7 (xk .add 2 11 (.int .i64
 1) (.v 7))]))))))) (.seq (.run 0 [.asg 1 (.v 1)]) (.ret))))
theorem c370:TF E 370 n370 [(1,none)] t370 29 := zk (F := f370) rfl (by kernel_rfl) (by decide)

def n371:List Nat := [0,1,2,6]
def t371:TC := .seq (.run 0 [.asg 3 (.c (.bool false))]) (.seq (.run 0 [.asg 3 (.ite (xb .leq 2 7 8 (.v 1) (.v 0)) (xb .leq 2 11 12 (.v 0) (.v 2)) (.c (.bool false)))]) (.ret))
theorem c371:TF E 371 n371 [(3,none)] t371 15 := zk (F := f371) rfl (by kernel_rfl) (by decide)

def n372:List Nat := [0,1,2,3,4]
def t372:TC := .seq (.run 0 [.asg 2 (.n (.ibox 0 (.t 0)) (.cons 0 (.v 0) .nil)),.asg 3 (.n (.ibox 37 (.t 1)) (.cons 1 (.v 1) .nil)),.asg 4 (.c (.bool false))]) (.seq (.run 0 [.asg 4 (.ite
 (.ite (.ite (.n (.call 0 (.f 371) [(.t 6),(.c (.int .i64 0)),(.t 10)]) (.cons 6 (.n (.iload 2 (.t 5)) (.cons 5 (xf 37 3 1 (.v 3)) .nil)) (.cons 10 (xk .sub 2 9 (.int .i64
 1) (xn 14 8 (.n (.iload 14 (.t 7)) (.cons 7 (xf 0 2 2 (.v 2)) .nil)))) .nil))) (.n (.call 0 (.f 371) [(.t 19),(.c (.int .i64 0)),(.c (.int .i64 4095))]) (.cons 19 (xl 2 18
 (xf 15 17 0 (xi 14 14 16 (.n (.iload 14 (.t 13)) (.cons 13 (xf 0 2 2 (.v 2)) .nil)) (.n (.iload 2 (.t 15)) (.cons 15 (xf 37 3 1 (.v 3)) .nil))))) .nil)) (.c (.bool false)))
 (.n (.call 0 (.f 371) [(.t 24),(.c (.int .i64 (-1))),(.c (.int .i64 7))]) (.cons 24 (.n (.iload 2 (.t 23)) (.cons 23 (xf 37 3 0 (.v 3)) .nil)) .nil)) (.c (.bool false)))
 (.n (.call 0 (.f 371) [(.t 29),(.c (.int .i64 (-1048576))),(.c (.int .i64 1048576))]) (.cons 29 (.n (.iload 2 (.t 28)) (.cons 28 (xf 37 3 2 (.v 3)) .nil)) .nil)) (.c (.bool
 false)))]) (.ret))
theorem c372:TF E 372 n372 [(4,none)] t372 32 := zk (F := f372) rfl (by kernel_rfl) (by decide)

def n373:List Nat := [0,1,2,4,6,7,8,9,22,37,40,57,62,67]
def t373:TC := .seq (.run 0 [.asg 3 (.n (.ibox 65 (.t 1)) (.cons 1 (.v 1) .nil)),.asg 4 (.c (.imm .exact []))]) (.seq (.run 0 [u9A 5 0]) (.seq (.block 0 (.loop (.seq (.seq
 (.run 13 [.asg 8 (.ite (xb .lss 2 10 12 (.v 5) (xn 66 11 (.v 0))) (.n (.call 0 (.f 389) [(.t 19),(.t 20)]) (.cons 19 (xl 65 18 (xf 72 17 0 (xi 66 15 16 (.v 0) (.v 5)))) (.cons
 20 (.n (.iload 65 (.t 4)) (.cons 4 (.v 3) .nil)) .nil))) (.c (.bool false)))]) (.cond 8 (.skip) (.exit 0))) (.block 1 (.run 0 [.asg 5 (xk .add 2 23 (.int .i64 1) (.v 5))])))))
 (.seq (.seq (.run 13 [.asg 9 (.ite (xb .lss 2 25 27 (.v 5) (xn 66 26 (.v 0))) (xb .eql 65 34 35 (xl 65 33 (xf 72 32 0 (xi 66 30 31 (.v 0) (.v 5)))) (.n (.iload 65 (.t 4)) (.cons
 4 (.v 3) .nil))) (.c (.bool false)))]) (.cond 9 (.seq (.run 0 [u9E 10 (.append 1 66 66 (.t 38) (.t 39)) (.cons 38 (.n (.bslice false 66 0 []) .nil) (.cons 39 (.v
 0) .nil)) none,.asg 6 (.v 10)]) (.seq (.run 0 [.eff none none (.store 2 (.t 51) (.t 49)) (.cons 51 (xf 72 50 1 (xi 66 41 42 (.v 6) (.v 5))) (.cons 49 (xb .add 2 47 48 (xl
 2 46 (xf 72 45 1 (xi 66 43 44 (.v 6) (.v 5)))) (.v 2)) .nil)) none]) (.seq (.run 0 [.asg 4 (.v 6)]) (.ret)))) (.skip))) (.seq (.run 11 [u9E 11 (.append 0 66 66
 (.t 53) (.t 56)) (.cons 53 (.n (.bslice false 66 0 []) .nil) (.cons 56 (.n (.slice 66 (.t 54) none (some (.t 55)) none) (.cons 54 (.v 0) (.cons 55 (.v 5) .nil))) .nil)) (some
 4),u9E 12 (.append 0 66 66 (.t 57) (.t 61)) (.cons 57 (.v 11) (.cons 61 (.n (.bslice false 66 1 [(0,(.t 60))]) (.cons 60 (.n (.build 72 [(0,(.t 58)),(1,(.t
 59))]) (.cons 58 (.n (.iload 65 (.t 4)) (.cons 4 (.v 3) .nil)) (.cons 59 (.v 2) .nil))) .nil)) .nil)) (some 9),.asg 7 (.v 12)]) (.seq (.run 0 [u9E 13 (.append
 0 66 66 (.t 63) (.t 66)) (.cons 63 (.v 7) (.cons 66 (.n (.slice 66 (.t 64) (some (.t 65)) none none) (.cons 64 (.v 0) (.cons 65 (.v 5) .nil))) .nil)) none,.asg 4 (.v 13)])
 (.ret))))))
theorem c373:TF E 373 n373 [(4,none)] t373 68 := zk (F := f373) rfl (by kernel_rfl) (by decide)

def n374:List Nat := [0,2,3,4,9,17,24]
def t374:TC := .seq (.run 0 [.asg 1 (.c (.imm .exact []))]) (.seq (.run 0 [.asg 2 (.n (.bslice false 66 0 []) .nil)]) (.seq (.seq (.run 0 [u9A 3 0]) (.block 0 (.loop (.seq
 (.seq (.run 0 [.asg 4 (xb .lss 2 6 8 (.v 3) (xn 66 7 (.v 0)))]) (.cond 4 (.skip) (.exit 0))) (.seq (.block 1 (.seq (.run 0 [.asg 5 (xk .neq 2 16 (.int .i64 0) (xl 2 15 (xf
 72 14 1 (xi 66 12 13 (.v 0) (.v 3)))))]) (.cond 5 (.run 0 [u9E 6 (.append 0 66 66 (.t 18) (.t 23)) (.cons 18 (.v 2) (.cons 23 (.n (.bslice false 66 1 [(0,(.t
 22))]) (.cons 22 (xl 72 21 (xi 66 19 20 (.v 0) (.v 3))) .nil)) .nil)) none,.asg 2 (.v 6)]) (.skip)))) (.run 0 [.asg 3 (xk .add 2 10 (.int .i64 1) (.v 3))])))))) (.seq (.run
 0 [.asg 1 (.v 2)]) (.ret))))
theorem c374:TF E 374 n374 [(1,none)] t374 26 := zk (F := f374) rfl (by kernel_rfl) (by decide)

def n375:List Nat := [0,2,3,4,5,6,7,8,9,10,13,15,36,38,44,63]
def t375:TC := .seq (.run 0 [.asg 1 (.c (.bool false))]) (.seq (.seq (.run 0 [.asg 6 (.v 0),.asg 7 (xn 66 7 (.v 6)),u9A 8 0]) (.block 0 (.loop (.seq (.run 0 [.asg 9 (xb
 .lss 2 9 8 (.v 8) (.v 7))]) (.seq (.cond 9 (.skip) (.exit 0)) (.seq (.block 1 (.seq (.run 0 [.asg 10 (xl 72 12 (xi 66 7 9 (.v 6) (.v 8))),u9E 3 (.alloc 72) .nil
 none,.asg 2 (.v 8),.eff none none (.store 72 (.t 4) (.t 13)) (.cons 4 (.v 3) (.cons 13 (.v 10) .nil)) none]) (.seq (.run 0 [.asg 11 (xl 65 14 (xf 72 4 0 (.v 3))),u9E 4 (.alloc 65) .nil none,.eff none none (.store 65 (.t 5) (.t 15)) (.cons 5 (.v 4) (.cons 15 (.v 11) .nil)) none]) (.seq (.seq (.run 0 [.asg 12 (.ite (.ite (.ite (.n
 (.un .not (.t 18)) (.cons 18 (.n (.call 0 (.f 368) [(.t 17),(.c (.int .i64 1)),(.c (.int .i64 4))]) (.cons 17 (xl 2 16 (xf 65 5 0 (.v 4))) .nil)) .nil)) (.c (.bool true))
 (.n (.un .not (.t 23)) (.cons 23 (.n (.call 0 (.f 368) [(.t 22),(.c (.int .i64 (-1))),(.c (.int .i64 4095))]) (.cons 22 (xl 2 21 (xf 65 5 1 (.v 4))) .nil)) .nil))) (.c (.bool
 true)) (.n (.un .not (.t 29)) (.cons 29 (.n (.call 0 (.f 368) [(.t 28),(.c (.int .i64 (-1099511627776))),(.c (.int .i64 1099511627776))]) (.cons 28 (xl 2 27 (xf 72 4 1 (.v
 3))) .nil)) .nil))) (.c (.bool true)) (xk .eql 2 34 (.int .i64 0) (xl 2 33 (xf 72 4 1 (.v 3)))))]) (.cond 12 (.seq (.run 0 [.asg 1 (.c (.bool false))]) (.ret)) (.skip))) (.seq
 (.run 0 [.asg 13 (xk .gtr 2 37 (.int .i64 0) (.v 2))]) (.cond 13 (.seq (.run 0 [.asg 14 (xl 65 43 (xf 72 42 0 (xi 66 39 41 (.v 0) (xk .sub 2 40 (.int .i64 1) (.v 2))))),u9E 5 (.alloc 65) .nil none,.eff none none (.store 65 (.t 6) (.t 44)) (.cons 6 (.v 5) (.cons 44 (.v 14) .nil)) none]) (.seq (.run 0 [.asg 15 (.ite (xb .gtr 2 46 48
 (xl 2 45 (xf 65 6 0 (.v 5))) (xl 2 47 (xf 65 5 0 (.v 4)))) (.c (.bool true)) (.ite (xb .eql 2 52 54 (xl 2 51 (xf 65 6 0 (.v 5))) (xl 2 53 (xf 65 5 0 (.v 4)))) (xb .geq 2 58
 60 (xl 2 57 (xf 65 6 1 (.v 5))) (xl 2 59 (xf 65 5 1 (.v 4)))) (.c (.bool false))))]) (.cond 15 (.seq (.run 0 [.asg 1 (.c (.bool false))]) (.ret)) (.skip)))) (.skip))))))) (.run
 0 [.asg 8 (xk .add 2 9 (.int .i64 1) (.v 8))]))))))) (.seq (.run 0 [.asg 1 (.c (.bool true))]) (.ret)))
theorem c375:TF E 375 n375 [(1,none)] t375 65 := zk (F := f375) rfl (by kernel_rfl) (by decide)

def n380:List Nat := [0,1,4,6,7,8,9,10,12,14,15,16,17,19,24,25]
def t380:TC := .seq (.run 0 [.asg 4 (xl 70 1 (.v 1)),.asg 5 (xn 70 7 (.v 4)),u9A 6 0]) (.block 0 (.loop (.seq (.run 0 [.asg 7 (xb .lss 2 9 8 (.v 6) (.v 5))]) (.seq (.cond
 7 (.skip) (.exit 0)) (.seq (.block 1 (.seq (.run 0 [.asg 8 (xl 71 11 (xi 70 7 9 (.v 4) (.v 6))),u9E 2 (.alloc 71) .nil none,.eff none none (.store 71 (.t 4)
 (.t 12)) (.cons 4 (.v 2) (.cons 12 (.v 8) .nil)) none]) (.seq (.run 0 [.asg 9 (xl 66 13 (xf 71 4 3 (.v 2))),.asg 10 (xn 66 14 (.v 9)),u9A 11 0]) (.block
 2 (.loop (.seq (.run 0 [.asg 12 (xb .lss 2 16 15 (.v 11) (.v 10))]) (.seq (.cond 12 (.skip) (.exit 2)) (.seq (.block 3 (.seq (.run 0 [.asg 13 (xl 72 18 (xi 66 14 16 (.v 9)
 (.v 11))),u9E 3 (.alloc 72) .nil none,.eff none none (.store 72 (.t 6) (.t 19)) (.cons 6 (.v 3) (.cons 19 (.v 13) .nil)) none]) (.seq (.run 0 [u9E 14 (.call 2 (.t 20) [(.t 22),(.t 23)]) (.cons 20 (.v 0) (.cons 22 (xl 2 21 (xf 71 4 1 (.v 2))) (.cons 23 (xl 72 6 (.v 3)) .nil))) none,.asg 15 (.n (.un .not (.t 24)) (.cons
 24 (.v 14) .nil))]) (.cond 15 (.ret) (.skip))))) (.run 0 [.asg 11 (xk .add 2 16 (.int .i64 1) (.v 11))]))))))))) (.run 0 [.asg 6 (xk .add 2 9 (.int .i64 1) (.v 6))]))))))
theorem c380:TF E 380 n380 [] t380 28 := zk (F := f380) rfl (by kernel_rfl) (by decide)

def n383:List Nat := [0,1,4,6,7,8]
def t383:TC := .seq (.run 0 [.asg 3 (xn 30 5 (.v 0)),u9A 4 0]) (.block 0 (.loop (.seq (.run 0 [.asg 5 (xb .lss 2 7 6 (.v 4) (.v 3))]) (.seq (.cond 5 (.skip) (.exit 0))
 (.seq (.block 1 (.seq (.run 0 [.asg 2 (.v 4)]) (.run 0 [.eff none none (.store 13 (.t 21) (.t 20)) (.cons 21 (xi 30 10 15 (.v 0) (xb .sub 2 13 14 (xk .sub 2 12 (.int .i64 1)
 (xn 30 11 (.v 0))) (.v 2))) (.cons 20 (.n (.conv 63 13 (.t 19)) (.cons 19 (xb .shr 63 16 18 (.v 1) (.n (.bin .mul 2 (.c (.int .i64 8)) (.t 17)) (.cons 17 (.v 2) .nil))) .nil))
 .nil)) none]))) (.run 0 [.asg 4 (xk .add 2 7 (.int .i64 1) (.v 4))]))))))
theorem c383:TF E 383 n383 [] t383 23 := zk (F := f383) rfl (by kernel_rfl) (by decide)

def n385:List Nat := [0,1,2,3,4,11,18,28,37,38]
def t385:TC := .run 0 [u9E 5 (.call 2 (.t 6) [(.t 8),(.t 10)]) (.cons 6 (.v 0) (.cons 8 (.n (.build 65 [(0,(.c (.int .i64 1))),(1,(.t 7))]) (.cons 7 (xl 2 1 (.v 1)) .nil))
 (.cons 10 (xl 2 9 (xf 37 2 2 (.v 2))) .nil))) none,.eff (some ((.v 5),true)) (some 6) (.call 2 (.t 13) [(.t 15),(.t 17)]) (.cons 13 (.v 0) (.cons 15 (.n (.build 65 [(0,
 (.c (.int .i64 2))),(1,(.t 14))]) (.cons 14 (xl 2 3 (.v 3)) .nil)) (.cons 17 (xl 2 16 (xf 37 2 2 (.v 2))) .nil))) none,.eff (some ((.ite (.v 5) (.v 6) (.c (.bool false))),
 true)) (some 7) (.call 2 (.t 21) [(.t 24),(.t 27)]) (.cons 21 (.v 0) (.cons 24 (.n (.build 65 [(0,(.c (.int .i64 3))),(1,(.t 23))]) (.cons 23 (xl 2 22 (xf 37 2 0 (.v 2)))
 .nil)) (.cons 27 (.n (.un .neg (.t 26)) (.cons 26 (xl 2 25 (xf 37 2 2 (.v 2))) .nil)) .nil))) none,.eff (some ((.ite (.ite (.v 5) (.v 6) (.c (.bool false))) (.v 7) (.c (.bool
 false))),true)) (some 8) (.call 2 (.t 31) [(.t 33),(.t 36)]) (.cons 31 (.v 0) (.cons 33 (.n (.build 65 [(0,(.c (.int .i64 4))),(1,(.t 32))]) (.cons 32 (xl 2 4 (.v 4))
 .nil)) (.cons 36 (.n (.un .neg (.t 35)) (.cons 35 (xl 2 34 (xf 37 2 2 (.v 2))) .nil)) .nil))) none,.asg 9 (.ite (.ite (.ite (.v 5) (.v 6) (.c (.bool false))) (.v 7) (.c (.bool
 false))) (.v 8) (.c (.bool false)))]
theorem c385:TF E 385 n385 [] t385 39 := zk (F := f385) rfl (by kernel_rfl) (by decide)

def n386:List Nat := [0,1,2,3,4]
def t386:TC := .seq (.run 0 [.asg 2 (.n (.ibox 65 (.t 0)) (.cons 0 (.v 0) .nil)),.asg 3 (.n (.ibox 65 (.t 1)) (.cons 1 (.v 1) .nil)),u9A 4 0]) (.seq (.run 13 [.asg 4 (.n
 (.call 0 (.f 105) [(.t 15)]) (.cons 15 (.n (.bslice false 6 2 [(0,(.t 9)),(1,(.t 14))]) (.cons 9 (.n (.call 0 (.f 74) [(.t 6),(.t 8)]) (.cons 6 (.n (.iload 2 (.t 5)) (.cons
 5 (xf 65 2 0 (.v 2)) .nil)) (.cons 8 (.n (.iload 2 (.t 7)) (.cons 7 (xf 65 3 0 (.v 3)) .nil)) .nil))) (.cons 14 (.n (.call 0 (.f 74) [(.t 11),(.t 13)]) (.cons 11 (.n (.iload
 2 (.t 10)) (.cons 10 (xf 65 2 1 (.v 2)) .nil)) (.cons 13 (.n (.iload 2 (.t 12)) (.cons 12 (xf 65 3 1 (.v 3)) .nil)) .nil))) .nil))) .nil))]) (.ret))
theorem c386:TF E 386 n386 [(4,none)] t386 17 := zk (F := f386) rfl (by kernel_rfl) (by decide)

def n387:List Nat := [0,1,2]
def t387:TC := .seq (.run 0 [.asg 1 (.n (.ibox 75 (.t 0)) (.cons 0 (.v 0) .nil)),.asg 2 (.c .nilfn)]) (.seq (.run 0 [.asg 2 (.n (.mkfn 409 [(.t 1)]) (.cons 1 (.v 1) .nil))]) (.ret))
theorem c387:TF E 387 n387 [(2,none)] t387 4 := zk (F := f387) rfl (by kernel_rfl) (by decide)

def n389:List Nat := [0,1,2,3,4]
def t389:TC := .seq (.run 0 [.asg 2 (.n (.ibox 65 (.t 0)) (.cons 0 (.v 0) .nil)),.asg 3 (.n (.ibox 65 (.t 1)) (.cons 1 (.v 1) .nil)),.asg 4 (.c (.bool false))]) (.seq (.run 0 [.asg 4 (.ite
 (xb .lss 2 6 8 (.n (.iload 2 (.t 5)) (.cons 5 (xf 65 2 0 (.v 2)) .nil)) (.n (.iload 2 (.t 7)) (.cons 7 (xf 65 3 0 (.v 3)) .nil))) (.c (.bool true)) (.ite (xb .eql 2 12 14 (.n
 (.iload 2 (.t 11)) (.cons 11 (xf 65 2 0 (.v 2)) .nil)) (.n (.iload 2 (.t 13)) (.cons 13 (xf 65 3 0 (.v 3)) .nil))) (xb .lss 2 18 20 (.n (.iload 2 (.t 17)) (.cons 17 (xf 65
 2 1 (.v 2)) .nil)) (.n (.iload 2 (.t 19)) (.cons 19 (xf 65 3 1 (.v 3)) .nil))) (.c (.bool false))))]) (.ret))
theorem c389:TF E 389 n389 [(4,none)] t389 24 := zk (F := f389) rfl (by kernel_rfl) (by decide)

def n404:List Nat := [0,1,4,5,6,7,8,9,10,11,12,13,14,15,22,26,68,69,70,118,129,130]
def t404:TC := .seq (.run 0 [u9E 2 (.alloc 80) .nil none]) (.seq (.seq (.run 0 [u9A 12 0]) (.block 0 (.loop (.seq (.run 0 [.asg 13 (xk .lss 2 14 (.int .i64
 16) (.v 12))]) (.seq (.cond 13 (.skip) (.exit 0)) (.seq (.block 1 (.seq (.run 0 [.asg 3 (.v 12)]) (.run 0 [u9E 14 (.call 3 (.f 405) [(.t 21)]) (.cons 21 (.n (.slice
 30 (.t 18) (some (.t 20)) none none) (.cons 18 (.v 1) (.cons 20 (.n (.bin .mul 2 (.c (.int .i64 4)) (.t 19)) (.cons 19 (.v 3) .nil)) .nil))) .nil) none,.eff none none (.store
 78 (.t 23) (.t 22)) (.cons 23 (xi 80 4 17 (.v 2) (.v 3)) (.cons 22 (.v 14) .nil)) none]))) (.run 0 [.asg 12 (xk .add 2 14 (.int .i64 1) (.v 12))]))))))) (.seq (.seq (.run 0
 [u9A 4 16]) (.block 2 (.loop (.seq (.seq (.run 0 [.asg 15 (xk .lss 2 25 (.int .i64 64) (.v 4))]) (.cond 15 (.skip) (.exit 2))) (.seq (.block 3 (.seq (.run
 10 [.asg 5 (xl 78 31 (xi 80 4 30 (.v 2) (xk .sub 2 29 (.int .i64 15) (.v 4)))),.asg 6 (xl 78 35 (xi 80 4 34 (.v 2) (xk .sub 2 33 (.int .i64 2) (.v 4))))]) (.run 30 [.eff none
 none (.store 78 (.t 65) (.t 64)) (.cons 65 (xi 80 4 37 (.v 2) (.v 4)) (.cons 64 (xb .add 78 55 63 (xb .add 78 50 54 (xb .add 78 41 49 (xl 78 40 (xi 80 4 39 (.v 2) (xk .sub
 2 38 (.int .i64 16) (.v 4)))) (xb .xor 78 46 48 (xb .xor 78 43 45 (.n (.call 0 (.f 406) [(.t 42),(.c (.int .i64 (-7)))]) (.cons 42 (.v 5) .nil)) (.n (.call 0 (.f 406) [(.t
 44),(.c (.int .i64 (-18)))]) (.cons 44 (.v 5) .nil))) (xk .shr 78 47 (.int .u64 3) (.v 5)))) (xl 78 53 (xi 80 4 52 (.v 2) (xk .sub 2 51 (.int .i64 7) (.v 4))))) (xb .xor 78
 60 62 (xb .xor 78 57 59 (.n (.call 0 (.f 406) [(.t 56),(.c (.int .i64 (-17)))]) (.cons 56 (.v 6) .nil)) (.n (.call 0 (.f 406) [(.t 58),(.c (.int .i64 (-19)))]) (.cons 58
 (.v 6) .nil))) (xk .shr 78 61 (.int .u64 10) (.v 6)))) .nil)) (some 29)]))) (.run 0 [.asg 4 (xk .add 2 27 (.int .i64 1) (.v 4))])))))) (.seq (.run 0 [.asg 16 (xl 77 67 (.n
 (.nilc (.t 66)) (.cons 66 (.v 0) .nil))),u9E 7 (.alloc 77) .nil none,.eff none none (.store 77 (.t 9) (.t 68)) (.cons 9 (.v 7) (.cons 68 (.v 16) .nil)) none])
 (.seq (.seq (.run 0 [u9A 17 0]) (.block 4 (.loop (.seq (.run 0 [.asg 18 (xk .lss 2 69 (.int .i64 64) (.v 17))]) (.seq (.cond 18 (.skip) (.exit 4)) (.seq (.block
 5 (.seq (.run 0 [.asg 8 (.v 17)]) (.seq (.run 27 [.asg 9 (xb .add 78 93 96 (xb .add 78 89 92 (xb .add 78 77 88 (xb .add 78 73 76 (xl 78 72 (.n (.iaddr 77 (.t 9) (.c (.int .i64
 7))) (.cons 9 (.v 7) .nil))) (.n (.call 0 (.f 407) [(.t 75),(.c (.int .i64 6)),(.c (.int .i64 11)),(.c (.int .i64 25))]) (.cons 75 (xl 78 74 (.n (.iaddr 77 (.t 9) (.c (.int
 .i64 4))) (.cons 9 (.v 7) .nil))) .nil))) (xb .xor 78 79 87 (xl 78 78 (.n (.iaddr 77 (.t 9) (.c (.int .i64 6))) (.cons 9 (.v 7) .nil))) (xb .and 78 81 86 (xl 78 80 (.n (.iaddr
 77 (.t 9) (.c (.int .i64 4))) (.cons 9 (.v 7) .nil))) (xb .xor 78 83 85 (xl 78 82 (.n (.iaddr 77 (.t 9) (.c (.int .i64 5))) (.cons 9 (.v 7) .nil))) (xl 78 84 (.n (.iaddr 77
 (.t 9) (.c (.int .i64 6))) (.cons 9 (.v 7) .nil))))))) (xl 78 91 (.n (.iaddr 80 (.c (.iptr [(.int .u32 1116352408),(.int .u32 1899447441),(.int .u32 3049323471),(.int .u32
 3921009573),(.int .u32 961987163),(.int .u32 1508970993),(.int .u32 2453635748),(.int .u32 2870763221),(.int .u32 3624381080),(.int .u32 310598401),(.int .u32 607225278),
 (.int .u32 1426881987),(.int .u32 1925078388),(.int .u32 2162078206),(.int .u32 2614888103),(.int .u32 3248222580),(.int .u32 3835390401),(.int .u32 4022224774),(.int
 .u32 264347078),(.int .u32 604807628),(.int .u32 770255983),(.int .u32 1249150122),(.int .u32 1555081692),(.int .u32 1996064986),(.int .u32 2554220882),(.int .u32 2821834349),
 (.int .u32 2952996808),(.int .u32 3210313671),(.int .u32 3336571891),(.int .u32 3584528711),(.int .u32 113926993),(.int .u32 338241895),(.int .u32 666307205),(.int .u32
 773529912),(.int .u32 1294757372),(.int .u32 1396182291),(.int .u32 1695183700),(.int .u32 1986661051),(.int .u32 2177026350),(.int .u32 2456956037),(.int .u32 2730485921),
 (.int .u32 2820302411),(.int .u32 3259730800),(.int .u32 3345764771),(.int .u32 3516065817),(.int .u32 3600352804),(.int .u32 4094571909),(.int .u32 275423344),(.int
 .u32 430227734),(.int .u32 506948616),(.int .u32 659060556),(.int .u32 883997877),(.int .u32 958139571),(.int .u32 1322822218),(.int .u32 1537002063),(.int .u32 1747873779),
 (.int .u32 1955562222),(.int .u32 2024104815),(.int .u32 2227730452),(.int .u32 2361852424),(.int .u32 2428436474),(.int .u32 2756734187),(.int .u32 3204031479),(.int
 .u32 3329325298)])) (.t 90)) (.cons 90 (.v 8) .nil)))) (xl 78 95 (xi 80 4 94 (.v 2) (.v 8))))]) (.seq (.run 19 [.asg 10 (xb .add 78 100 114 (.n (.call 0 (.f 407) [(.t 99),
 (.c (.int .i64 2)),(.c (.int .i64 13)),(.c (.int .i64 22))]) (.cons 99 (xl 78 98 (.n (.iaddr 77 (.t 9) (.c (.int .i64 0))) (.cons 9 (.v 7) .nil))) .nil)) (xb .or 78 105 113
 (xb .and 78 102 104 (xl 78 101 (.n (.iaddr 77 (.t 9) (.c (.int .i64 0))) (.cons 9 (.v 7) .nil))) (xl 78 103 (.n (.iaddr 77 (.t 9) (.c (.int .i64 1))) (.cons 9 (.v 7) .nil))))
 (xb .and 78 107 112 (xl 78 106 (.n (.iaddr 77 (.t 9) (.c (.int .i64 2))) (.cons 9 (.v 7) .nil))) (xb .or 78 109 111 (xl 78 108 (.n (.iaddr 77 (.t 9) (.c (.int .i64 0))) (.cons
 9 (.v 7) .nil))) (xl 78 110 (.n (.iaddr 77 (.t 9) (.c (.int .i64 1))) (.cons 9 (.v 7) .nil)))))))]) (.seq (.run 3 [u9E 19 (.copy 81 81 (.t 116) (.t 117)) (.cons
 116 (.n (.slice 77 (.t 9) (some (.c (.int .i64 1))) none none) (.cons 9 (.v 7) .nil)) (.cons 117 (.n (.slice 77 (.t 9) none (some (.c (.int .i64 7))) none) (.cons 9 (.v 7)
 .nil)) .nil)) (some 2)]) (.seq (.run 0 [.eff none none (.store 78 (.t 123) (.t 122)) (.cons 123 (.n (.iaddr 77 (.t 9) (.c (.int .i64 4))) (.cons 9 (.v 7) .nil)) (.cons 122
 (xb .add 78 120 121 (xl 78 119 (.n (.iaddr 77 (.t 9) (.c (.int .i64 4))) (.cons 9 (.v 7) .nil))) (.v 9)) .nil)) none]) (.run 0 [.eff none none (.store 78 (.t 127) (.t 126))
 (.cons 127 (.n (.iaddr 77 (.t 9) (.c (.int .i64 0))) (.cons 9 (.v 7) .nil)) (.cons 126 (xb .add 78 124 125 (.v 9) (.v 10)) .nil)) none]))))))) (.run 0 [.asg 17 (xk .add 2 69
 (.int .i64 1) (.v 17))]))))))) (.seq (.run 0 [u9A 20 0]) (.block 6 (.loop (.seq (.run 0 [.asg 21 (xk .lss 2 129 (.int .i64 8) (.v 20))]) (.seq (.cond 21 (.skip)
 (.exit 6)) (.seq (.block 7 (.seq (.run 0 [.asg 11 (.v 20)]) (.run 12 [.eff none none (.store 78 (.t 142) (.t 140)) (.cons 142 (xi 77 141 133 (.n (.nilc (.t 132)) (.cons 132
 (.v 0) .nil)) (.v 11)) (.cons 140 (xb .add 78 136 139 (xl 78 135 (xi 77 134 133 (.n (.nilc (.t 132)) (.cons 132 (.v 0) .nil)) (.v 11))) (xl 78 138 (xi 77 9 137 (.v 7) (.v 11))))
 .nil)) (some 11)]))) (.run 0 [.asg 20 (xk .add 2 129 (.int .i64 1) (.v 20))])))))))))))
theorem c404:TF E 404 n404 [] t404 144 := zk (F := f404) rfl (by kernel_rfl) (by decide)

def n405:List Nat := [0,2,4,6,7,8,9]
def t405:TC := .seq (.run 0 [.asg 1 (.c (.int .u32 0))]) (.seq (.seq (.run 0 [.asg 3 (.n (.slice 30 (.t 5) none (some (.c (.int .i64 4))) none) (.cons 5 (.v 0) .nil)),.asg 4 (xn 30 6 (.v
 3)),u9A 5 0]) (.block 0 (.loop (.seq (.run 0 [.asg 6 (xb .lss 2 8 7 (.v 5) (.v 4))]) (.seq (.cond 6 (.skip) (.exit 0)) (.seq (.block 1 (.seq (.run 0 [.asg
 2 (xl 13 10 (xi 30 6 8 (.v 3) (.v 5)))]) (.run 0 [.asg 1 (xb .or 78 13 15 (xk .shl 78 12 (.int .u64 8) (.v 1)) (.n (.conv 13 78 (.t 14)) (.cons 14 (.v 2) .nil)))]))) (.run
 0 [.asg 5 (xk .add 2 8 (.int .i64 1) (.v 5))]))))))) (.seq (.run 0 [.asg 1 (.v 1)]) (.ret)))
theorem c405:TF E 405 n405 [(1,none)] t405 19 := zk (F := f405) rfl (by kernel_rfl) (by decide)

def n406:List Nat := [0,1,4,5]
def t406:TC := .seq (.run 0 [.asg 2 (.c (.int .u32 0))]) (.seq (.run 0 [.asg 3 (xk .and 12 7 (.int .u64 31) (.n (.conv 2 12 (.t 6)) (.cons 6 (.v 1) .nil)))]) (.seq (.run 0 [.asg 2 (xb .or
 78 11 15 (xb .shl 78 9 10 (.v 0) (.v 3)) (xb .shr 78 12 14 (.v 0) (.n (.bin .sub 12 (.c (.int .u64 32)) (.t 13)) (.cons 13 (.v 3) .nil))))]) (.ret)))
theorem c406:TF E 406 n406 [(2,none)] t406 17 := zk (F := f406) rfl (by kernel_rfl) (by decide)

def n407:List Nat := [0,1,2,3,8]
def t407:TC := .seq (.run 0 [.asg 4 (.c (.int .u32 0))]) (.seq (.run 0 [.asg 4 (xb .xor 78 17 21 (xb .xor 78 12 16 (.n (.call 0 (.f 406) [(.t 9),(.t 11)]) (.cons 9 (.v 0) (.cons 11 (.n (.un
 .neg (.t 10)) (.cons 10 (.v 1) .nil)) .nil))) (.n (.call 0 (.f 406) [(.t 13),(.t 15)]) (.cons 13 (.v 0) (.cons 15 (.n (.un .neg (.t 14)) (.cons 14 (.v 2) .nil)) .nil)))) (.n
 (.call 0 (.f 406) [(.t 18),(.t 20)]) (.cons 18 (.v 0) (.cons 20 (.n (.un .neg (.t 19)) (.cons 19 (.v 3) .nil)) .nil))))]) (.ret))
theorem c407:TF E 407 n407 [(4,none)] t407 23 := zk (F := f407) rfl (by kernel_rfl) (by decide)

theorem ty_0:E.ty 0=⟨.struct [(0,10),(1,9),(2,14)],3,72,[(.imm .exact []),(.imm .exact []),(.imm .exact [])],false⟩ := rfl
theorem ty_2:E.ty 2=⟨.int .i64,1,8,[(.int .i64 0)],false⟩ := rfl
theorem ty_3:E.ty 3=⟨.int .i64,1,8,[(.int .i64 0)],false⟩ := rfl
theorem ty_6:E.ty 6=⟨.slice 2,1,24,[(.imm .exact [])],false⟩ := rfl
theorem ty_7:E.ty 7=⟨.bool,1,1,[(.bool false)],false⟩ := rfl
theorem ty_9:E.ty 9=⟨.slice 6,1,24,[(.imm .exact [])],false⟩ := rfl
theorem yeh:E.ty 10=⟨.slice 20,1,24,[(.imm .exact [])],false⟩ := rfl
theorem yeg:E.ty 12=⟨.int .u64,1,8,[(.int .u64 0)],false⟩ := rfl
theorem yef:E.ty 13=⟨.int .u8,1,1,[(.int .u8 0)],false⟩ := rfl
theorem yee:E.ty 14=⟨.slice 15,1,24,[(.imm .exact [])],false⟩ := rfl
theorem yed:E.ty 15=⟨.struct [(0,2),(1,2),(2,6),(3,16)],4,64,[(.int .i64 0),(.int .i64 0),(.imm .exact []),(.imm .exact [])],false⟩ := rfl
theorem yec:E.ty 16=⟨.slice 17,1,24,[(.imm .exact [])],false⟩ := rfl
theorem yeb:E.ty 17=⟨.struct [(0,2),(1,2),(2,2),(3,18)],4,48,[(.int .i64 0),(.int .i64 0),(.int .i64 0),(.imm .exact [])],false⟩ := rfl
theorem yea:E.ty 18=⟨.slice 19,1,24,[(.imm .exact [])],false⟩ := rfl
theorem ye9:E.ty 19=⟨.struct [(0,20),(3,2)],4,32,[(.bool false),(.int .i64 0),(.int .i64 0),(.int .i64 0)],true⟩ := rfl
theorem ye8:E.ty 20=⟨.struct [(0,7),(1,2),(2,2)],3,24,[(.bool false),(.int .i64 0),(.int .i64 0)],true⟩ := rfl
theorem ye7:E.ty 21=⟨.map 20 7,1,8,[(.map none)],false⟩ := rfl
theorem ye6:E.ty 30=⟨.slice 13,1,24,[(.imm .exact [])],false⟩ := rfl
theorem ye5:E.ty 36=⟨.slice 37,1,24,[(.imm .exact [])],false⟩ := rfl
theorem ye4:E.ty 37=⟨.struct [(0,2),(1,2),(2,2)],3,24,[(.int .i64 0),(.int .i64 0),(.int .i64 0)],true⟩ := rfl
theorem ye3:E.ty 53=⟨.str,1,16,[(.str [])],false⟩ := rfl
theorem ye2:E.ty 54=⟨.int .i8,1,1,[(.int .i8 0)],false⟩ := rfl
theorem ye1:E.ty 55=⟨.struct [(0,2),(1,2),(2,53),(3,56)],4,56,[(.int .i64 0),(.int .i64 0),(.str []),(.imm .exact [])],false⟩ := rfl
theorem ye0:E.ty 56=⟨.slice 55,1,24,[(.imm .exact [])],false⟩ := rfl
theorem ydz:E.ty 57=⟨.arr 4 58,4,32,[.nilfn,.nilfn,.nilfn,.nilfn],false⟩ := rfl
theorem ydy:E.ty 58=⟨.struct [(0,59)],1,8,[.nilfn],false⟩ := rfl
theorem ydx:E.ty 59=⟨.func,1,8,[.nilfn],false⟩ := rfl
theorem ydw:E.ty 60=⟨.struct [(0,30)],1,24,[(.imm .exact [])],false⟩ := rfl
theorem ydv:E.ty 62=⟨.ptr 57,1,8,[.nilp],false⟩ := rfl
theorem ydu:E.ty 63=⟨.int .u64,1,8,[(.int .u64 0)],false⟩ := rfl
theorem ydt:E.ty 64=⟨.arr 4 7,4,4,[(.bool false),(.bool false),(.bool false),(.bool false)],true⟩ := rfl
theorem yds:E.ty 65=⟨.struct [(0,2),(1,2)],2,16,[(.int .i64 0),(.int .i64 0)],true⟩ := rfl
theorem ydr:E.ty 66=⟨.slice 72,1,24,[(.imm .exact [])],false⟩ := rfl
theorem ydq:E.ty 67=⟨.slice 65,1,24,[(.imm .exact [])],false⟩ := rfl
theorem ydp:E.ty 68=⟨.struct [(0,2),(1,2),(2,66)],3,40,[(.int .i64 0),(.int .i64 0),(.imm .exact [])],false⟩ := rfl
theorem ydo:E.ty 69=⟨.slice 68,1,24,[(.imm .exact [])],false⟩ := rfl
theorem ydn:E.ty 70=⟨.slice 71,1,24,[(.imm .exact [])],false⟩ := rfl
theorem ydm:E.ty 71=⟨.struct [(0,2),(1,2),(2,2),(3,66),(4,73)],36,80,[(.int .i64 0),(.int .i64 0),(.int .i64 0),(.imm .exact []),(.int .u8 0),(.int .u8 0),(.int .u8 0),(.int .u8 0),(.int .u8 0),(.int .u8 0),(.int .u8 0),(.int .u8 0),(.int .u8 0),(.int .u8 0),(.int .u8 0),(.int .u8 0),(.int .u8 0),(.int .u8 0),(.int .u8 0),(.int .u8 0),(.int .u8 0),(.int .u8 0),(.int .u8 0),(.int .u8 0),(.int .u8 0),(.int .u8 0),(.int .u8 0),(.int .u8 0),(.int .u8 0),(.int .u8 0),(.int .u8 0),(.int .u8 0),(.int .u8 0),(.int .u8 0),(.int .u8 0),(.int .u8 0)],false⟩ := rfl
theorem ydl:E.ty 72=⟨.struct [(0,65),(2,2)],3,24,[(.int .i64 0),(.int .i64 0),(.int .i64 0)],true⟩ := rfl
theorem ydk:E.ty 73=⟨.arr 32 13,32,32,[(.int .u8 0),(.int .u8 0),(.int .u8 0),(.int .u8 0),(.int .u8 0),(.int .u8 0),(.int .u8 0),(.int .u8 0),(.int .u8 0),(.int .u8 0),(.int .u8 0),(.int .u8 0),(.int .u8 0),(.int .u8 0),(.int .u8 0),(.int .u8 0),(.int .u8 0),(.int .u8 0),(.int .u8 0),(.int .u8 0),(.int .u8 0),(.int .u8 0),(.int .u8 0),(.int .u8 0),(.int .u8 0),(.int .u8 0),(.int .u8 0),(.int .u8 0),(.int .u8 0),(.int .u8 0),(.int .u8 0),(.int .u8 0)],true⟩ := rfl
theorem ydj:E.ty 74=⟨.slice 30,1,24,[(.imm .exact [])],false⟩ := rfl
theorem ydi:E.ty 75=⟨.map 65 2,1,8,[(.map none)],false⟩ := rfl
theorem ydh:E.ty 76=⟨.arr 8 78,8,32,[(.int .u32 0),(.int .u32 0),(.int .u32 0),(.int .u32 0),(.int .u32 0),(.int .u32 0),(.int .u32 0),(.int .u32 0)],true⟩ := rfl
theorem ydg:E.ty 77=⟨.arr 8 78,8,32,[(.int .u32 0),(.int .u32 0),(.int .u32 0),(.int .u32 0),(.int .u32 0),(.int .u32 0),(.int .u32 0),(.int .u32 0)],true⟩ := rfl
theorem ydf:E.ty 78=⟨.int .u32,1,4,[(.int .u32 0)],false⟩ := rfl
theorem yde:E.ty 79=⟨.int .i64,1,8,[(.int .i64 0)],false⟩ := rfl
theorem ydd:E.ty 80=⟨.arr 64 78,64,256,[(.int .u32 0),(.int .u32 0),(.int .u32 0),(.int .u32 0),(.int .u32 0),(.int .u32 0),(.int .u32 0),(.int .u32 0),(.int .u32 0),(.int .u32 0),(.int .u32 0),(.int .u32 0),(.int .u32 0),(.int .u32 0),(.int .u32 0),(.int .u32 0),(.int .u32 0),(.int .u32 0),(.int .u32 0),(.int .u32 0),(.int .u32 0),(.int .u32 0),(.int .u32 0),(.int .u32 0),(.int .u32 0),(.int .u32 0),(.int .u32 0),(.int .u32 0),(.int .u32 0),(.int .u32 0),(.int .u32 0),(.int .u32 0),(.int .u32 0),(.int .u32 0),(.int .u32 0),(.int .u32 0),(.int .u32 0),(.int .u32 0),(.int .u32 0),(.int .u32 0),(.int .u32 0),(.int .u32 0),(.int .u32 0),(.int .u32 0),(.int .u32 0),(.int .u32 0),(.int .u32 0),(.int .u32 0),(.int .u32 0),(.int .u32 0),(.int .u32 0),(.int .u32 0),(.int .u32 0),(.int .u32 0),(.int .u32 0),(.int .u32 0),(.int .u32 0),(.int .u32 0),(.int .u32 0),(.int .u32 0),(.int .u32 0),(.int .u32 0),(.int .u32 0),(.int .u32 0)],true⟩ := rfl
theorem ydc:E.ty 81=⟨.slice 78,1,24,[(.imm .exact [])],false⟩ := rfl
theorem ydb:E.ty 82=⟨.int .u64,1,8,[(.int .u64 0)],false⟩ := rfl
theorem zxq:E.mp 291=true := rfl
theorem zxp:E.mp 292=true := rfl
theorem zxo:E.mp 305=true := rfl
theorem zxn:E.mp 306=true := rfl
theorem zxm:E.mp 308=true := rfl

end Dv
