/- Texts that a proof of this claim uses, joined: Lw.TCode. -/
import Derived.Test.YtkhdnmaebokedaaGreatLwa
import Derived.Test.YtkhdnmaebokedaaGreatCode
import Derived.KernelRfl
set_option linter.all false
namespace Dv
open Go (IntKind BinOp UnOp)

abbrev u9A (i : Nat) (k : Int) : TS := .asg i (.c (.int .i64 k))
abbrev u9E (i : Nat) (o : DOp) (k : Xs) (r : Option Nat) : TS := .eff none (some i) o k r
abbrev xl (t a : Nat) (x : Xp) : Xp := .n (.load t (.t a)) (.cons a x .nil)
abbrev xn (t a : Nat) (x : Xp) : Xp := .n (.len t (.t a)) (.cons a x .nil)
abbrev xf (t a k : Nat) (x : Xp) : Xp := .n (.faddr t (.t a) k) (.cons a x .nil)
abbrev xe (a k : Nat) (x : Xp) : Xp := .n (.extract (.t a) k) (.cons a x .nil)
abbrev xi (t a b : Nat) (x y : Xp) : Xp := .n (.iaddr t (.t a) (.t b)) (.cons a x (.cons b y .nil))
abbrev xb (o : BinOp) (t a b : Nat) (x y : Xp) : Xp := .n (.bin o t (.t a) (.t b)) (.cons a x (.cons b y .nil))
abbrev xk (o : BinOp) (t a : Nat) (c : D) (x : Xp) : Xp := .n (.bin o t (.t a) (.c c)) (.cons a x .nil)

def n2 : List Nat := [0,1,2,3,4,5,6,22,27,36,41,48,58,63,73]
def t2 : TC := .seq (.run 0 [u9E 1 (.box 0 (.t 0)) (.cons 0 (.v 0) .nil) none,.asg 2 (.c (.bool false))]) (.seq (.seq (.run 0 [.asg 7 (.ite (.ite (xk .gtr 2 9 (.int .i64 12)
 (xn 10 8 (xl 10 7 (xf 0 1 0 (.v 1))))) (.c (.bool true)) (xk .gtr 2 14 (.int .i64 4) (xn 9 13 (xl 9 12 (xf 0 1 1 (.v 1)))))) (.c (.bool true)) (xk .gtr 2 20 (.int .i64 6) (xn
 14 19 (xl 14 18 (xf 0 1 2 (.v 1))))))]) (.cond 7 (.seq (.run 0 [.asg 2 (.c (.bool false))]) (.ret)) (.skip))) (.seq (.seq (.run 0 [u9A 3 0]) (.block 0 (.loop
 (.seq (.seq (.run 0 [.asg 8 (xb .lss 2 23 26 (.v 3) (xn 9 25 (xl 9 24 (xf 0 1 1 (.v 1)))))]) (.cond 8 (.skip) (.exit 0))) (.seq (.block 1 (.seq (.run 0 [.asg 9 (xk .gtr 2 35
 (.int .i64 16) (xn 6 34 (xl 6 33 (xi 9 31 32 (xl 9 30 (xf 0 1 1 (.v 1))) (.v 3)))))]) (.cond 9 (.seq (.run 0 [.asg 2 (.c (.bool false))]) (.ret)) (.skip)))) (.run 0 [.asg 3
 (xk .add 2 28 (.int .i64 1) (.v 3))])))))) (.seq (.seq (.run 0 [u9A 4 0]) (.block 2 (.loop (.seq (.seq (.run 0 [.asg 10 (xb .lss 2 37 40 (.v 4) (xn 14 39
 (xl 14 38 (xf 0 1 2 (.v 1)))))]) (.cond 10 (.skip) (.exit 2))) (.seq (.block 3 (.seq (.run 0 [.asg 11 (xl 15 47 (xi 14 45 46 (xl 14 44 (xf 0 1 2 (.v 1))) (.v 4))),u9E 5 (.alloc 15) .nil none,.eff none none (.store 15 (.t 5) (.t 48)) (.cons 5 (.v 5) (.cons 48 (.v 11) .nil)) none]) (.seq (.seq (.run 0 [.asg 12 (.ite (xk .gtr 2 51 (.int
 .i64 8) (xn 6 50 (xl 6 49 (xf 15 5 2 (.v 5))))) (.c (.bool true)) (xk .gtr 2 56 (.int .i64 8) (xn 16 55 (xl 16 54 (xf 15 5 3 (.v 5))))))]) (.cond 12 (.seq (.run 0 [.asg 2 (.c
 (.bool false))]) (.ret)) (.skip))) (.seq (.run 0 [u9A 6 0]) (.block 4 (.loop (.seq (.seq (.run 0 [.asg 13 (xb .lss 2 59 62 (.v 6) (xn 16 61 (xl 16 60 (xf
 15 5 3 (.v 5)))))]) (.cond 13 (.skip) (.exit 4))) (.seq (.block 5 (.seq (.run 0 [.asg 14 (xk .gtr 2 72 (.int .i64 12) (xn 18 71 (xl 18 70 (xf 17 69 3 (xi 16 67 68 (xl 16 66
 (xf 15 5 3 (.v 5))) (.v 6))))))]) (.cond 14 (.seq (.run 0 [.asg 2 (.c (.bool false))]) (.ret)) (.skip)))) (.run 0 [.asg 6 (xk .add 2 64 (.int .i64 1) (.v 6))]))))))))) (.run
 0 [.asg 4 (xk .add 2 42 (.int .i64 1) (.v 4))])))))) (.seq (.run 0 [.asg 2 (xk .lss 2 75 (.int .i64 2000) (.n (.call 0 (.f 61) [(.t 74),(.c (.int .i64 2000))]) (.cons 74 (xl
 0 1 (.v 1)) .nil)))]) (.ret)))))
theorem c2 : TF E 2 n2 [(2,none)] t2 77 := zc (F := f2) rfl (by kernel_rfl) (by decide)

def n3 : List Nat := [0,1,2,4,5,6,7,8,10,11,12,13,18,20,22,23,24,25,29,35,36,37,38,39,59,60,61]
def t3 : TC := .seq (.run 0 [u9E 2 (.box 0 (.t 0)) (.cons 0 (.v 0) .nil) none,u9E 3 (.alloc 6) .nil none,u9A 4 0]) (.seq (.seq (.run 0 [.asg
 4 (.n (.call 0 (.f 62) [(.t 14),(.t 15)]) (.cons 14 (xl 0 2 (.v 2)) (.cons 15 (.v 1) .nil)))]) (.seq (.run 0 [.asg 12 (xk .neq 3 17 (.int .i64 0) (.v 4))]) (.cond 12 (.seq
 (.run 0 [.eff none none (.store 6 (.t 4) (.c (.imm .exact []))) (.cons 4 (.v 3) .nil) none,.asg 4 (.v 4)]) (.ret)) (.skip)))) (.seq (.run 0 [u9E 13 (.mkslice
 true 6 (.c (.int .i64 4)) (.c (.int .i64 4))) .nil none,.eff none none (.store 6 (.t 4) (.t 20)) (.cons 4 (.v 3) (.cons 20 (.v 13) .nil)) none]) (.seq (.seq (.run 0 [.asg
 14 (xl 9 21 (xf 0 2 1 (.v 2))),.asg 15 (xn 9 22 (.v 14)),u9A 16 0]) (.block 0 (.loop (.seq (.run 0 [.asg 17 (xb .lss 2 24 23 (.v 16) (.v 15))]) (.seq (.cond
 17 (.skip) (.exit 0)) (.seq (.block 1 (.seq (.run 0 [.asg 5 (.v 16),.asg 6 (xl 6 27 (xi 9 22 24 (.v 14) (.v 16)))]) (.seq (.run 0 [.asg 18 (.n (.call 0 (.f 14) [(.t 30),(.t
 31),(.t 32)]) (.cons 30 (xl 0 2 (.v 2)) (.cons 31 (.v 1) (.cons 32 (.v 5) .nil)))),.asg 19 (xe 29 1 (.v 18)),.asg 7 (xe 29 0 (.v 18))]) (.seq (.run 0 [.asg 20 (.v 7),.asg
 21 (xn 6 36 (.v 20)),u9A 22 0]) (.block 2 (.loop (.seq (.run 0 [.asg 23 (xb .lss 2 38 37 (.v 22) (.v 21))]) (.seq (.cond 23 (.skip) (.exit 2)) (.seq (.block
 3 (.seq (.run 0 [.asg 8 (.v 22),.asg 9 (xl 2 41 (xi 6 36 38 (.v 20) (.v 22)))]) (.run 13 [.eff none none (.store 2 (.t 54) (.t 53)) (.cons 54 (.n (.iaddr 6 (.t 43) (.c (.int
 .i64 0))) (.cons 43 (xl 6 4 (.v 3)) .nil)) (.cons 53 (xb .add 2 45 52 (xl 2 44 (.n (.iaddr 6 (.t 43) (.c (.int .i64 0))) (.cons 43 (xl 6 4 (.v 3)) .nil))) (.n (.maxi [(.t 51),
 (.c (.int .i64 0))]) (.cons 51 (xb .sub 2 46 50 (.v 9) (xl 2 49 (xi 6 47 48 (.v 6) (.v 8)))) .nil))) .nil)) (some 12)]))) (.run 0 [.asg 22 (xk .add 2 38 (.int .i64 1) (.v 22))]))))))))))
 (.run 0 [.asg 16 (xk .add 2 24 (.int .i64 1) (.v 16))]))))))) (.seq (.seq (.run 0 [.asg 24 (.n (.call 0 (.f 63) [(.t 57),(.t 58)]) (.cons 57 (xl 0 2 (.v 2)) (.cons 58 (.v
 1) .nil)))]) (.block 4 (.rfunc 24 [25,26] (.seq (.run 0 [.asg 10 (.v 25)]) (.run 0 [u9E 11 (.alloc 17) .nil none,.eff none none (.store 17 (.t 13) (.t 61)) (.cons
 13 (.v 11) (.cons 61 (.v 26) .nil)) none])) (.block 5 (.seq (.run 9 [.eff none none (.store 2 (.t 69) (.t 68)) (.cons 69 (.n (.iaddr 6 (.t 62) (.c (.int .i64 1))) (.cons 62
 (xl 6 4 (.v 3)) .nil)) (.cons 68 (.n (.maxi [(.t 65),(.t 67)]) (.cons 65 (xl 2 64 (.n (.iaddr 6 (.t 63) (.c (.int .i64 1))) (.cons 63 (xl 6 4 (.v 3)) .nil))) (.cons 67 (xl
 2 66 (xf 17 13 0 (.v 11))) .nil))) .nil)) (some 8)]) (.seq (.run 10 [.eff none none (.store 2 (.t 78) (.t 77)) (.cons 78 (.n (.iaddr 6 (.t 70) (.c (.int .i64 2))) (.cons 70
 (xl 6 4 (.v 3)) .nil)) (.cons 77 (xb .add 2 72 76 (xl 2 71 (.n (.iaddr 6 (.t 70) (.c (.int .i64 2))) (.cons 70 (xl 6 4 (.v 3)) .nil))) (xb .mul 2 74 75 (xl 2 73 (xf 17 13 1
 (.v 11))) (.v 10))) .nil)) (some 9)]) (.run 10 [.eff none none (.store 2 (.t 87) (.t 86)) (.cons 87 (.n (.iaddr 6 (.t 79) (.c (.int .i64 3))) (.cons 79 (xl 6 4 (.v 3)) .nil))
 (.cons 86 (xb .add 2 81 85 (xl 2 80 (.n (.iaddr 6 (.t 79) (.c (.int .i64 3))) (.cons 79 (xl 6 4 (.v 3)) .nil))) (xb .mul 2 83 84 (xl 2 82 (xf 17 13 2 (.v 11))) (.v 10))) .nil))
 (some 9)]))))))) (.seq (.run 0 [.eff none none (.store 6 (.t 4) (.t 88)) (.cons 4 (.v 3) (.cons 88 (xl 6 4 (.v 3)) .nil)) none,u9A 4 0]) (.ret))))))
theorem c3 : TF E 3 n3 [(3,some 6),(4,none)] t3 89 := zc (F := f3) rfl (by kernel_rfl) (by decide)

def n9 : List Nat := [0,1,2,4,5,10,14,15,18]
def t9 : TC := .seq (.run 0 [u9E 2 (.box 0 (.t 0)) (.cons 0 (.v 0) .nil) none,.asg 3 (.c (.imm .exact [])),u9A 4 0]) (.seq (.seq (.run 0 [.asg 4 (.n (.call
 0 (.f 62) [(.t 6),(.t 7)]) (.cons 6 (xl 0 2 (.v 2)) (.cons 7 (.v 1) .nil)))]) (.seq (.run 0 [.asg 5 (xk .neq 3 9 (.int .i64 0) (.v 4))]) (.cond 5 (.seq (.run 0 [.asg 3 (.c
 (.imm .exact [])),.asg 4 (.v 4)]) (.ret)) (.skip)))) (.seq (.run 0 [.asg 6 (xn 14 13 (xl 14 12 (xf 0 2 2 (.v 2)))),u9E 7 (.mkslice true 6 (.t 14) (.t 14)) (.cons
 14 (.v 6) (.cons 14 (.v 6) .nil)) none,.asg 3 (.v 7)]) (.seq (.run 0 [u9E 8 (.copy 6 1 (.t 16) (.t 17)) (.cons 16 (.v 3) (.cons 17 (.v 1) .nil)) none]) (.seq
 (.run 0 [.asg 3 (.v 3),u9A 4 0]) (.ret)))))
theorem c9 : TF E 9 n9 [(3,none),(4,none)] t9 20 := zc (F := f9) rfl (by kernel_rfl) (by decide)

def n14 : List Nat := [0,1,2,3,6,7,12,20]
def t14 : TC := .seq (.run 0 [u9E 3 (.box 0 (.t 0)) (.cons 0 (.v 0) .nil) none,.asg 4 (.c (.imm .exact [])),u9A 5 0]) (.seq (.seq (.run 0 [.asg 5 (.n (.call
 0 (.f 66) [(.t 8),(.t 9)]) (.cons 8 (xl 0 3 (.v 3)) (.cons 9 (.v 1) .nil)))]) (.seq (.run 0 [.asg 6 (xk .neq 3 11 (.int .i64 0) (.v 5))]) (.cond 6 (.seq (.run 0 [.asg 4 (.c
 (.imm .exact [])),.asg 5 (.v 5)]) (.ret)) (.skip)))) (.seq (.seq (.run 0 [.asg 7 (.n (.un .not (.t 19)) (.cons 19 (.n (.call 0 (.f 67) [(.t 14),(.c (.int .i64 0)),(.t 18)])
 (.cons 14 (.v 2) (.cons 18 (xk .sub 2 17 (.int .i64 1) (xn 9 16 (xl 9 15 (xf 0 3 1 (.v 3))))) .nil))) .nil))]) (.cond 7 (.seq (.run 0 [.asg 4 (.c (.imm .exact [])),u9A 5 270]) (.ret)) (.skip))) (.seq (.run 0 [.asg 4 (xl 6 25 (xi 9 23 24 (.n (.call 0 (.f 68) [(.t 21),(.t 22)]) (.cons 21 (xl 0 3 (.v 3)) (.cons 22 (.v 1) .nil)))
 (.v 2))),u9A 5 0]) (.ret))))
theorem c14 : TF E 14 n14 [(4,none),(5,none)] t14 27 := zc (F := f14) rfl (by kernel_rfl) (by decide)

def n15 : List Nat := [0,1,2,3,5,7,9,11,12,14,37,38,40,41,42,43,45,53,58,59,60,61,73,76,77,78,79,81,119,121,122,123,124,126,151,153,154,155,156,158,169]
def t15 : TC := .seq (.run 0 [u9E 1 (.box 0 (.t 0)) (.cons 0 (.v 0) .nil) none,u9A 2 0]) (.seq (.seq (.run 0 [.asg 10 (.ite (.ite (.ite (xk .gtr 2 17 (.int
 .i64 4096) (xn 10 16 (xl 10 15 (xf 0 1 0 (.v 1))))) (.c (.bool true)) (.n (.un .not (.t 23)) (.cons 23 (.n (.call 0 (.f 67) [(.t 22),(.c (.int .i64 1)),(.c (.int .i64 32))])
 (.cons 22 (xn 9 21 (xl 9 20 (xf 0 1 1 (.v 1)))) .nil)) .nil))) (.c (.bool true)) (xk .gtr 2 29 (.int .i64 64) (xn 14 28 (xl 14 27 (xf 0 1 2 (.v 1)))))) (.c (.bool true)) (.n
 (.un .not (.t 35)) (.cons 35 (.n (.call 0 (.f 69) [(.t 34),(.f 70)]) (.cons 34 (xl 10 33 (xf 0 1 0 (.v 1))) .nil)) .nil)))]) (.cond 10 (.seq (.run 0 [u9A 2 270]) (.ret)) (.skip))) (.seq (.run 0 [u9E 11 (.mkmap 21) .nil none,.asg 3 (.v 11)]) (.seq (.seq (.run 0 [.asg 12 (xl 10 39 (xf 0 1 0 (.v 1))),.asg 13 (xn
 10 40 (.v 12)),u9A 14 0]) (.block 0 (.loop (.seq (.run 0 [.asg 15 (xb .lss 2 42 41 (.v 14) (.v 13))]) (.seq (.cond 15 (.skip) (.exit 0)) (.seq (.block 1
 (.seq (.run 0 [.asg 16 (xl 20 44 (xi 10 40 42 (.v 12) (.v 14))),u9E 4 (.alloc 20) .nil none,.eff none none (.store 20 (.t 5) (.t 45)) (.cons 5 (.v 4) (.cons
 45 (.v 16) .nil)) none]) (.seq (.seq (.run 0 [.asg 17 (.ite (xk .lss 2 47 (.int .i64 0) (xl 2 46 (xf 20 5 1 (.v 4)))) (.c (.bool true)) (xk .lss 2 51 (.int .i64 0) (xl 2 50
 (xf 20 5 2 (.v 4)))))]) (.cond 17 (.seq (.run 0 [u9A 2 270]) (.ret)) (.skip))) (.run 0 [.eff none none (.mapset 21 (.t 54) (.t 55) (.c (.bool true))) (.cons
 54 (.v 3) (.cons 55 (xl 20 5 (.v 4)) .nil)) none])))) (.run 0 [.asg 14 (xk .add 2 42 (.int .i64 1) (.v 14))]))))))) (.seq (.seq (.run 0 [.asg 18 (xl 9 57 (xf 0 1 1 (.v 1))),
 .asg 19 (xn 9 58 (.v 18)),u9A 20 0]) (.block 2 (.loop (.seq (.run 0 [.asg 21 (xb .lss 2 60 59 (.v 20) (.v 19))]) (.seq (.cond 21 (.skip) (.exit 2)) (.seq
 (.block 3 (.seq (.run 0 [.asg 5 (xl 6 62 (xi 9 58 60 (.v 18) (.v 20)))]) (.seq (.run 0 [.asg 22 (.ite (xb .neq 2 65 68 (xn 6 64 (.v 5)) (xn 10 67 (xl 10 66 (xf 0 1 0 (.v 1)))))
 (.c (.bool true)) (.n (.call 0 (.f 71) [(.t 71),(.f 72)]) (.cons 71 (.v 5) .nil)))]) (.cond 22 (.seq (.run 0 [u9A 2 270]) (.ret)) (.skip))))) (.run 0 [.asg
 20 (xk .add 2 60 (.int .i64 1) (.v 20))]))))))) (.seq (.seq (.run 0 [.asg 23 (xl 14 75 (xf 0 1 2 (.v 1))),.asg 24 (xn 14 76 (.v 23)),u9A 25 0]) (.block
 4 (.loop (.seq (.run 0 [.asg 26 (xb .lss 2 78 77 (.v 25) (.v 24))]) (.seq (.cond 26 (.skip) (.exit 4)) (.seq (.block 5 (.seq (.run 0 [.asg 27 (xl 15 80 (xi 14 76 78 (.v 23)
 (.v 25))),u9E 6 (.alloc 15) .nil none,.eff none none (.store 15 (.t 9) (.t 81)) (.cons 9 (.v 6) (.cons 81 (.v 27) .nil)) none]) (.seq (.seq (.run 38 [.asg 28
 (.ite (.ite (.ite (.ite (xk .eql 2 84 (.int .i64 0) (xn 6 83 (xl 6 82 (xf 15 9 2 (.v 6))))) (.c (.bool true)) (.n (.un .not (.t 90)) (.cons 90 (.n (.call 0 (.f 67) [(.t 89),
 (.c (.int .i64 1)),(.c (.int .i64 96))]) (.cons 89 (xn 16 88 (xl 16 87 (xf 15 9 3 (.v 6)))) .nil)) .nil))) (.c (.bool true)) (.n (.un .not (.t 96)) (.cons 96 (.n (.call 0
 (.f 73) [(.t 95),(.f 74)]) (.cons 95 (xl 6 94 (xf 15 9 2 (.v 6))) .nil)) .nil))) (.c (.bool true)) (xk .lss 2 103 (.int .i64 0) (xl 2 102 (.n (.iaddr 6 (.t 101) (.c (.int
 .i64 0))) (.cons 101 (xl 6 100 (xf 15 9 2 (.v 6))) .nil))))) (.c (.bool true)) (xb .geq 2 114 117 (xl 2 113 (xi 6 108 112 (xl 6 107 (xf 15 9 2 (.v 6))) (xk .sub 2 111 (.int
 .i64 1) (xn 6 110 (xl 6 109 (xf 15 9 2 (.v 6))))))) (xn 9 116 (xl 9 115 (xf 0 1 1 (.v 1))))))]) (.cond 28 (.seq (.run 0 [u9A 2 270]) (.ret)) (.skip))) (.seq
 (.run 0 [.asg 29 (xl 16 120 (xf 15 9 3 (.v 6))),.asg 30 (xn 16 121 (.v 29)),u9A 31 0]) (.block 6 (.loop (.seq (.run 0 [.asg 32 (xb .lss 2 123 122 (.v 31)
 (.v 30))]) (.seq (.cond 32 (.skip) (.exit 6)) (.seq (.block 7 (.seq (.run 0 [.asg 33 (xl 17 125 (xi 16 121 123 (.v 29) (.v 31))),u9E 7 (.alloc 17) .nil none,
 .eff none none (.store 17 (.t 11) (.t 126)) (.cons 11 (.v 7) (.cons 126 (.v 33) .nil)) none]) (.seq (.run 0 [u9A 8 1048576]) (.seq (.seq (.run 0 [.asg 34
 (.ite (.ite (.ite (.n (.un .not (.t 130)) (.cons 130 (.n (.call 0 (.f 67) [(.t 128),(.c (.int .i64 0)),(.t 129)]) (.cons 128 (xl 2 127 (xf 17 11 0 (.v 7))) (.cons 129 (.v
 8) .nil))) .nil)) (.c (.bool true)) (.n (.un .not (.t 136)) (.cons 136 (.n (.call 0 (.f 67) [(.t 134),(.c (.int .i64 0)),(.t 135)]) (.cons 134 (xl 2 133 (xf 17 11 1 (.v 7)))
 (.cons 135 (.v 8) .nil))) .nil))) (.c (.bool true)) (.n (.un .not (.t 143)) (.cons 143 (.n (.call 0 (.f 67) [(.t 141),(.c (.int .i64 0)),(.t 142)]) (.cons 141 (xl 2 140 (xf
 17 11 2 (.v 7))) (.cons 142 (.v 8) .nil))) .nil))) (.c (.bool true)) (.n (.un .not (.t 149)) (.cons 149 (.n (.call 0 (.f 75) [(.t 148),(.f 76)]) (.cons 148 (xl 18 147 (xf
 17 11 3 (.v 7))) .nil)) .nil)))]) (.cond 34 (.seq (.run 0 [u9A 2 270]) (.ret)) (.skip))) (.seq (.run 0 [.asg 35 (xl 18 152 (xf 17 11 3 (.v 7))),.asg 36 (xn
 18 153 (.v 35)),u9A 37 0]) (.block 8 (.loop (.seq (.run 0 [.asg 38 (xb .lss 2 155 154 (.v 37) (.v 36))]) (.seq (.cond 38 (.skip) (.exit 8)) (.seq (.block
 9 (.seq (.run 0 [.asg 39 (xl 19 157 (xi 18 153 155 (.v 35) (.v 37))),u9E 9 (.alloc 19) .nil none,.eff none none (.store 19 (.t 14) (.t 158)) (.cons 14 (.v 9)
 (.cons 158 (.v 39) .nil)) none]) (.seq (.run 0 [.asg 40 (.ite (.n (.un .not (.t 162)) (.cons 162 (.n (.lookup 21 (.t 159) (.t 161) false) (.cons 159 (.v 3) (.cons 161 (xl 20
 160 (xf 19 14 0 (.v 9))) .nil))) .nil)) (.c (.bool true)) (.n (.un .not (.t 167)) (.cons 167 (.n (.call 0 (.f 67) [(.t 166),(.c (.int .i64 1)),(.c (.int .i64 8))]) (.cons
 166 (xl 2 165 (xf 19 14 1 (.v 9))) .nil)) .nil)))]) (.cond 40 (.seq (.run 0 [u9A 2 270]) (.ret)) (.skip))))) (.run 0 [.asg 37 (xk .add 2 155 (.int .i64 1)
 (.v 37))]))))))))))) (.run 0 [.asg 31 (xk .add 2 123 (.int .i64 1) (.v 31))])))))))))) (.run 0 [.asg 25 (xk .add 2 78 (.int .i64 1) (.v 25))]))))))) (.seq (.run 0 [u9A 2 0]) (.ret)))))))
theorem c15 : TF E 15 n15 [(2,none)] t15 173 := zc (F := f15) rfl (by kernel_rfl) (by decide)

def n19 : List Nat := [0,1,2,3,4,5,6,28,33,70,75,87,92,104,109,119]
def t19 : TC := .seq (.run 0 [u9E 1 (.box 0 (.t 0)) (.cons 0 (.v 0) .nil) none,u9A 2 0]) (.seq (.seq (.run 0 [.asg 7 (.ite (.ite (.ite (xk .gtr 2 9 (.int .i64
 4096) (xn 10 8 (xl 10 7 (xf 0 1 0 (.v 1))))) (.c (.bool true)) (xk .lss 2 14 (.int .i64 1) (xn 9 13 (xl 9 12 (xf 0 1 1 (.v 1)))))) (.c (.bool true)) (xk .gtr 2 20 (.int .i64
 32) (xn 9 19 (xl 9 18 (xf 0 1 1 (.v 1)))))) (.c (.bool true)) (xk .gtr 2 26 (.int .i64 64) (xn 14 25 (xl 14 24 (xf 0 1 2 (.v 1))))))]) (.cond 7 (.seq (.run 0 [u9A 2 270]) (.ret)) (.skip))) (.seq (.seq (.run 0 [u9A 3 0]) (.block 0 (.loop (.seq (.seq (.run 0 [.asg 8 (xb .lss 2 29 32 (.v 3) (xn 10 31 (xl 10 30 (xf
 0 1 0 (.v 1)))))]) (.cond 8 (.skip) (.exit 0))) (.seq (.block 1 (.seq (.run 35 [.asg 9 (.ite (.ite (xk .lss 2 41 (.int .i64 0) (xl 2 40 (xf 20 39 1 (xi 10 37 38 (xl 10 36 (xf
 0 1 0 (.v 1))) (.v 3))))) (.c (.bool true)) (xk .lss 2 49 (.int .i64 0) (xl 2 48 (xf 20 47 2 (xi 10 45 46 (xl 10 44 (xf 0 1 0 (.v 1))) (.v 3)))))) (.c (.bool true)) (.ite (xk
 .gtr 2 53 (.int .i64 0) (.v 3)) (.n (.un .not (.t 67)) (.cons 67 (.n (.call 0 (.f 81) [(.t 61),(.t 66)]) (.cons 61 (xl 20 60 (xi 10 57 59 (xl 10 56 (xf 0 1 0 (.v 1))) (xk
 .sub 2 58 (.int .i64 1) (.v 3)))) (.cons 66 (xl 20 65 (xi 10 63 64 (xl 10 62 (xf 0 1 0 (.v 1))) (.v 3))) .nil))) .nil)) (.c (.bool false))))]) (.cond 9 (.seq (.run 0 [u9A 2 270]) (.ret)) (.skip)))) (.run 0 [.asg 3 (xk .add 2 34 (.int .i64 1) (.v 3))])))))) (.seq (.seq (.run 0 [u9A 4 0]) (.block 2 (.loop (.seq
 (.seq (.run 0 [.asg 10 (xb .lss 2 71 74 (.v 4) (xn 9 73 (xl 9 72 (xf 0 1 1 (.v 1)))))]) (.cond 10 (.skip) (.exit 2))) (.seq (.block 3 (.seq (.seq (.run 10 [.asg 11 (xb .neq
 2 83 86 (xn 6 82 (xl 6 81 (xi 9 79 80 (xl 9 78 (xf 0 1 1 (.v 1))) (.v 4)))) (xn 10 85 (xl 10 84 (xf 0 1 0 (.v 1)))))]) (.cond 11 (.seq (.run 0 [u9A 2 270])
 (.ret)) (.skip))) (.seq (.run 0 [u9A 5 0]) (.block 4 (.loop (.seq (.seq (.run 0 [.asg 12 (xb .lss 2 88 91 (.v 5) (xn 10 90 (xl 10 89 (xf 0 1 0 (.v 1)))))])
 (.cond 12 (.skip) (.exit 4))) (.seq (.block 5 (.seq (.run 0 [.asg 13 (.n (.un .not (.t 103)) (.cons 103 (.n (.call 0 (.f 79) [(.t 102),(.c (.int .i64 0)),(.c (.int .i64 4096))])
 (.cons 102 (xl 2 101 (xi 6 99 100 (xl 6 98 (xi 9 96 97 (xl 9 95 (xf 0 1 1 (.v 1))) (.v 4))) (.v 5))) .nil)) .nil))]) (.cond 13 (.seq (.run 0 [u9A 2 270])
 (.ret)) (.skip)))) (.run 0 [.asg 5 (xk .add 2 93 (.int .i64 1) (.v 5))])))))))) (.run 0 [.asg 4 (xk .add 2 76 (.int .i64 1) (.v 4))])))))) (.seq (.seq (.run 0 [u9A 6 0]) (.block 6 (.loop (.seq (.seq (.run 0 [.asg 14 (xb .lss 2 105 108 (.v 6) (xn 14 107 (xl 14 106 (xf 0 1 2 (.v 1)))))]) (.cond 14 (.skip) (.exit 6))) (.seq (.block
 7 (.seq (.run 8 [.asg 15 (.n (.un .not (.t 118)) (.cons 118 (.n (.call 0 (.f 82) [(.t 112),(.t 117)]) (.cons 112 (xl 0 1 (.v 1)) (.cons 117 (xl 15 116 (xi 14 114 115 (xl 14
 113 (xf 0 1 2 (.v 1))) (.v 6))) .nil))) .nil))]) (.cond 15 (.seq (.run 0 [u9A 2 270]) (.ret)) (.skip)))) (.run 0 [.asg 6 (xk .add 2 110 (.int .i64 1) (.v
 6))])))))) (.seq (.run 0 [u9A 2 0]) (.ret))))))
theorem c19 : TF E 19 n19 [(2,none)] t19 120 := zc (F := f19) rfl (by kernel_rfl) (by decide)

def n20 : List Nat := [0,1,4,5,10,14,25]
def t20 : TC := .seq (.run 0 [.asg 2 (.c (.bool false))]) (.seq (.seq (.run 0 [.asg 4 (xb .neq 2 7 9 (xn 6 6 (.v 0)) (xn 6 8 (.v 1)))]) (.cond 4 (.seq (.run 0 [.asg 2 (.c (.bool false))])
 (.ret)) (.skip))) (.seq (.seq (.run 0 [u9A 3 0]) (.block 0 (.loop (.seq (.seq (.run 0 [.asg 5 (xb .lss 2 11 13 (.v 3) (xn 6 12 (.v 0)))]) (.cond 5 (.skip)
 (.exit 0))) (.seq (.block 1 (.seq (.run 9 [.asg 6 (xb .neq 2 20 24 (xl 2 19 (xi 6 17 18 (.v 0) (.v 3))) (xl 2 23 (xi 6 21 22 (.v 1) (.v 3))))]) (.cond 6 (.seq (.run 0 [.asg
 2 (.c (.bool false))]) (.ret)) (.skip)))) (.run 0 [.asg 3 (xk .add 2 15 (.int .i64 1) (.v 3))])))))) (.seq (.run 0 [.asg 2 (.c (.bool true))]) (.ret))))
theorem c20 : TF E 20 n20 [(2,none)] t20 26 := zc (F := f20) rfl (by kernel_rfl) (by decide)

def n22 : List Nat := [0,1,2,4,5,6,8,9,10,11,12,17,21,22,23,29,30,31,32,44,45,49,50,51]
def t22 : TC := .seq (.run 0 [u9E 2 (.box 0 (.t 0)) (.cons 0 (.v 0) .nil) none,.asg 3 (.c (.imm .exact [])),u9A 4 0]) (.seq (.seq (.run 0 [.asg 4 (.n (.call
 0 (.f 83) [(.t 13),(.t 14)]) (.cons 13 (xl 0 2 (.v 2)) (.cons 14 (.v 1) .nil)))]) (.seq (.run 0 [.asg 11 (xk .neq 3 16 (.int .i64 0) (.v 4))]) (.cond 11 (.seq (.run 0 [.asg
 3 (.c (.imm .exact [])),.asg 4 (.v 4)]) (.ret)) (.skip)))) (.seq (.run 0 [u9E 5 (.alloc 22) .nil none]) (.seq (.seq (.run 0 [.asg 12 (.n (.call 0 (.f 84) [(.t
 19),(.t 20)]) (.cons 19 (xl 0 2 (.v 2)) (.cons 20 (.v 1) .nil)))]) (.block 0 (.rfunc 12 [13,14] (.run 0 [.asg 6 (.v 14)]) (.block 1 (.run 0 [.eff none none (.store 2 (.t
 28) (.t 27)) (.cons 28 (.n (.iaddr 22 (.t 6) (.c (.int .i64 0))) (.cons 6 (.v 5) .nil)) (.cons 27 (xb .add 2 25 26 (xl 2 24 (.n (.iaddr 22 (.t 6) (.c (.int .i64 0))) (.cons
 6 (.v 5) .nil))) (.v 6)) .nil)) none]))))) (.seq (.seq (.run 0 [.asg 15 (.v 1),.asg 16 (xn 6 29 (.v 15)),u9A 17 0]) (.block 2 (.loop (.seq (.run 0 [.asg
 18 (xb .lss 2 31 30 (.v 17) (.v 16))]) (.seq (.cond 18 (.skip) (.exit 2)) (.seq (.block 3 (.seq (.run 0 [.asg 7 (.v 17),.asg 8 (xl 2 34 (xi 6 29 31 (.v 15) (.v 17)))]) (.seq
 (.seq (.run 19 [.asg 19 (xl 17 43 (xi 16 41 42 (xl 16 40 (xf 15 39 3 (xi 14 37 38 (xl 14 36 (xf 0 2 2 (.v 2))) (.v 7)))) (.v 8))),.asg 20 (xf 0 2 2 (.v 2)),.asg 21 (xf 15
 48 2 (xi 14 46 47 (xl 14 45 (.v 20)) (.v 7))),.asg 22 (xl 6 49 (.v 21)),.asg 23 (xn 6 50 (.v 22)),u9E 9 (.alloc 17) .nil (some 16),.eff none none (.store 17
 (.t 11) (.t 44)) (.cons 11 (.v 9) (.cons 44 (.v 19) .nil)) (some 17),.asg 10 (.v 23)]) (.chk [(20,9),(21,9),(22,9)])) (.seq (.run 0 [.eff none none (.store 2 (.t 57)
 (.t 56)) (.cons 57 (.n (.iaddr 22 (.t 6) (.c (.int .i64 1))) (.cons 6 (.v 5) .nil)) (.cons 56 (.n (.maxi [(.t 53),(.t 55)]) (.cons 53 (xl 2 52 (.n (.iaddr 22 (.t 6) (.c (.int
 .i64 1))) (.cons 6 (.v 5) .nil))) (.cons 55 (xl 2 54 (xf 17 11 0 (.v 9))) .nil))) .nil)) none]) (.seq (.run 0 [.eff none none (.store 2 (.t 65) (.t 64)) (.cons 65 (.n (.iaddr
 22 (.t 6) (.c (.int .i64 2))) (.cons 6 (.v 5) .nil)) (.cons 64 (xb .add 2 59 63 (xl 2 58 (.n (.iaddr 22 (.t 6) (.c (.int .i64 2))) (.cons 6 (.v 5) .nil))) (xb .mul 2 61 62
 (xl 2 60 (xf 17 11 1 (.v 9))) (.v 10))) .nil)) none]) (.run 0 [.eff none none (.store 2 (.t 73) (.t 72)) (.cons 73 (.n (.iaddr 22 (.t 6) (.c (.int .i64 3))) (.cons 6 (.v 5)
 .nil)) (.cons 72 (xb .add 2 67 71 (xl 2 66 (.n (.iaddr 22 (.t 6) (.c (.int .i64 3))) (.cons 6 (.v 5) .nil))) (xb .mul 2 69 70 (xl 2 68 (xf 17 11 2 (.v 9))) (.v 10))) .nil))
 none])))))) (.run 0 [.asg 17 (xk .add 2 31 (.int .i64 1) (.v 17))]))))))) (.seq (.run 0 [.asg 3 (.n (.slice 22 (.t 6) none none none) (.cons 6 (.v 5) .nil)),u9A 4 0]) (.ret))))))
theorem c22 : TF E 22 n22 [(3,none),(4,none)] t22 76 := zc (F := f22) rfl (by kernel_rfl) (by decide)

def n24 : List Nat := [0,1,2,3,6,7,8,9,11,12,13,14,21,23,30,38,39,40,41,43,44,57]
def t24 : TC := .seq (.run 0 [u9E 3 (.box 0 (.t 0)) (.cons 0 (.v 0) .nil) none,.asg 4 (.c (.bool false)),u9A 5 0]) (.seq (.run 0 [.asg 11 (.n (.call 0 (.f
 22) [(.t 15),(.t 16)]) (.cons 15 (xl 0 3 (.v 3)) (.cons 16 (.v 1) .nil))),.asg 6 (xe 14 0 (.v 11)),.asg 5 (xe 14 1 (.v 11))]) (.seq (.seq (.run 0 [.asg 12 (xk .neq 3 20
 (.int .i64 0) (.v 5))]) (.cond 12 (.seq (.run 0 [.asg 4 (.c (.bool false)),.asg 5 (.v 5)]) (.ret)) (.skip))) (.seq (.run 0 [.asg 13 (.n (.call 0 (.f 22) [(.t 24),(.t 25)])
 (.cons 24 (xl 0 3 (.v 3)) (.cons 25 (.v 2) .nil))),.asg 7 (xe 23 0 (.v 13)),.asg 5 (xe 23 1 (.v 13))]) (.seq (.seq (.run 0 [.asg 14 (xk .neq 3 29 (.int .i64 0) (.v 5))])
 (.cond 14 (.seq (.run 0 [.asg 4 (.c (.bool false)),.asg 5 (.v 5)]) (.ret)) (.skip))) (.seq (.seq (.run 0 [.asg 15 (.n (.bslice false 24 2 [(0,(.t 34)),(1,(.t 37))]) (.cons
 34 (.n (.build 23 [(0,(.t 32)),(1,(.t 33))]) (.cons 32 (.v 6) (.cons 33 (.v 7) .nil))) (.cons 37 (.n (.build 23 [(0,(.t 35)),(1,(.t 36))]) (.cons 35 (.v 1) (.cons 36
 (.v 2) .nil))) .nil))),.asg 16 (xn 24 38 (.v 15)),u9A 17 0]) (.block 0 (.loop (.seq (.run 0 [.asg 18 (xb .lss 2 40 39 (.v 17) (.v 16))]) (.seq (.cond 18
 (.skip) (.exit 0)) (.seq (.block 1 (.seq (.run 0 [.asg 19 (xl 23 42 (xi 24 38 40 (.v 15) (.v 17))),u9E 8 (.alloc 23) .nil none,.eff none none (.store 23 (.t
 11) (.t 43)) (.cons 11 (.v 8) (.cons 43 (.v 19) .nil)) none]) (.seq (.run 0 [.asg 20 (.n (.call 0 (.f 30) [(.t 46),(.t 48)]) (.cons 46 (xl 6 45 (.n (.iaddr 23 (.t 11) (.c
 (.int .i64 0))) (.cons 11 (.v 8) .nil))) (.cons 48 (xl 6 47 (.n (.iaddr 23 (.t 11) (.c (.int .i64 1))) (.cons 11 (.v 8) .nil))) .nil))),.asg 9 (xe 44 0 (.v 20)),.asg 10 (xe
 44 1 (.v 20))]) (.seq (.run 0 [.asg 21 (.ite (xk .neq 3 52 (.int .i64 0) (.v 10)) (.c (.bool true)) (xk .neq 2 55 (.int .i64 0) (.v 9)))]) (.cond 21 (.seq (.run 0 [.asg 4 (xk
 .lss 2 58 (.int .i64 0) (.v 9)),.asg 5 (.v 10)]) (.ret)) (.skip)))))) (.run 0 [.asg 17 (xk .add 2 40 (.int .i64 1) (.v 17))]))))))) (.seq (.run 0 [.asg 4 (.c (.bool false)),
 u9A 5 0]) (.ret)))))))
theorem c24 : TF E 24 n24 [(4,none),(5,none)] t24 62 := zc (F := f24) rfl (by kernel_rfl) (by decide)

def n30 : List Nat := [0,1,4,5,10]
def t30 : TC := .seq (.run 0 [u9A 2 0,u9A 3 0]) (.seq (.seq (.run 0 [.asg 4 (xb .neq 2 7 9 (xn 6 6 (.v 0)) (xn 6 8 (.v 1)))]) (.cond 4 (.seq (.run 0 [u9A 2 0,u9A 3 60]) (.ret)) (.skip))) (.seq (.run 0 [.asg 2 (.n (.call 0 (.f 87) [(.t 11),(.t 12)]) (.cons 11 (.v 0) (.cons 12 (.v 1) .nil))),
 u9A 3 0]) (.ret)))
theorem c30 : TF E 30 n30 [(2,none),(3,none)] t30 14 := zc (F := f30) rfl (by kernel_rfl) (by decide)

def n37 : List Nat := [0,1,2,3,4,8,9,10,11,17,19]
def t37 : TC := .seq (.run 0 [u9E 4 (.box 0 (.t 0)) (.cons 0 (.v 0) .nil) none,u9A 5 0,.asg 6 (.c (.bool false)),u9A 7 0]) (.seq (.seq (.run
 0 [.asg 8 (.n (.call 0 (.f 89) [(.t 12),(.t 13),(.t 14)]) (.cons 12 (xl 0 4 (.v 4)) (.cons 13 (.v 1) (.cons 14 (.v 3) .nil))))]) (.seq (.run 0 [.asg 9 (xk .neq 3 16 (.int
 .i64 0) (.v 8))]) (.cond 9 (.seq (.run 0 [u9A 5 0,.asg 6 (.c (.bool false)),.asg 7 (.v 8)]) (.ret)) (.skip)))) (.seq (.run 0 [.asg 10 (.n (.call 0 (.f 90)
 [(.t 24),(.c (.bool true))]) (.cons 24 (.n (.build 25 [(0,(.t 20)),(1,(.t 21)),(2,(.t 22)),(3,(.t 23))]) (.cons 20 (xl 0 4 (.v 4)) (.cons 21 (.v 1) (.cons 22 (.v 2)
 (.cons 23 (.v 3) .nil))))) .nil)),.asg 5 (xe 19 0 (.v 10)),.asg 6 (xe 19 1 (.v 10))]) (.seq (.run 0 [.asg 5 (.v 5),.asg 6 (.v 6),u9A 7 0]) (.ret))))
theorem c37 : TF E 37 n37 [(5,none),(6,none),(7,none)] t37 30 := zc (F := f37) rfl (by kernel_rfl) (by decide)

def n39 : List Nat := [0,1,2,3,4,8,9,10,11,12,18,20]
def t39 : TC := .seq (.run 0 [u9E 4 (.box 0 (.t 0)) (.cons 0 (.v 0) .nil) none,.asg 5 (.c (.bool false)),u9A 6 0]) (.seq (.seq (.run 0 [.asg 7 (.n (.call 0
 (.f 89) [(.t 13),(.t 14),(.t 15)]) (.cons 13 (xl 0 4 (.v 4)) (.cons 14 (.v 1) (.cons 15 (.v 3) .nil))))]) (.seq (.run 0 [.asg 10 (xk .neq 3 17 (.int .i64 0) (.v 7))]) (.cond
 10 (.seq (.run 0 [.asg 5 (.c (.bool false)),.asg 6 (.v 7)]) (.ret)) (.skip)))) (.seq (.run 0 [.asg 11 (.n (.call 0 (.f 90) [(.t 25),(.c (.bool false))]) (.cons 25 (.n (.build
 25 [(0,(.t 21)),(1,(.t 22)),(2,(.t 23)),(3,(.t 24))]) (.cons 21 (xl 0 4 (.v 4)) (.cons 22 (.v 1) (.cons 23 (.v 2) (.cons 24 (.v 3) .nil))))) .nil)),.asg 8 (xe 20 0
 (.v 11)),.asg 9 (xe 20 1 (.v 11))]) (.seq (.run 0 [.asg 5 (.ite (.n (.un .not (.t 29)) (.cons 29 (.v 9) .nil)) (.c (.bool true)) (xk .gtr 2 32 (.int .i64 0) (.v 8))),u9A 6 0]) (.ret))))
theorem c39 : TF E 39 n39 [(5,none),(6,none)] t39 35 := zc (F := f39) rfl (by kernel_rfl) (by decide)

def n41 : List Nat := [0,1,2,4,5,6,10,19,22,23]
def t41 : TC := .seq (.run 0 [u9E 2 (.box 0 (.t 0)) (.cons 0 (.v 0) .nil) none,u9A 3 0]) (.seq (.seq (.run 0 [.asg 4 (.n (.call 0 (.f 15) [(.t 7)]) (.cons 7
 (xl 0 2 (.v 2)) .nil))]) (.seq (.run 0 [.asg 6 (xk .neq 3 9 (.int .i64 0) (.v 4))]) (.cond 6 (.seq (.run 0 [.asg 3 (.v 4)]) (.ret)) (.skip)))) (.seq (.run 0 [.asg 5 (.n (.mkfn
 93 [(.t 2)]) (.cons 2 (.v 2) .nil))]) (.seq (.seq (.run 0 [.asg 7 (xb .neq 2 14 17 (xn 9 13 (.v 1)) (xn 9 16 (xl 9 15 (xf 0 2 1 (.v 2))))),.eff (some ((.v 7),false)) (some
 8) (.call 1 (.f 94) [(.t 20),(.t 21)]) (.cons 20 (.v 1) (.cons 21 (.v 5) .nil)) none,.asg 9 (.ite (.v 7) (.c (.bool true)) (.v 8))]) (.cond 9 (.seq (.run 0 [u9A 3 290]) (.ret)) (.skip))) (.seq (.run 0 [u9A 3 0]) (.ret)))))
theorem c41 : TF E 41 n41 [(3,none)] t41 24 := zc (F := f41) rfl (by kernel_rfl) (by decide)

def n61 : List Nat := [0,1,2,4,5,6,16]
def t61 : TC := .seq (.run 0 [u9E 2 (.box 0 (.t 0)) (.cons 0 (.v 0) .nil) none,u9A 3 0]) (.seq (.run 0 [u9A 4 1]) (.seq (.seq (.run 0 [u9A 5 0]) (.block 0 (.loop (.seq (.seq (.run 0 [.asg 6 (.ite (xb .lss 2 7 10 (.v 5) (xn 14 9 (xl 14 8 (xf 0 2 2 (.v 2))))) (xb .lss 2 13 14 (.v 4) (.v 1)) (.c
 (.bool false)))]) (.cond 6 (.skip) (.exit 0))) (.seq (.block 1 (.run 0 [.asg 4 (xb .mul 2 19 27 (.v 4) (.n (.maxi [(.c (.int .i64 1)),(.t 26)]) (.cons 26 (xn 16 25 (xl 16
 24 (xf 15 23 3 (xi 14 21 22 (xl 14 20 (xf 0 2 2 (.v 2))) (.v 5))))) .nil)))])) (.run 0 [.asg 5 (xk .add 2 17 (.int .i64 1) (.v 5))])))))) (.seq (.run 0 [.asg 3 (.n (.mini [(.t
 29),(.t 30)]) (.cons 29 (.v 4) (.cons 30 (.v 1) .nil)))]) (.ret))))
theorem c61 : TF E 61 n61 [(3,none)] t61 32 := zc (F := f61) rfl (by kernel_rfl) (by decide)

def n62 : List Nat := [0,1,2,4,5,6,10,17,18,19,20,21,37]
def t62 : TC := .seq (.run 0 [u9E 2 (.box 0 (.t 0)) (.cons 0 (.v 0) .nil) none,u9A 3 0]) (.seq (.seq (.run 0 [.asg 3 (.n (.call 0 (.f 15) [(.t 7)]) (.cons 7
 (xl 0 2 (.v 2)) .nil))]) (.seq (.run 0 [.asg 6 (xk .neq 3 9 (.int .i64 0) (.v 3))]) (.cond 6 (.seq (.run 0 [.asg 3 (.v 3)]) (.ret)) (.skip)))) (.seq (.seq (.run 0 [.asg 7 (xb
 .gtr 2 13 16 (xn 1 12 (.v 1)) (xn 14 15 (xl 14 14 (xf 0 2 2 (.v 2)))))]) (.cond 7 (.seq (.run 0 [u9A 3 280]) (.ret)) (.skip))) (.seq (.seq (.run 0 [.asg 8
 (.v 1),.asg 9 (xn 1 18 (.v 8)),u9A 10 0]) (.block 0 (.loop (.seq (.run 0 [.asg 11 (xb .lss 2 20 19 (.v 10) (.v 9))]) (.seq (.cond 11 (.skip) (.exit 0))
 (.seq (.block 1 (.seq (.run 0 [.asg 4 (.v 10),.asg 5 (xl 2 23 (xi 1 18 20 (.v 8) (.v 10)))]) (.seq (.run 0 [.asg 12 (.ite (xk .lss 2 25 (.int .i64 0) (.v 5)) (.c (.bool true))
 (xb .geq 2 28 35 (.v 5) (xn 16 34 (xl 16 33 (xf 15 32 3 (xi 14 30 31 (xl 14 29 (xf 0 2 2 (.v 2))) (.v 4)))))))]) (.cond 12 (.seq (.run 0 [u9A 3 280]) (.ret))
 (.skip))))) (.run 0 [.asg 10 (xk .add 2 20 (.int .i64 1) (.v 10))]))))))) (.seq (.run 0 [u9A 3 0]) (.ret)))))
theorem c62 : TF E 62 n62 [(3,none)] t62 39 := zc (F := f62) rfl (by kernel_rfl) (by decide)

def n63 : List Nat := [0,1,2,3,4]
def t63 : TC := .seq (.run 0 [u9E 2 (.box 0 (.t 0)) (.cons 0 (.v 0) .nil) none,u9E 3 (.box 1 (.t 1)) (.cons 1 (.v 1) .nil) none,.asg 4 (.c .nilfn)]) (.seq (.run
 0 [.asg 4 (.n (.mkfn 102 [(.t 2),(.t 3)]) (.cons 2 (.v 2) (.cons 3 (.v 3) .nil)))]) (.ret))
theorem c63 : TF E 63 n63 [(4,none)] t63 6 := zc (F := f63) rfl (by kernel_rfl) (by decide)

def n66 : List Nat := [0,1,2,4,5,6,7,11,18,19,20,21,22,36]
def t66 : TC := .seq (.run 0 [u9E 2 (.box 0 (.t 0)) (.cons 0 (.v 0) .nil) none,u9A 3 0]) (.seq (.seq (.run 0 [.asg 4 (.n (.call 0 (.f 15) [(.t 8)]) (.cons 8
 (xl 0 2 (.v 2)) .nil))]) (.seq (.run 0 [.asg 7 (xk .neq 3 10 (.int .i64 0) (.v 4))]) (.cond 7 (.seq (.run 0 [.asg 3 (.v 4)]) (.ret)) (.skip)))) (.seq (.seq (.run 0 [.asg 8
 (xb .gtr 2 14 17 (xn 6 13 (.v 1)) (xn 14 16 (xl 14 15 (xf 0 2 2 (.v 2)))))]) (.cond 8 (.seq (.run 0 [u9A 3 270]) (.ret)) (.skip))) (.seq (.seq (.run 0 [.asg
 9 (.v 1),.asg 10 (xn 6 19 (.v 9)),u9A 11 0]) (.block 0 (.loop (.seq (.run 0 [.asg 12 (xb .lss 2 21 20 (.v 11) (.v 10))]) (.seq (.cond 12 (.skip) (.exit
 0)) (.seq (.block 1 (.seq (.run 0 [.asg 5 (.v 11),.asg 6 (xl 2 24 (xi 6 19 21 (.v 9) (.v 11)))]) (.seq (.run 0 [.asg 13 (.n (.un .not (.t 35)) (.cons 35 (.n (.call 0 (.f 67)
 [(.t 26),(.c (.int .i64 0)),(.t 34)]) (.cons 26 (.v 6) (.cons 34 (xk .sub 2 33 (.int .i64 1) (xn 16 32 (xl 16 31 (xf 15 30 3 (xi 14 28 29 (xl 14 27 (xf 0 2 2 (.v 2))) (.v
 5)))))) .nil))) .nil))]) (.cond 13 (.seq (.run 0 [u9A 3 270]) (.ret)) (.skip))))) (.run 0 [.asg 11 (xk .add 2 21 (.int .i64 1) (.v 11))]))))))) (.seq (.run
 0 [u9A 3 0]) (.ret)))))
theorem c66 : TF E 66 n66 [(3,none)] t66 38 := zc (F := f66) rfl (by kernel_rfl) (by decide)

def n67 : List Nat := [0,1,2,6]
def t67 : TC := .seq (.run 0 [.asg 3 (.c (.bool false))]) (.seq (.run 0 [.asg 3 (.ite (xb .leq 2 7 8 (.v 1) (.v 0)) (xb .leq 2 11 12 (.v 0) (.v 2)) (.c (.bool false)))]) (.ret))
theorem c67 : TF E 67 n67 [(3,none)] t67 15 := zc (F := f67) rfl (by kernel_rfl) (by decide)

def n68 : List Nat := [0,1,2,4,5,6,7,8,9,10,11,12,14,15,16,17,20,27,28,30,31,32,34,38,39,44,45,46,50,54]
def t68 : TC := .seq (.run 0 [u9E 2 (.box 0 (.t 0)) (.cons 0 (.v 0) .nil) none,.asg 3 (.c (.imm .exact []))]) (.seq (.run 0 [u9E 11 (.mkmap 26) .nil none,u9E 4 (.alloc 26) .nil none,.eff none none (.store 26 (.t 5) (.t 12)) (.cons 5 (.v 4) (.cons 12 (.v 11) .nil)) none]) (.seq (.seq (.run 0 [.asg 12 (xl 10 13 (xf 0 2 0 (.v
 2))),.asg 13 (xn 10 14 (.v 12)),u9A 14 0]) (.block 0 (.loop (.seq (.run 0 [.asg 15 (xb .lss 2 16 15 (.v 14) (.v 13))]) (.seq (.cond 15 (.skip) (.exit 0))
 (.seq (.block 1 (.seq (.run 0 [.asg 16 (xl 20 19 (xi 10 14 16 (.v 12) (.v 14))),u9E 6 (.alloc 20) .nil none,.asg 5 (.v 14),.eff none none (.store 20 (.t 7)
 (.t 20)) (.cons 7 (.v 6) (.cons 20 (.v 16) .nil)) none]) (.run 0 [.eff none none (.mapset 26 (.t 21) (.t 22) (.t 23)) (.cons 21 (xl 26 5 (.v 4)) (.cons 22 (xl 20 7 (.v 6))
 (.cons 23 (.v 5) .nil))) none]))) (.run 0 [.asg 14 (xk .add 2 16 (.int .i64 1) (.v 14))]))))))) (.seq (.run 0 [.asg 17 (xn 9 26 (xl 9 25 (xf 0 2 1 (.v 2)))),u9E 18 (.mkslice true 9 (.t 27) (.t 27)) (.cons 27 (.v 17) (.cons 27 (.v 17) .nil)) none,u9E 7 (.alloc 9) .nil none,.eff none none (.store 9 (.t 8) (.t 28)) (.cons
 8 (.v 7) (.cons 28 (.v 18) .nil)) none]) (.seq (.seq (.run 0 [.asg 19 (xn 9 29 (xl 9 8 (.v 7))),u9A 20 0]) (.block 2 (.loop (.seq (.run 0 [.asg 21 (xb .lss
 2 31 30 (.v 20) (.v 19))]) (.seq (.cond 21 (.skip) (.exit 2)) (.seq (.block 3 (.seq (.run 0 [.asg 8 (.v 20)]) (.run 8 [.asg 22 (xl 9 8 (.v 7)),.asg 23 (xn 10 37 (xl 10 36
 (xf 0 2 0 (.v 2)))),u9E 24 (.mkslice true 6 (.t 38) (.t 38)) (.cons 38 (.v 23) (.cons 38 (.v 23) .nil)) (some 5),.eff none none (.store 6 (.t 40) (.t 39)) (.cons
 40 (xi 9 34 35 (.v 22) (.v 8)) (.cons 39 (.v 24) .nil)) (some 7)]))) (.run 0 [.asg 20 (xk .add 2 31 (.int .i64 1) (.v 20))]))))))) (.seq (.seq (.run 0 [.asg 25 (.n (.call 0
 (.f 104) [(.t 42),(.t 43)]) (.cons 42 (xl 0 2 (.v 2)) (.cons 43 (.v 1) .nil)))]) (.block 4 (.rfunc 25 [26,27] (.seq (.run 0 [.asg 9 (.v 26)]) (.run 0 [u9E 10
 (.alloc 19) .nil none,.eff none none (.store 19 (.t 11) (.t 46)) (.cons 11 (.v 10) (.cons 46 (.v 27) .nil)) none])) (.block 5 (.run 15 [.asg 28 (xl 6 49 (xi 9 47 48 (xl 9
 8 (.v 7)) (.v 9))),.asg 29 (.n (.lookup 26 (.t 51) (.t 53) false) (.cons 51 (xl 26 5 (.v 4)) (.cons 53 (xl 20 52 (xf 19 11 0 (.v 10))) .nil))),.eff none none (.store 2 (.t
 60) (.t 59)) (.cons 60 (xi 6 50 54 (.v 28) (.v 29)) (.cons 59 (xb .add 2 56 58 (xl 2 55 (xi 6 50 54 (.v 28) (.v 29))) (xl 2 57 (xf 19 11 1 (.v 10)))) .nil)) (some 14)])))))
 (.seq (.run 0 [.asg 3 (xl 9 8 (.v 7))]) (.ret)))))))
theorem c68 : TF E 68 n68 [(3,none)] t68 62 := zc (F := f68) rfl (by kernel_rfl) (by decide)

def n69 : List Nat := [0,1,4,5,9,23]
def t69 : TC := .seq (.run 0 [.asg 2 (.c (.bool false))]) (.seq (.seq (.run 0 [u9A 3 1]) (.block 0 (.loop (.seq (.seq (.run 0 [.asg 4 (xb .lss 2 6 8 (.v 3) (xn 10 7 (.v 0)))])
 (.cond 4 (.skip) (.exit 0))) (.seq (.block 1 (.seq (.run 12 [.asg 5 (xk .geq 2 22 (.int .i64 0) (.n (.call 0 (.t 12) [(.t 17),(.t 21)]) (.cons 12 (.v 1) (.cons 17 (xl 20 16
 (xi 10 13 15 (.v 0) (xk .sub 2 14 (.int .i64 1) (.v 3)))) (.cons 21 (xl 20 20 (xi 10 18 19 (.v 0) (.v 3))) .nil)))))]) (.cond 5 (.seq (.run 0 [.asg 2 (.c (.bool false))]) (.ret))
 (.skip)))) (.run 0 [.asg 3 (xk .add 2 10 (.int .i64 1) (.v 3))])))))) (.seq (.run 0 [.asg 2 (.c (.bool true))]) (.ret)))
theorem c69 : TF E 69 n69 [(2,none)] t69 24 := zc (F := f69) rfl (by kernel_rfl) (by decide)

def n70 : List Nat := [0,1,2,3,4,9,11]
def t70 : TC := .seq (.run 0 [u9E 2 (.box 20 (.t 0)) (.cons 0 (.v 0) .nil) none,u9E 3 (.box 20 (.t 1)) (.cons 1 (.v 1) .nil) none,u9A 4 0]) (.seq
 (.seq (.run 0 [.asg 5 (xb .neq 7 6 8 (xl 7 5 (xf 20 2 0 (.v 2))) (xl 7 7 (xf 20 3 0 (.v 3))))]) (.cond 5 (.seq (.seq (.run 0 [.asg 6 (xl 7 10 (xf 20 3 0 (.v 3)))]) (.cond 6
 (.seq (.run 0 [.asg 4 (.c (.int .i64 (-1)))]) (.ret)) (.skip))) (.seq (.run 0 [u9A 4 1]) (.ret))) (.skip))) (.seq (.run 13 [.asg 4 (.n (.call 0 (.f 105) [(.t
 22)]) (.cons 22 (.n (.bslice false 6 2 [(0,(.t 16)),(1,(.t 21))]) (.cons 16 (.n (.call 0 (.f 74) [(.t 13),(.t 15)]) (.cons 13 (xl 2 12 (xf 20 2 1 (.v 2))) (.cons 15 (xl
 2 14 (xf 20 3 1 (.v 3))) .nil))) (.cons 21 (.n (.call 0 (.f 74) [(.t 18),(.t 20)]) (.cons 18 (xl 2 17 (xf 20 2 2 (.v 2))) (.cons 20 (xl 2 19 (xf 20 3 2 (.v 3))) .nil))) .nil)))
 .nil))]) (.ret)))
theorem c70 : TF E 70 n70 [(4,none)] t70 24 := zc (F := f70) rfl (by kernel_rfl) (by decide)

def n71 : List Nat := [0,1,4]
def t71 : TC := .seq (.run 0 [.asg 2 (.c (.bool false))]) (.seq (.run 0 [.asg 2 (xk .geq 2 7 (.int .i64 0) (.n (.call 0 (.f 106) [(.t 5),(.t 6)]) (.cons 5 (.v 0) (.cons 6 (.v 1) .nil))))])
 (.ret))
theorem c71 : TF E 71 n71 [(2,none)] t71 9 := zc (F := f71) rfl (by kernel_rfl) (by decide)

def n72 : List Nat := [0,2]
def t72 : TC := .seq (.run 0 [.asg 1 (.c (.bool false))]) (.seq (.run 0 [.asg 1 (.n (.un .not (.t 4)) (.cons 4 (.n (.call 0 (.f 67) [(.t 3),(.c (.int .i64 0)),(.c (.int .i64 4096))]) (.cons
 3 (.v 0) .nil)) .nil))]) (.ret))
theorem c72 : TF E 72 n72 [(1,none)] t72 6 := zc (F := f72) rfl (by kernel_rfl) (by decide)

def n73 : List Nat := [0,1,4,5,9,23]
def t73 : TC := .seq (.run 0 [.asg 2 (.c (.bool false))]) (.seq (.seq (.run 0 [u9A 3 1]) (.block 0 (.loop (.seq (.seq (.run 0 [.asg 4 (xb .lss 2 6 8 (.v 3) (xn 6 7 (.v 0)))])
 (.cond 4 (.skip) (.exit 0))) (.seq (.block 1 (.seq (.run 12 [.asg 5 (xk .geq 2 22 (.int .i64 0) (.n (.call 0 (.t 12) [(.t 17),(.t 21)]) (.cons 12 (.v 1) (.cons 17 (xl 2 16
 (xi 6 13 15 (.v 0) (xk .sub 2 14 (.int .i64 1) (.v 3)))) (.cons 21 (xl 2 20 (xi 6 18 19 (.v 0) (.v 3))) .nil)))))]) (.cond 5 (.seq (.run 0 [.asg 2 (.c (.bool false))]) (.ret))
 (.skip)))) (.run 0 [.asg 3 (xk .add 2 10 (.int .i64 1) (.v 3))])))))) (.seq (.run 0 [.asg 2 (.c (.bool true))]) (.ret)))
theorem c73 : TF E 73 n73 [(2,none)] t73 24 := zc (F := f73) rfl (by kernel_rfl) (by decide)

def n74 : List Nat := [0,1,4,5,6,11,12,13,16,19]
def t74 : TC := .seq (.run 0 [u9A 2 0]) (.seq (.run 0 [.asg 3 (.n (.call 0 (.f 107) [(.t 7)]) (.cons 7 (.v 0) .nil))]) (.seq (.run 0 [.asg 4 (.n (.call 0 (.f 107) [(.t 9)])
 (.cons 9 (.v 1) .nil))]) (.seq (.seq (.run 0 [.asg 5 (.v 3)]) (.cond 5 (.seq (.seq (.run 0 [.asg 6 (.v 4)]) (.cond 6 (.seq (.run 0 [u9A 2 0]) (.ret)) (.skip)))
 (.seq (.run 0 [.asg 2 (.c (.int .i64 (-1)))]) (.ret))) (.skip))) (.seq (.seq (.run 0 [.asg 7 (.v 4)]) (.cond 7 (.seq (.run 0 [u9A 2 1]) (.ret)) (.skip)))
 (.seq (.seq (.run 0 [.asg 8 (xb .lss 2 14 15 (.v 0) (.v 1))]) (.cond 8 (.seq (.run 0 [.asg 2 (.c (.int .i64 (-1)))]) (.ret)) (.skip))) (.seq (.seq (.run 0 [.asg 9 (xb .gtr
 2 17 18 (.v 0) (.v 1))]) (.cond 9 (.seq (.run 0 [u9A 2 1]) (.ret)) (.skip))) (.seq (.run 0 [u9A 2 0]) (.ret))))))))
theorem c74 : TF E 74 n74 [(2,none)] t74 20 := zc (F := f74) rfl (by kernel_rfl) (by decide)

def n75 : List Nat := [0,1,4,5,9,23]
def t75 : TC := .seq (.run 0 [.asg 2 (.c (.bool false))]) (.seq (.seq (.run 0 [u9A 3 1]) (.block 0 (.loop (.seq (.seq (.run 0 [.asg 4 (xb .lss 2 6 8 (.v 3) (xn 18 7 (.v 0)))])
 (.cond 4 (.skip) (.exit 0))) (.seq (.block 1 (.seq (.run 12 [.asg 5 (xk .geq 2 22 (.int .i64 0) (.n (.call 0 (.t 12) [(.t 17),(.t 21)]) (.cons 12 (.v 1) (.cons 17 (xl 19 16
 (xi 18 13 15 (.v 0) (xk .sub 2 14 (.int .i64 1) (.v 3)))) (.cons 21 (xl 19 20 (xi 18 18 19 (.v 0) (.v 3))) .nil)))))]) (.cond 5 (.seq (.run 0 [.asg 2 (.c (.bool false))]) (.ret))
 (.skip)))) (.run 0 [.asg 3 (xk .add 2 10 (.int .i64 1) (.v 3))])))))) (.seq (.run 0 [.asg 2 (.c (.bool true))]) (.ret)))
theorem c75 : TF E 75 n75 [(2,none)] t75 24 := zc (F := f75) rfl (by kernel_rfl) (by decide)

def n76 : List Nat := [0,1,2,3,4]
def t76 : TC := .seq (.run 0 [u9E 2 (.box 19 (.t 0)) (.cons 0 (.v 0) .nil) none,u9E 3 (.box 19 (.t 1)) (.cons 1 (.v 1) .nil) none,u9A 4 0]) (.seq
 (.run 0 [.asg 4 (.n (.call 0 (.f 70) [(.t 6),(.t 8)]) (.cons 6 (xl 20 5 (xf 19 2 0 (.v 2))) (.cons 8 (xl 20 7 (xf 19 3 0 (.v 3))) .nil)))]) (.ret))
theorem c76 : TF E 76 n76 [(4,none)] t76 10 := zc (F := f76) rfl (by kernel_rfl) (by decide)

def n78 : List Nat := [0,1,2,4,5,11,15,31]
def t78 : TC := .seq (.run 0 [u9E 2 (.box 0 (.t 0)) (.cons 0 (.v 0) .nil) none,.asg 3 (.c (.bool false))]) (.seq (.seq (.run 0 [.asg 5 (xb .gtr 2 7 10 (xn 6 6 (.v 1)) (xn 14
 9 (xl 14 8 (xf 0 2 2 (.v 2)))))]) (.cond 5 (.seq (.run 0 [.asg 3 (.c (.bool false))]) (.ret)) (.skip))) (.seq (.seq (.run 0 [u9A 4 0]) (.block 0 (.loop (.seq
 (.seq (.run 0 [.asg 6 (xb .lss 2 12 14 (.v 4) (xn 6 13 (.v 1)))]) (.cond 6 (.skip) (.exit 0))) (.seq (.block 1 (.seq (.run 14 [.asg 7 (.n (.un .not (.t 30)) (.cons 30 (.n (.call
 0 (.f 79) [(.t 21),(.c (.int .i64 0)),(.t 29)]) (.cons 21 (xl 2 20 (xi 6 18 19 (.v 1) (.v 4))) (.cons 29 (xk .sub 2 28 (.int .i64 1) (xn 16 27 (xl 16 26 (xf 15 25 3 (xi 14
 23 24 (xl 14 22 (xf 0 2 2 (.v 2))) (.v 4)))))) .nil))) .nil))]) (.cond 7 (.seq (.run 0 [.asg 3 (.c (.bool false))]) (.ret)) (.skip)))) (.run 0 [.asg 4 (xk .add 2 16 (.int .i64
 1) (.v 4))])))))) (.seq (.run 0 [.asg 3 (.c (.bool true))]) (.ret))))
theorem c78 : TF E 78 n78 [(3,none)] t78 32 := zc (F := f78) rfl (by kernel_rfl) (by decide)

def n79 : List Nat := [0,1,2,6]
def t79 : TC := .seq (.run 0 [.asg 3 (.c (.bool false))]) (.seq (.run 0 [.asg 3 (.ite (xb .leq 2 7 8 (.v 1) (.v 0)) (xb .leq 2 11 12 (.v 0) (.v 2)) (.c (.bool false)))]) (.ret))
theorem c79 : TF E 79 n79 [(3,none)] t79 15 := zc (F := f79) rfl (by kernel_rfl) (by decide)

def n81 : List Nat := [0,1,2,3,4,9,16]
def t81 : TC := .seq (.run 0 [u9E 2 (.box 20 (.t 0)) (.cons 0 (.v 0) .nil) none,u9E 3 (.box 20 (.t 1)) (.cons 1 (.v 1) .nil) none,.asg 4 (.c (.bool false))]) (.seq
 (.seq (.run 0 [.asg 5 (xb .neq 7 6 8 (xl 7 5 (xf 20 2 0 (.v 2))) (xl 7 7 (xf 20 3 0 (.v 3))))]) (.cond 5 (.seq (.run 0 [.asg 4 (xl 7 10 (xf 20 3 0 (.v 3)))]) (.ret)) (.skip)))
 (.seq (.seq (.run 0 [.asg 6 (xb .neq 2 13 15 (xl 2 12 (xf 20 2 1 (.v 2))) (xl 2 14 (xf 20 3 1 (.v 3))))]) (.cond 6 (.seq (.run 0 [.asg 4 (xb .lss 2 18 20 (xl 2 17 (xf 20 2
 1 (.v 2))) (xl 2 19 (xf 20 3 1 (.v 3))))]) (.ret)) (.skip))) (.seq (.run 0 [.asg 4 (xb .lss 2 23 25 (xl 2 22 (xf 20 2 2 (.v 2))) (xl 2 24 (xf 20 3 2 (.v 3))))]) (.ret))))
theorem c81 : TF E 81 n81 [(4,none)] t81 27 := zc (F := f81) rfl (by kernel_rfl) (by decide)

def n82 : List Nat := [0,1,2,3,4,5,6,7,8,9,25,30,61,66,73,89,94,101,130]
def t82 : TC := .seq (.run 0 [u9E 2 (.box 0 (.t 0)) (.cons 0 (.v 0) .nil) none,u9E 3 (.box 15 (.t 1)) (.cons 1 (.v 1) .nil) none,.asg 4 (.c (.bool false))]) (.seq
 (.seq (.run 0 [.asg 10 (.ite (.ite (xk .lss 2 12 (.int .i64 1) (xn 6 11 (xl 6 10 (xf 15 3 2 (.v 3))))) (.c (.bool true)) (xk .lss 2 17 (.int .i64 1) (xn 16 16 (xl 16 15 (xf
 15 3 3 (.v 3)))))) (.c (.bool true)) (xk .gtr 2 23 (.int .i64 96) (xn 16 22 (xl 16 21 (xf 15 3 3 (.v 3))))))]) (.cond 10 (.seq (.run 0 [.asg 4 (.c (.bool false))]) (.ret))
 (.skip))) (.seq (.seq (.run 0 [u9A 5 0]) (.block 0 (.loop (.seq (.seq (.run 0 [.asg 11 (xb .lss 2 26 29 (.v 5) (xn 6 28 (xl 6 27 (xf 15 3 2 (.v 3)))))]) (.cond
 11 (.skip) (.exit 0))) (.seq (.block 1 (.seq (.run 29 [.asg 12 (.ite (.n (.un .not (.t 42)) (.cons 42 (.n (.call 0 (.f 79) [(.t 37),(.c (.int .i64 0)),(.t 41)]) (.cons 37
 (xl 2 36 (xi 6 34 35 (xl 6 33 (xf 15 3 2 (.v 3))) (.v 5))) (.cons 41 (xk .sub 2 40 (.int .i64 1) (xn 9 39 (xl 9 38 (xf 0 2 1 (.v 2))))) .nil))) .nil)) (.c (.bool true)) (.ite
 (xk .gtr 2 45 (.int .i64 0) (.v 5)) (xb .geq 2 53 58 (xl 2 52 (xi 6 49 51 (xl 6 48 (xf 15 3 2 (.v 3))) (xk .sub 2 50 (.int .i64 1) (.v 5)))) (xl 2 57 (xi 6 55 56 (xl 6 54 (xf
 15 3 2 (.v 3))) (.v 5)))) (.c (.bool false))))]) (.cond 12 (.seq (.run 0 [.asg 4 (.c (.bool false))]) (.ret)) (.skip)))) (.run 0 [.asg 5 (xk .add 2 31 (.int .i64 1) (.v 5))]))))))
 (.seq (.seq (.run 0 [u9A 6 0]) (.block 2 (.loop (.seq (.seq (.run 0 [.asg 13 (xb .lss 2 62 65 (.v 6) (xn 16 64 (xl 16 63 (xf 15 3 3 (.v 3)))))]) (.cond 13
 (.skip) (.exit 2))) (.seq (.block 3 (.seq (.run 0 [.asg 14 (xl 17 72 (xi 16 70 71 (xl 16 69 (xf 15 3 3 (.v 3))) (.v 6))),u9E 7 (.alloc 17) .nil none,.eff none
 none (.store 17 (.t 7) (.t 73)) (.cons 7 (.v 7) (.cons 73 (.v 14) .nil)) none]) (.seq (.seq (.run 0 [.asg 15 (.ite (.ite (.n (.un .not (.t 76)) (.cons 76 (.n (.call 0 (.f 79)
 [(.t 75),(.c (.int .i64 0)),(.c (.int .i64 1048576))]) (.cons 75 (xl 2 74 (xf 17 7 0 (.v 7))) .nil)) .nil)) (.c (.bool true)) (.n (.un .not (.t 81)) (.cons 81 (.n (.call
 0 (.f 79) [(.t 80),(.c (.int .i64 0)),(.c (.int .i64 1048576))]) (.cons 80 (xl 2 79 (xf 17 7 1 (.v 7))) .nil)) .nil))) (.c (.bool true)) (.n (.un .not (.t 87)) (.cons 87
 (.n (.call 0 (.f 79) [(.t 86),(.c (.int .i64 0)),(.c (.int .i64 1048576))]) (.cons 86 (xl 2 85 (xf 17 7 2 (.v 7))) .nil)) .nil)))]) (.cond 15 (.seq (.run 0 [.asg 4 (.c (.bool
 false))]) (.ret)) (.skip))) (.seq (.run 0 [u9A 8 0]) (.block 4 (.loop (.seq (.seq (.run 0 [.asg 16 (xb .lss 2 90 93 (.v 8) (xn 18 92 (xl 18 91 (xf 17 7 3
 (.v 7)))))]) (.cond 16 (.skip) (.exit 4))) (.seq (.block 5 (.seq (.run 0 [.asg 17 (xl 19 100 (xi 18 98 99 (xl 18 97 (xf 17 7 3 (.v 7))) (.v 8))),u9E 9 (.alloc
 19) .nil none,.eff none none (.store 19 (.t 9) (.t 101)) (.cons 9 (.v 9) (.cons 101 (.v 17) .nil)) none]) (.seq (.run 29 [.asg 18 (.ite (.ite (xk .lss 2 106 (.int .i64 0)
 (.n (.call 0 (.f 109) [(.t 103),(.t 105)]) (.cons 103 (xl 10 102 (xf 0 2 0 (.v 2))) (.cons 105 (xl 20 104 (xf 19 9 0 (.v 9))) .nil)))) (.c (.bool true)) (.n (.un .not (.t
 111)) (.cons 111 (.n (.call 0 (.f 79) [(.t 110),(.c (.int .i64 1)),(.c (.int .i64 8))]) (.cons 110 (xl 2 109 (xf 19 9 1 (.v 9))) .nil)) .nil))) (.c (.bool true)) (.ite (xk
 .gtr 2 115 (.int .i64 0) (.v 8)) (.n (.un .not (.t 127)) (.cons 127 (.n (.call 0 (.f 81) [(.t 124),(.t 126)]) (.cons 124 (xl 20 123 (xf 19 122 0 (xi 18 119 121 (xl 18 118
 (xf 17 7 3 (.v 7))) (xk .sub 2 120 (.int .i64 1) (.v 8))))) (.cons 126 (xl 20 125 (xf 19 9 0 (.v 9))) .nil))) .nil)) (.c (.bool false))))]) (.cond 18 (.seq (.run 0 [.asg 4
 (.c (.bool false))]) (.ret)) (.skip))))) (.run 0 [.asg 8 (xk .add 2 95 (.int .i64 1) (.v 8))]))))))))) (.run 0 [.asg 6 (xk .add 2 67 (.int .i64 1) (.v 6))])))))) (.seq (.run
 0 [.asg 4 (.c (.bool true))]) (.ret)))))
theorem c82 : TF E 82 n82 [(4,none)] t82 131 := zc (F := f82) rfl (by kernel_rfl) (by decide)

def n83 : List Nat := [0,1,2,4,5,10,17]
def t83 : TC := .seq (.run 0 [u9E 2 (.box 0 (.t 0)) (.cons 0 (.v 0) .nil) none,u9A 3 0]) (.seq (.seq (.run 0 [.asg 4 (.n (.call 0 (.f 66) [(.t 6),(.t 7)])
 (.cons 6 (xl 0 2 (.v 2)) (.cons 7 (.v 1) .nil)))]) (.seq (.run 0 [.asg 5 (xk .neq 3 9 (.int .i64 0) (.v 4))]) (.cond 5 (.seq (.run 0 [.asg 3 (.v 4)]) (.ret)) (.skip)))) (.seq
 (.seq (.run 0 [.asg 6 (xb .neq 2 13 16 (xn 6 12 (.v 1)) (xn 14 15 (xl 14 14 (xf 0 2 2 (.v 2)))))]) (.cond 6 (.seq (.run 0 [u9A 3 270]) (.ret)) (.skip))) (.seq
 (.run 0 [u9A 3 0]) (.ret))))
theorem c83 : TF E 83 n83 [(3,none)] t83 18 := zc (F := f83) rfl (by kernel_rfl) (by decide)

def n84 : List Nat := [0,1,2,3,4]
def t84 : TC := .seq (.run 0 [u9E 2 (.box 0 (.t 0)) (.cons 0 (.v 0) .nil) none,u9E 3 (.box 6 (.t 1)) (.cons 1 (.v 1) .nil) none,.asg 4 (.c .nilfn)]) (.seq (.run
 0 [.asg 4 (.n (.mkfn 110 [(.t 2),(.t 3)]) (.cons 2 (.v 2) (.cons 3 (.v 3) .nil)))]) (.ret))
theorem c84 : TF E 84 n84 [(4,none)] t84 6 := zc (F := f84) rfl (by kernel_rfl) (by decide)

def n87 : List Nat := [0,1,4,5,6,7,8,9,10,11,12,19,28,35]
def t87 : TC := .seq (.run 0 [u9A 2 0]) (.seq (.seq (.run 0 [.asg 7 (.v 0),.asg 8 (xn 6 9 (.v 7)),u9A 9 0]) (.block 0 (.loop (.seq (.run 0 [.asg 10 (xb
 .lss 2 11 10 (.v 9) (.v 8))]) (.seq (.cond 10 (.skip) (.exit 0)) (.seq (.block 1 (.seq (.run 0 [.asg 3 (.v 9),.asg 4 (xl 2 14 (xi 6 9 11 (.v 7) (.v 9)))]) (.seq (.seq (.run
 0 [.asg 11 (xb .geq 2 16 18 (.v 3) (xn 6 17 (.v 1)))]) (.cond 11 (.seq (.run 0 [u9A 2 1]) (.ret)) (.skip))) (.seq (.run 0 [.asg 5 (xl 2 22 (xi 6 20 21 (.v
 1) (.v 3)))]) (.seq (.run 0 [.asg 6 (.n (.call 0 (.f 74) [(.t 24),(.t 25)]) (.cons 24 (.v 4) (.cons 25 (.v 5) .nil)))]) (.seq (.run 0 [.asg 12 (xk .neq 2 27 (.int .i64 0)
 (.v 6))]) (.cond 12 (.seq (.run 0 [.asg 2 (.v 6)]) (.ret)) (.skip)))))))) (.run 0 [.asg 9 (xk .add 2 11 (.int .i64 1) (.v 9))]))))))) (.seq (.seq (.run 0 [.asg 13 (xb .lss
 2 32 34 (xn 6 31 (.v 0)) (xn 6 33 (.v 1)))]) (.cond 13 (.seq (.run 0 [.asg 2 (.c (.int .i64 (-1)))]) (.ret)) (.skip))) (.seq (.run 0 [u9A 2 0]) (.ret))))
theorem c87 : TF E 87 n87 [(2,none)] t87 36 := zc (F := f87) rfl (by kernel_rfl) (by decide)

def n89 : List Nat := [0,1,2,3,6,7,8,9,14,21,22,23,24,25,41]
def t89 : TC := .seq (.run 0 [u9E 3 (.box 0 (.t 0)) (.cons 0 (.v 0) .nil) none,u9A 4 0]) (.seq (.seq (.run 0 [.asg 5 (.n (.call 0 (.f 41) [(.t 10),(.t 11)])
 (.cons 10 (xl 0 3 (.v 3)) (.cons 11 (.v 2) .nil)))]) (.seq (.run 0 [.asg 8 (xk .neq 3 13 (.int .i64 0) (.v 5))]) (.cond 8 (.seq (.run 0 [.asg 4 (.v 5)]) (.ret)) (.skip))))
 (.seq (.seq (.run 0 [.asg 9 (xb .gtr 2 17 20 (xn 1 16 (.v 1)) (xn 14 19 (xl 14 18 (xf 0 3 2 (.v 3)))))]) (.cond 9 (.seq (.run 0 [u9A 4 290]) (.ret)) (.skip)))
 (.seq (.seq (.run 0 [.asg 10 (.v 1),.asg 11 (xn 1 22 (.v 10)),u9A 12 0]) (.block 0 (.loop (.seq (.run 0 [.asg 13 (xb .lss 2 24 23 (.v 12) (.v 11))]) (.seq
 (.cond 13 (.skip) (.exit 0)) (.seq (.block 1 (.seq (.run 0 [.asg 6 (.v 12),.asg 7 (xl 2 27 (xi 1 22 24 (.v 10) (.v 12)))]) (.seq (.run 0 [.asg 14 (.ite (xk .lss 2 29 (.int
 .i64 0) (.v 7)) (.c (.bool true)) (xb .geq 2 32 39 (.v 7) (xn 16 38 (xl 16 37 (xf 15 36 3 (xi 14 34 35 (xl 14 33 (xf 0 3 2 (.v 3))) (.v 6)))))))]) (.cond 14 (.seq (.run 0 [u9A 4 290]) (.ret)) (.skip))))) (.run 0 [.asg 12 (xk .add 2 24 (.int .i64 1) (.v 12))]))))))) (.seq (.run 0 [u9A 4 0]) (.ret)))))
theorem c89 : TF E 89 n89 [(4,none)] t89 43 := zc (F := f89) rfl (by kernel_rfl) (by decide)

def n90 : List Nat := [0,1,2,4,5,6,7,8,9,10,11,12,13,15,16,17,18,22,23,24,25,47,48,49,51,60]
def t90 : TC := .seq (.run 0 [u9E 2 (.box 25 (.t 0)) (.cons 0 (.v 0) .nil) none,u9A 3 0,.asg 4 (.c (.bool false))]) (.seq (.seq (.run 0 [.asg 13 (xl 9 14 (xf
 25 2 3 (.v 2))),.asg 14 (xn 9 15 (.v 13)),u9A 15 0]) (.block 0 (.loop (.seq (.run 0 [.asg 16 (xb .lss 2 17 16 (.v 15) (.v 14))]) (.seq (.cond 16 (.skip)
 (.exit 0)) (.seq (.block 1 (.seq (.run 0 [.asg 5 (.v 15),.asg 6 (xl 6 20 (xi 9 15 17 (.v 13) (.v 15)))]) (.seq (.run 0 [.asg 17 (.v 6),.asg 18 (xn 6 22 (.v 17)),u9A 19 0]) (.block 2 (.loop (.seq (.run 0 [.asg 20 (xb .lss 2 24 23 (.v 19) (.v 18))]) (.seq (.cond 20 (.skip) (.exit 2)) (.seq (.block 3 (.seq (.run 0 [.asg 7 (.v
 19),.asg 8 (xl 2 27 (xi 6 22 24 (.v 17) (.v 19)))]) (.run 0 [.asg 3 (xb .sub 2 29 40 (.v 3) (xb .mul 2 30 39 (.v 8) (xl 2 38 (xi 6 36 37 (xl 6 35 (xi 9 33 34 (xl 9 32 (xf
 0 31 1 (xf 25 2 0 (.v 2)))) (.v 5))) (.v 7)))))]))) (.run 0 [.asg 19 (xk .add 2 24 (.int .i64 1) (.v 19))]))))))))) (.run 0 [.asg 15 (xk .add 2 17 (.int .i64 1) (.v 15))])))))))
 (.seq (.seq (.run 0 [.asg 21 (xn 14 46 (xl 14 45 (xf 0 44 2 (xf 25 2 0 (.v 2))))),u9A 22 0]) (.block 4 (.loop (.seq (.run 0 [.asg 23 (xb .lss 2 48 47 (.v
 22) (.v 21))]) (.seq (.cond 23 (.skip) (.exit 4)) (.seq (.block 5 (.seq (.run 0 [.asg 9 (.v 22)]) (.seq (.run 0 [.asg 24 (.n (.call 0 (.f 97) [(.t 52),(.t 53),(.t 54)]) (.cons
 52 (xl 25 2 (.v 2)) (.cons 53 (.v 9) (.cons 54 (.v 1) .nil)))),u9E 10 (.alloc 17) .nil none,.eff none none (.store 17 (.t 11) (.t 56)) (.cons 11 (.v 10) (.cons
 56 (xe 51 0 (.v 24)) .nil)) none,.asg 11 (xe 51 1 (.v 24)),.asg 12 (xe 51 2 (.v 24))]) (.seq (.seq (.run 0 [.asg 25 (.n (.un .not (.t 59)) (.cons 59 (.v 12) .nil))]) (.cond
 25 (.seq (.run 0 [u9A 3 0,.asg 4 (.c (.bool false))]) (.ret)) (.skip))) (.run 0 [.asg 3 (xb .add 2 61 62 (.v 3) (.v 11))]))))) (.run 0 [.asg 22 (xk .add
 2 48 (.int .i64 1) (.v 22))]))))))) (.seq (.run 0 [.asg 3 (.v 3),.asg 4 (.c (.bool true))]) (.ret))))
theorem c90 : TF E 90 n90 [(3,none),(4,none)] t90 66 := zc (F := f90) rfl (by kernel_rfl) (by decide)

def n93 : List Nat := [0,1,3]
def t93 : TC := .seq (.run 0 [.asg 2 (.c (.bool false))]) (.seq (.run 0 [.asg 2 (.ite (xb .neq 2 5 8 (xn 6 4 (.v 0)) (xn 10 7 (xl 10 6 (xf 0 1 0 (.v 1))))) (.c (.bool true)) (.n (.call 0 (.f
 71) [(.t 11),(.f 112)]) (.cons 11 (.v 0) .nil)))]) (.ret))
theorem c93 : TF E 93 n93 [(2,none)] t93 14 := zc (F := f93) rfl (by kernel_rfl) (by decide)

def n94 : List Nat := [0,1,4]
def t94 : TC := .seq (.run 0 [.asg 2 (.c (.bool false))]) (.seq (.run 0 [.asg 2 (xk .geq 2 7 (.int .i64 0) (.n (.call 0 (.f 113) [(.t 5),(.t 6)]) (.cons 5 (.v 0) (.cons 6 (.v 1) .nil))))])
 (.ret))
theorem c94 : TF E 94 n94 [(2,none)] t94 9 := zc (F := f94) rfl (by kernel_rfl) (by decide)

def n97 : List Nat := [0,1,2,3,5,6,7,8,9,15,20]
def t97 : TC := .seq (.run 0 [u9E 3 (.box 25 (.t 0)) (.cons 0 (.v 0) .nil) none,u9E 4 (.box 7 (.t 2)) (.cons 2 (.v 2) .nil) none,u9E 5 (.alloc 17)
 .nil none,u9A 6 0,.asg 7 (.c (.bool false))]) (.seq (.run 0 [.asg 9 (xl 15 14 (xi 14 12 13 (xl 14 11 (xf 0 10 2 (xf 25 3 0 (.v 3)))) (.v 1))),u9E 8 (.alloc 15) .nil none,.eff none none (.store 15 (.t 9) (.t 15)) (.cons 9 (.v 8) (.cons 15 (.v 9) .nil)) none]) (.seq (.run 0 [u9E 10 (.call 1 (.f 116)
 [(.t 18),(.t 19)]) (.cons 18 (.n (.call 0 (.f 114) [(.t 16),(.t 17)]) (.cons 16 (xl 25 3 (.v 3)) (.cons 17 (.v 1) .nil))) (.cons 19 (.n (.mkfn 115 [(.t 5),(.t 9),(.t 3)])
 (.cons 5 (.v 4) (.cons 9 (.v 8) (.cons 3 (.v 3) .nil)))) .nil)) none,.eff none none (.store 17 (.t 6) (.t 21)) (.cons 6 (.v 5) (.cons 21 (xe 20 0 (.v 10)) .nil)) none,.asg
 6 (xe 20 1 (.v 10)),.asg 7 (xe 20 2 (.v 10))]) (.ret)))
theorem c97 : TF E 97 n97 [(5,some 17),(6,none),(7,none)] t97 24 := zc (F := f97) rfl (by kernel_rfl) (by decide)

def n98 : List Nat := [0,1,2,3,4,5,7,14]
def t98 : TC := .seq (.run 0 [u9E 2 (.box 25 (.t 0)) (.cons 0 (.v 0) .nil) none,u9E 3 (.box 20 (.t 1)) (.cons 1 (.v 1) .nil) none,u9A 4 0]) (.seq
 (.run 0 [.asg 6 (.n (.call 0 (.f 117) [(.t 10),(.t 11),(.f 118)]) (.cons 10 (xl 10 9 (xf 0 8 0 (xf 25 2 0 (.v 2)))) (.cons 11 (xl 20 3 (.v 3)) .nil))),.asg 7 (xe 7 1 (.v
 6)),.asg 5 (xe 7 0 (.v 6))]) (.seq (.run 0 [.asg 4 (.v 5)]) (.ret)))
theorem c98 : TF E 98 n98 [(4,none)] t98 16 := zc (F := f98) rfl (by kernel_rfl) (by decide)

def n102 : List Nat := [0,1,2,4,5,6,8,9,10,11,14,22,26,40,41]
def t102 : TC := .seq (.run 0 [.asg 6 (xl 14 7 (xf 0 1 2 (.v 1))),.asg 7 (xn 14 8 (.v 6)),u9A 8 0]) (.block 0 (.loop (.seq (.run 0 [.asg 9 (xb .lss 2 10 9 (.v 8) (.v 7))])
 (.seq (.cond 9 (.skip) (.exit 0)) (.seq (.block 1 (.seq (.run 0 [.asg 10 (xl 15 13 (xi 14 8 10 (.v 6) (.v 8))),u9E 4 (.alloc 15) .nil none,.asg 3 (.v 8),.eff
 none none (.store 15 (.t 5) (.t 14)) (.cons 5 (.v 4) (.cons 14 (.v 10) .nil)) none]) (.seq (.run 10 [.asg 11 (.n (.call 0 (.f 122) [(.t 18),(.t 21)]) (.cons 18 (xl 17 17 (.n
 (.iaddr 16 (.t 16) (.c (.int .i64 0))) (.cons 16 (xl 16 15 (xf 15 5 3 (.v 4))) .nil))) (.cons 21 (.n (.slice 16 (.t 20) (some (.c (.int .i64 1))) none none) (.cons 20 (xl 16
 19 (xf 15 5 3 (.v 4))) .nil)) .nil))),u9E 5 (.alloc 17) .nil (some 8),.eff none none (.store 17 (.t 6) (.t 22)) (.cons 6 (.v 5) (.cons 22 (.v 11) .nil)) (some
 9)]) (.seq (.seq (.run 0 [.asg 12 (xb .lss 2 23 25 (.v 3) (xn 1 24 (xl 1 2 (.v 2))))]) (.cond 12 (.run 9 [.eff none none (.store 17 (.t 6) (.t 34)) (.cons 6 (.v 5) (.cons 34
 (xl 17 33 (xi 16 28 32 (xl 16 27 (xf 15 5 3 (.v 4))) (xl 2 31 (xi 1 29 30 (xl 1 2 (.v 2)) (.v 3))))) .nil)) (some 8)]) (.skip))) (.seq (.run 0 [u9E 13 (.call 2
 (.t 35) [(.t 38),(.t 39)]) (.cons 35 (.v 0) (.cons 38 (xn 6 37 (xl 6 36 (xf 15 5 2 (.v 4)))) (.cons 39 (xl 17 6 (.v 5)) .nil))) none,.asg 14 (.n (.un .not (.t 40)) (.cons
 40 (.v 13) .nil))]) (.cond 14 (.ret) (.skip))))))) (.run 0 [.asg 8 (xk .add 2 10 (.int .i64 1) (.v 8))]))))))
theorem c102 : TF E 102 n102 [] t102 43 := zc (F := f102) rfl (by kernel_rfl) (by decide)

def n104 : List Nat := [0,1,2,3,4]
def t104 : TC := .seq (.run 0 [u9E 2 (.box 0 (.t 0)) (.cons 0 (.v 0) .nil) none,u9E 3 (.box 6 (.t 1)) (.cons 1 (.v 1) .nil) none,.asg 4 (.c .nilfn)]) (.seq (.run
 0 [.asg 4 (.n (.mkfn 123 [(.t 3),(.t 2)]) (.cons 3 (.v 3) (.cons 2 (.v 2) .nil)))]) (.ret))
theorem c104 : TF E 104 n104 [(4,none)] t104 6 := zc (F := f104) rfl (by kernel_rfl) (by decide)

def n105 : List Nat := [0,2,3,5,6,7,8,9,14]
def t105 : TC := .seq (.run 0 [u9A 1 0]) (.seq (.run 0 [u9A 2 0]) (.seq (.seq (.run 0 [.asg 4 (.v 0),.asg 5 (xn 6 6 (.v 4)),u9A 6 0])
 (.block 0 (.loop (.seq (.run 0 [.asg 7 (xb .lss 2 8 7 (.v 6) (.v 5))]) (.seq (.cond 7 (.skip) (.exit 0)) (.seq (.block 1 (.seq (.run 0 [.asg 3 (xl 2 10 (xi 6 6 8 (.v 4) (.v
 6)))]) (.seq (.run 0 [.asg 8 (xb .neq 2 12 13 (.v 3) (.v 2))]) (.cond 8 (.seq (.run 0 [.asg 1 (.v 3)]) (.ret)) (.skip))))) (.run 0 [.asg 6 (xk .add 2 8 (.int .i64 1) (.v 6))])))))))
 (.seq (.run 0 [.asg 1 (.v 2)]) (.ret))))
theorem c105 : TF E 105 n105 [(1,none)] t105 18 := zc (F := f105) rfl (by kernel_rfl) (by decide)

def n106 : List Nat := [0,1,4,5,7,8,9,16]
def t106 : TC := .seq (.run 0 [u9A 2 0]) (.seq (.seq (.run 0 [.asg 4 (xn 6 6 (.v 0)),u9A 5 0]) (.block 0 (.loop (.seq (.run 0 [.asg 6 (xb .lss 2 8 7 (.v
 5) (.v 4))]) (.seq (.cond 6 (.skip) (.exit 0)) (.seq (.block 1 (.seq (.run 0 [.asg 3 (.v 5)]) (.seq (.run 0 [.asg 7 (.n (.call 0 (.t 11) [(.t 15)]) (.cons 11 (.v 1) (.cons
 15 (xl 2 14 (xi 6 12 13 (.v 0) (.v 3))) .nil)))]) (.cond 7 (.seq (.run 0 [.asg 2 (.v 3)]) (.ret)) (.skip))))) (.run 0 [.asg 5 (xk .add 2 8 (.int .i64 1) (.v 5))]))))))) (.seq
 (.run 0 [.asg 2 (.c (.int .i64 (-1)))]) (.ret)))
theorem c106 : TF E 106 n106 [(2,none)] t106 19 := zc (F := f106) rfl (by kernel_rfl) (by decide)

def n107 : List Nat := [0,2]
def t107 : TC := .seq (.run 0 [.asg 1 (.c (.bool false))]) (.seq (.run 0 [.asg 1 (xb .neq 2 3 4 (.v 0) (.v 0))]) (.ret))
theorem c107 : TF E 107 n107 [(1,none)] t107 6 := zc (F := f107) rfl (by kernel_rfl) (by decide)

def n109 : List Nat := [0,1,3,4,5,9,17]
def t109 : TC := .seq (.run 0 [u9E 2 (.box 20 (.t 1)) (.cons 1 (.v 1) .nil) none,u9A 3 0]) (.seq (.seq (.run 0 [u9A 4 0]) (.block 0 (.loop
 (.seq (.seq (.run 0 [.asg 5 (xb .lss 2 6 8 (.v 4) (xn 10 7 (.v 0)))]) (.cond 5 (.skip) (.exit 0))) (.seq (.block 1 (.seq (.run 6 [.asg 6 (xb .eql 20 15 16 (xl 20 14 (xi 10
 12 13 (.v 0) (.v 4))) (xl 20 3 (.v 2)))]) (.cond 6 (.seq (.run 0 [.asg 3 (.v 4)]) (.ret)) (.skip)))) (.run 0 [.asg 4 (xk .add 2 10 (.int .i64 1) (.v 4))])))))) (.seq (.run
 0 [.asg 3 (.c (.int .i64 (-1)))]) (.ret)))
theorem c109 : TF E 109 n109 [(3,none)] t109 19 := zc (F := f109) rfl (by kernel_rfl) (by decide)

def n110 : List Nat := [0,1,2,4,5,6,7,8,11,12,13,14,18,19,20,21,43,45]
def t110 : TC := .seq (.run 0 [.asg 8 (.n (.call 0 (.f 68) [(.t 9),(.t 10)]) (.cons 9 (xl 0 1 (.v 1)) (.cons 10 (xl 6 2 (.v 2)) .nil))),.asg 9 (xn 9 11 (.v 8)),u9A 10 0])
 (.block 0 (.loop (.seq (.run 0 [.asg 11 (xb .lss 2 13 12 (.v 10) (.v 9))]) (.seq (.cond 11 (.skip) (.exit 0)) (.seq (.block 1 (.seq (.run 0 [.asg 3 (.v 10),.asg 4 (xl 6 16
 (xi 9 11 13 (.v 8) (.v 10)))]) (.seq (.run 0 [.asg 12 (.v 4),.asg 13 (xn 6 18 (.v 12)),u9A 14 0]) (.block 2 (.loop (.seq (.run 0 [.asg 15 (xb .lss 2 20
 19 (.v 14) (.v 13))]) (.seq (.cond 15 (.skip) (.exit 2)) (.seq (.block 3 (.seq (.run 0 [.asg 5 (.v 14),.asg 6 (xl 2 23 (xi 6 18 20 (.v 12) (.v 14)))]) (.seq (.run 0 [.asg
 7 (xb .sub 2 25 33 (.v 6) (xl 2 32 (xi 6 30 31 (xl 6 29 (xi 9 27 28 (xl 9 26 (xf 0 1 1 (.v 1))) (.v 3))) (.v 5))))]) (.seq (.run 0 [.eff (some ((xk .gtr 2 35 (.int .i64 0)
 (.v 7)),true)) (some 16) (.call 2 (.t 38) [(.t 41),(.t 42)]) (.cons 38 (.v 0) (.cons 41 (.n (.build 11 [(0,(.t 39)),(1,(.t 40))]) (.cons 39 (.v 3) (.cons 40 (.v 5) .nil)))
 (.cons 42 (.v 7) .nil))) none,.asg 17 (.ite (xk .gtr 2 35 (.int .i64 0) (.v 7)) (.n (.un .not (.t 43)) (.cons 43 (.v 16) .nil)) (.c (.bool false)))]) (.cond 17 (.ret) (.skip))))))
 (.run 0 [.asg 14 (xk .add 2 20 (.int .i64 1) (.v 14))]))))))))) (.run 0 [.asg 10 (xk .add 2 13 (.int .i64 1) (.v 10))]))))))
theorem c110 : TF E 110 n110 [] t110 48 := zc (F := f110) rfl (by kernel_rfl) (by decide)

def n112 : List Nat := [0,2]
def t112 : TC := .seq (.run 0 [.asg 1 (.c (.bool false))]) (.seq (.run 0 [.asg 1 (.ite (xk .lss 2 3 (.int .i64 0) (.v 0)) (.c (.bool true)) (xk .gtr 2 6 (.int .i64 65536) (.v 0)))]) (.ret))
theorem c112 : TF E 112 n112 [(1,none)] t112 9 := zc (F := f112) rfl (by kernel_rfl) (by decide)

def n113 : List Nat := [0,1,4,5,7,8,9,16]
def t113 : TC := .seq (.run 0 [u9A 2 0]) (.seq (.seq (.run 0 [.asg 4 (xn 9 6 (.v 0)),u9A 5 0]) (.block 0 (.loop (.seq (.run 0 [.asg 6 (xb .lss 2 8 7 (.v
 5) (.v 4))]) (.seq (.cond 6 (.skip) (.exit 0)) (.seq (.block 1 (.seq (.run 0 [.asg 3 (.v 5)]) (.seq (.run 0 [.asg 7 (.n (.call 0 (.t 11) [(.t 15)]) (.cons 11 (.v 1) (.cons
 15 (xl 6 14 (xi 9 12 13 (.v 0) (.v 3))) .nil)))]) (.cond 7 (.seq (.run 0 [.asg 2 (.v 3)]) (.ret)) (.skip))))) (.run 0 [.asg 5 (xk .add 2 8 (.int .i64 1) (.v 5))]))))))) (.seq
 (.run 0 [.asg 2 (.c (.int .i64 (-1)))]) (.ret)))
theorem c113 : TF E 113 n113 [(2,none)] t113 19 := zc (F := f113) rfl (by kernel_rfl) (by decide)

def n114 : List Nat := [0,1,2,3,4]
def t114 : TC := .seq (.run 0 [u9E 2 (.box 25 (.t 0)) (.cons 0 (.v 0) .nil) none,u9E 3 (.box 2 (.t 1)) (.cons 1 (.v 1) .nil) none,.asg 4 (.c .nilfn)]) (.seq (.run
 0 [.asg 4 (.n (.mkfn 124 [(.t 2),(.t 3)]) (.cons 2 (.v 2) (.cons 3 (.v 3) .nil)))]) (.ret))
theorem c114 : TF E 114 n114 [(4,none)] t114 6 := zc (F := f114) rfl (by kernel_rfl) (by decide)

def n115 : List Nat := [0,1,2,3,4,5,7,8,10,11,19,20,21,22,24,30,31,32,33]
def t115 : TC := .seq (.run 0 [u9E 4 (.box 17 (.t 0)) (.cons 0 (.v 0) .nil) none,u9A 5 0]) (.seq (.seq (.run 0 [.asg 9 (xl 7 1 (.v 1))]) (.cond 9 (.run 0 [.asg
 5 (xb .mul 2 13 16 (xl 2 12 (xf 17 4 1 (.v 4))) (xn 6 15 (xl 6 14 (xf 15 2 2 (.v 2)))))]) (.skip))) (.seq (.seq (.run 0 [.asg 10 (xl 18 18 (xf 17 4 3 (.v 4))),.asg 11 (xn
 18 19 (.v 10)),u9A 12 0]) (.block 0 (.loop (.seq (.run 0 [.asg 13 (xb .lss 2 21 20 (.v 12) (.v 11))]) (.seq (.cond 13 (.skip) (.exit 0)) (.seq (.block 1
 (.seq (.run 0 [.asg 14 (xl 19 23 (xi 18 19 21 (.v 10) (.v 12))),u9E 6 (.alloc 19) .nil none,.eff none none (.store 19 (.t 7) (.t 24)) (.cons 7 (.v 6) (.cons
 24 (.v 14) .nil)) none]) (.seq (.run 0 [.asg 7 (.n (.call 0 (.f 98) [(.t 25),(.t 27)]) (.cons 25 (xl 25 3 (.v 3)) (.cons 27 (xl 20 26 (xf 19 7 0 (.v 6))) .nil)))]) (.seq (.run
 0 [.asg 15 (xl 6 29 (xf 15 2 2 (.v 2))),.asg 16 (xn 6 30 (.v 15)),u9A 17 0]) (.block 2 (.loop (.seq (.run 0 [.asg 18 (xb .lss 2 32 31 (.v 17) (.v 16))])
 (.seq (.cond 18 (.skip) (.exit 2)) (.seq (.block 3 (.seq (.run 0 [.asg 8 (xl 2 34 (xi 6 30 32 (.v 15) (.v 17)))]) (.run 14 [.asg 5 (xb .add 2 36 47 (.v 5) (xb .mul 2 44 46
 (xl 2 43 (xi 6 41 42 (xl 6 40 (xi 9 38 39 (xl 9 37 (xf 25 3 3 (.v 3))) (.v 8))) (.v 7))) (xl 2 45 (xf 19 7 1 (.v 6)))))]))) (.run 0 [.asg 17 (xk .add 2 32 (.int .i64 1) (.v
 17))])))))))))) (.run 0 [.asg 12 (xk .add 2 21 (.int .i64 1) (.v 12))]))))))) (.seq (.run 0 [.asg 5 (.v 5)]) (.ret))))
theorem c115 : TF E 115 n115 [(5,none)] t115 52 := zc (F := f115) rfl (by kernel_rfl) (by decide)

def n116 : List Nat := [0,1,3,4,5,6,7,8,9,10,20,24,25]
def t116 : TC := .seq (.run 0 [u9E 2 (.box 27 (.t 1)) (.cons 1 (.v 1) .nil) none,u9E 3 (.alloc 17) .nil none,u9E 4 (.alloc 2) .nil none,u9E 5 (.alloc 7) .nil none]) (.seq (.seq (.run 0 [.asg 8 (.v 0)]) (.block 0 (.rfunc 8 [9] (.run 0 [u9E 6 (.alloc 17) .nil none,.eff none none (.store 17 (.t 7) (.t
 10)) (.cons 7 (.v 6) (.cons 10 (.v 9) .nil)) none]) (.block 1 (.seq (.run 0 [.asg 7 (.n (.call 0 (.t 11) [(.t 12)]) (.cons 11 (xl 27 3 (.v 2)) (.cons 12 (xl 17 7 (.v 6)) .nil)))])
 (.seq (.run 0 [.asg 10 (.ite (.n (.un .not (.t 14)) (.cons 14 (xl 7 6 (.v 5)) .nil)) (.c (.bool true)) (xb .lss 2 17 18 (.v 7) (xl 2 5 (.v 4))))]) (.cond 10 (.run 0 [.eff none
 none (.store 17 (.t 4) (.t 21)) (.cons 4 (.v 3) (.cons 21 (xl 17 7 (.v 6)) .nil)) none,.eff none none (.store 2 (.t 5) (.t 22)) (.cons 5 (.v 4) (.cons 22 (.v 7) .nil)) none,
 .eff none none (.store 7 (.t 6) (.c (.bool true))) (.cons 6 (.v 5) .nil) none]) (.skip)))))))) (.seq (.seq (.run 6 [.asg 11 (xl 2 5 (.v 4)),.asg 12 (xl 7 6 (.v 5)),.eff none
 none (.store 17 (.t 4) (.t 23)) (.cons 4 (.v 3) (.cons 23 (xl 17 4 (.v 3)) .nil)) (some 3),.eff none none (.store 2 (.t 5) (.t 24)) (.cons 5 (.v 4) (.cons 24 (.v 11) .nil))
 (some 4),.eff none none (.store 7 (.t 6) (.t 25)) (.cons 6 (.v 5) (.cons 25 (.v 12) .nil)) (some 5)]) (.chk [(4,3),(5,3),(5,4)])) (.ret)))
theorem c116 : TF E 116 n116 [(3,some 17),(4,some 2),(5,some 7)] t116 26 := zc (F := f116) rfl (by kernel_rfl) (by decide)

def n117 : List Nat := [0,1,2,4,6,7,8,9,10,11,17,31]
def t117 : TC := .seq (.run 0 [u9E 3 (.box 20 (.t 1)) (.cons 1 (.v 1) .nil) none,u9A 4 0,.asg 5 (.c (.bool false))]) (.seq (.run 0 [.asg 6 (xn 10 12 (.v 0))])
 (.seq (.run 0 [u9A 7 0,.asg 8 (.v 6)]) (.seq (.block 0 (.loop (.seq (.seq (.run 0 [.asg 10 (xb .lss 2 15 16 (.v 7) (.v 8))]) (.cond 10 (.skip) (.exit 0)))
 (.block 1 (.seq (.run 0 [.asg 9 (.n (.conv 12 2 (.t 22)) (.cons 22 (xk .shr 12 21 (.int .u64 1) (.n (.conv 2 12 (.t 20)) (.cons 20 (xb .add 2 18 19 (.v 7) (.v 8)) .nil))) .nil))])
 (.seq (.run 8 [.asg 11 (xk .lss 2 30 (.int .i64 0) (.n (.call 0 (.t 24) [(.t 28),(.t 29)]) (.cons 24 (.v 2) (.cons 28 (xl 20 27 (xi 10 25 26 (.v 0) (.v 9))) (.cons 29 (xl
 20 4 (.v 3)) .nil)))))]) (.cond 11 (.run 0 [.asg 7 (xk .add 2 32 (.int .i64 1) (.v 9))]) (.run 0 [.asg 8 (.v 9)])))))))) (.seq (.run 16 [.asg 4 (.v 7),.asg 5 (.ite (xb .lss
 2 36 37 (.v 7) (.v 6)) (xk .eql 2 46 (.int .i64 0) (.n (.call 0 (.t 40) [(.t 44),(.t 45)]) (.cons 40 (.v 2) (.cons 44 (xl 20 43 (xi 10 41 42 (.v 0) (.v 7))) (.cons 45 (xl
 20 4 (.v 3)) .nil))))) (.c (.bool false)))]) (.ret)))))
theorem c117 : TF E 117 n117 [(4,none),(5,none)] t117 49 := zc (F := f117) rfl (by kernel_rfl) (by decide)

def n118 : List Nat := [0,1,2,3,4,5]
def t118 : TC := .seq (.run 0 [u9E 2 (.box 20 (.t 0)) (.cons 0 (.v 0) .nil) none,u9E 3 (.box 20 (.t 1)) (.cons 1 (.v 1) .nil) none,u9A 4 0]) (.seq
 (.run 0 [.asg 5 (.c (.fn 125 []))]) (.seq (.run 20 [.asg 4 (.n (.call 0 (.f 105) [(.t 23)]) (.cons 23 (.n (.bslice false 6 3 [(0,(.t 12)),(1,(.t 17)),(2,(.t 22))]) (.cons
 12 (.n (.call 0 (.f 74) [(.t 8),(.t 11)]) (.cons 8 (.n (.call 0 (.t 6) [(.t 7)]) (.cons 6 (.v 5) (.cons 7 (xl 20 2 (.v 2)) .nil))) (.cons 11 (.n (.call 0 (.t 9) [(.t 10)])
 (.cons 9 (.v 5) (.cons 10 (xl 20 3 (.v 3)) .nil))) .nil))) (.cons 17 (.n (.call 0 (.f 74) [(.t 14),(.t 16)]) (.cons 14 (xl 2 13 (xf 20 2 1 (.v 2))) (.cons 16 (xl 2 15 (xf
 20 3 1 (.v 3))) .nil))) (.cons 22 (.n (.call 0 (.f 74) [(.t 19),(.t 21)]) (.cons 19 (xl 2 18 (xf 20 2 2 (.v 2))) (.cons 21 (xl 2 20 (xf 20 3 2 (.v 3))) .nil))) .nil)))) .nil))])
 (.ret)))
theorem c118 : TF E 118 n118 [(4,none)] t118 25 := zc (F := f118) rfl (by kernel_rfl) (by decide)

def n122 : List Nat := [0,1,2,4,6,7,8,9,10,12]
def t122 : TC := .seq (.run 0 [u9E 2 (.box 17 (.t 0)) (.cons 0 (.v 0) .nil) none,u9E 3 (.alloc 17) .nil none]) (.seq (.seq (.run 0 [.asg 5 (.v 1),.asg 6 (xn 16 7
 (.v 5)),u9A 7 0]) (.block 0 (.loop (.seq (.run 0 [.asg 8 (xb .lss 2 9 8 (.v 7) (.v 6))]) (.seq (.cond 8 (.skip) (.exit 0)) (.seq (.block 1 (.seq (.run 0
 [.asg 9 (xl 17 11 (xi 16 7 9 (.v 5) (.v 7))),u9E 4 (.alloc 17) .nil none,.eff none none (.store 17 (.t 6) (.t 12)) (.cons 6 (.v 4) (.cons 12 (.v 9) .nil)) none])
 (.seq (.run 0 [.eff none none (.store 2 (.t 18) (.t 17)) (.cons 18 (xf 17 2 0 (.v 2)) (.cons 17 (.n (.mini [(.t 14),(.t 16)]) (.cons 14 (xl 2 13 (xf 17 2 0 (.v 2))) (.cons
 16 (xl 2 15 (xf 17 6 0 (.v 4))) .nil))) .nil)) none]) (.seq (.run 0 [.eff none none (.store 2 (.t 24) (.t 23)) (.cons 24 (xf 17 2 1 (.v 2)) (.cons 23 (.n (.mini [(.t 20),(.t
 22)]) (.cons 20 (xl 2 19 (xf 17 2 1 (.v 2))) (.cons 22 (xl 2 21 (xf 17 6 1 (.v 4))) .nil))) .nil)) none]) (.run 0 [.eff none none (.store 2 (.t 30) (.t 29)) (.cons 30 (xf 17
 2 2 (.v 2)) (.cons 29 (.n (.mini [(.t 26),(.t 28)]) (.cons 26 (xl 2 25 (xf 17 2 2 (.v 2))) (.cons 28 (xl 2 27 (xf 17 6 2 (.v 4))) .nil))) .nil)) none]))))) (.run 0 [.asg 7
 (xk .add 2 9 (.int .i64 1) (.v 7))]))))))) (.seq (.run 0 [.eff none none (.store 17 (.t 4) (.t 32)) (.cons 4 (.v 3) (.cons 32 (xl 17 2 (.v 2)) .nil)) none]) (.ret)))
theorem c122 : TF E 122 n122 [(3,some 17)] t122 33 := zc (F := f122) rfl (by kernel_rfl) (by decide)

def n123 : List Nat := [0,1,2,4,5,7,9,10,11,12,13,22,23,24,25,37,38,39,40,42,46,47]
def t123 : TC := .seq (.run 0 [.asg 7 (xl 6 1 (.v 1)),.asg 8 (xn 6 10 (.v 7)),u9A 9 0]) (.block 0 (.loop (.seq (.run 0 [.asg 10 (xb .lss 2 12 11 (.v 9) (.v 8))]) (.seq (.cond
 10 (.skip) (.exit 0)) (.seq (.block 1 (.seq (.run 0 [.asg 3 (.v 9),.asg 4 (xl 2 15 (xi 6 10 12 (.v 7) (.v 9)))]) (.seq (.run 0 [.asg 11 (xl 6 21 (xf 15 20 2 (xi 14 18 19 (xl
 14 17 (xf 0 2 2 (.v 2))) (.v 3)))),.asg 12 (xn 6 22 (.v 11)),u9A 13 0]) (.block 2 (.loop (.seq (.run 0 [.asg 14 (xb .lss 2 24 23 (.v 13) (.v 12))]) (.seq
 (.cond 14 (.skip) (.exit 2)) (.seq (.block 3 (.seq (.run 0 [.asg 5 (xl 2 26 (xi 6 22 24 (.v 11) (.v 13)))]) (.seq (.run 0 [.asg 15 (xl 18 36 (xf 17 35 3 (xi 16 33 34 (xl 16
 32 (xf 15 31 3 (xi 14 29 30 (xl 14 28 (xf 0 2 2 (.v 2))) (.v 3)))) (.v 4)))),.asg 16 (xn 18 37 (.v 15)),u9A 17 0]) (.block 4 (.loop (.seq (.run 0 [.asg
 18 (xb .lss 2 39 38 (.v 17) (.v 16))]) (.seq (.cond 18 (.skip) (.exit 4)) (.seq (.block 5 (.seq (.run 0 [.asg 19 (xl 19 41 (xi 18 37 39 (.v 15) (.v 17))),u9E 6
 (.alloc 19) .nil none,.eff none none (.store 19 (.t 9) (.t 42)) (.cons 9 (.v 6) (.cons 42 (.v 19) .nil)) none]) (.seq (.run 0 [u9E 20 (.call 2 (.t 43) [(.t 44),
 (.t 45)]) (.cons 43 (.v 0) (.cons 44 (.v 5) (.cons 45 (xl 19 9 (.v 6)) .nil))) none,.asg 21 (.n (.un .not (.t 46)) (.cons 46 (.v 20) .nil))]) (.cond 21 (.ret) (.skip)))))
 (.run 0 [.asg 17 (xk .add 2 39 (.int .i64 1) (.v 17))]))))))))) (.run 0 [.asg 13 (xk .add 2 24 (.int .i64 1) (.v 13))]))))))))) (.run 0 [.asg 9 (xk .add 2 12 (.int .i64 1)
 (.v 9))]))))))
theorem c123 : TF E 123 n123 [] t123 51 := zc (F := f123) rfl (by kernel_rfl) (by decide)

def n124 : List Nat := [0,1,2,4,5,12,13,14,15,18,40,43,45]
def t124 : TC := .seq (.run 0 [.asg 5 (xl 16 11 (xf 15 10 3 (xi 14 8 9 (xl 14 7 (xf 0 6 2 (xf 25 1 0 (.v 1)))) (xl 2 2 (.v 2))))),.asg 6 (xn 16 12 (.v 5)),u9A 7 0]) (.block
 0 (.loop (.seq (.run 0 [.asg 8 (xb .lss 2 14 13 (.v 7) (.v 6))]) (.seq (.cond 8 (.skip) (.exit 0)) (.seq (.block 1 (.seq (.run 0 [.asg 9 (xl 17 17 (xi 16 12 14 (.v 5) (.v 7))),
 u9E 4 (.alloc 17) .nil none,.asg 3 (.v 7),.eff none none (.store 17 (.t 5) (.t 18)) (.cons 5 (.v 4) (.cons 18 (.v 9) .nil)) none]) (.seq (.run 0 [.asg 10 (.ite
 (xb .leq 2 20 22 (xl 2 19 (xf 17 5 0 (.v 4))) (xl 2 21 (xf 25 1 2 (.v 1)))) (.ite (xb .geq 2 25 28 (xl 2 2 (.v 2)) (xn 1 27 (xl 1 26 (xf 25 1 1 (.v 1))))) (.c (.bool true))
 (xb .eql 2 35 36 (xl 2 34 (xi 1 32 33 (xl 1 31 (xf 25 1 1 (.v 1))) (xl 2 2 (.v 2)))) (.v 3))) (.c (.bool false))),.eff (some ((.v 10),true)) (some 11) (.call 2 (.t 41) [(.t
 42)]) (.cons 41 (.v 0) (.cons 42 (xl 17 5 (.v 4)) .nil)) none,.asg 12 (.ite (.v 10) (.n (.un .not (.t 43)) (.cons 43 (.v 11) .nil)) (.c (.bool false)))]) (.cond 12 (.ret)
 (.skip))))) (.run 0 [.asg 7 (xk .add 2 14 (.int .i64 1) (.v 7))]))))))
theorem c124 : TF E 124 n124 [] t124 47 := zc (F := f124) rfl (by kernel_rfl) (by decide)

def n125 : List Nat := [0,1,2,4]
def t125 : TC := .seq (.run 0 [u9E 1 (.box 20 (.t 0)) (.cons 0 (.v 0) .nil) none,u9A 2 0]) (.seq (.seq (.run 0 [.asg 3 (xl 7 3 (xf 20 1 0 (.v 1)))]) (.cond 3
 (.seq (.run 0 [u9A 2 1]) (.ret)) (.skip))) (.seq (.run 0 [u9A 2 0]) (.ret)))
theorem c125 : TF E 125 n125 [(2,none)] t125 5 := zc (F := f125) rfl (by kernel_rfl) (by decide)

def n159 : List Nat := [0,1,4]
def t159 : TC := .seq (.run 0 [.asg 2 (.c (.bool false))]) (.seq (.run 0 [.asg 2 (xk .geq 2 7 (.int .i64 0) (.n (.call 0 (.f 173) [(.t 5),(.t 6)]) (.cons 5 (.v 0) (.cons 6 (.v 1) .nil))))])
 (.ret))
theorem c159 : TF E 159 n159 [(2,none)] t159 9 := zc (F := f159) rfl (by kernel_rfl) (by decide)

def n162 : List Nat := [0,1,4,5,10,12,13,14,24]
def t162 : TC := .seq (.run 0 [.asg 2 (.c (.bool false))]) (.seq (.seq (.run 0 [.asg 4 (xb .neq 2 7 9 (xn 6 6 (.v 0)) (xn 6 8 (.v 1)))]) (.cond 4 (.seq (.run 0 [.asg 2 (.c (.bool false))])
 (.ret)) (.skip))) (.seq (.seq (.run 0 [.asg 5 (xn 6 11 (.v 0)),u9A 6 0]) (.block 0 (.loop (.seq (.run 0 [.asg 7 (xb .lss 2 13 12 (.v 6) (.v 5))]) (.seq (.cond
 7 (.skip) (.exit 0)) (.seq (.block 1 (.seq (.run 0 [.asg 3 (.v 6)]) (.seq (.run 9 [.asg 8 (xb .neq 2 19 23 (xl 2 18 (xi 6 16 17 (.v 0) (.v 3))) (xl 2 22 (xi 6 20 21 (.v 1)
 (.v 3))))]) (.cond 8 (.seq (.run 0 [.asg 2 (.c (.bool false))]) (.ret)) (.skip))))) (.run 0 [.asg 6 (xk .add 2 13 (.int .i64 1) (.v 6))]))))))) (.seq (.run 0 [.asg 2 (.c (.bool
 true))]) (.ret))))
theorem c162 : TF E 162 n162 [(2,none)] t162 26 := zc (F := f162) rfl (by kernel_rfl) (by decide)

def n173 : List Nat := [0,1,4,5,7,8,9,16]
def t173 : TC := .seq (.run 0 [u9A 2 0]) (.seq (.seq (.run 0 [.asg 4 (xn 4 6 (.v 0)),u9A 5 0]) (.block 0 (.loop (.seq (.run 0 [.asg 6 (xb .lss 2 8 7 (.v
 5) (.v 4))]) (.seq (.cond 6 (.skip) (.exit 0)) (.seq (.block 1 (.seq (.run 0 [.asg 3 (.v 5)]) (.seq (.run 0 [.asg 7 (.n (.call 0 (.t 11) [(.t 15)]) (.cons 11 (.v 1) (.cons
 15 (xl 1 14 (xi 4 12 13 (.v 0) (.v 3))) .nil)))]) (.cond 7 (.seq (.run 0 [.asg 2 (.v 3)]) (.ret)) (.skip))))) (.run 0 [.asg 5 (xk .add 2 8 (.int .i64 1) (.v 5))]))))))) (.seq
 (.run 0 [.asg 2 (.c (.int .i64 (-1)))]) (.ret)))
theorem c173 : TF E 173 n173 [(2,none)] t173 19 := zc (F := f173) rfl (by kernel_rfl) (by decide)

def n213 : List Nat := [0,1,2,3,8,17]
def t213 : TC := .seq (.run 0 [u9E 1 (.box 29 (.t 0)) (.cons 0 (.v 0) .nil) none,.asg 2 (.c (.bool false))]) (.seq (.seq (.run 0 [u9A 3 0]) (.block 0 (.loop
 (.seq (.seq (.run 0 [.asg 4 (xb .lss 2 4 7 (.v 3) (xn 31 6 (xl 31 5 (xf 29 1 2 (.v 1)))))]) (.cond 4 (.skip) (.exit 0))) (.seq (.block 1 (.seq (.run 0 [.asg 5 (.n (.un .not
 (.t 16)) (.cons 16 (.n (.call 0 (.f 223) [(.t 15)]) (.cons 15 (xl 32 14 (xi 31 12 13 (xl 31 11 (xf 29 1 2 (.v 1))) (.v 3))) .nil)) .nil))]) (.cond 5 (.seq (.run 0 [.asg 2 (.c
 (.bool false))]) (.ret)) (.skip)))) (.run 0 [.asg 3 (xk .add 2 9 (.int .i64 1) (.v 3))])))))) (.seq (.run 0 [.asg 2 (.ite (.ite (xk .leq 2 20 (.int .i64 20) (xn 6 19 (xl 6
 18 (xf 29 1 0 (.v 1))))) (xk .leq 2 25 (.int .i64 20) (xn 6 24 (xl 6 23 (xf 29 1 1 (.v 1))))) (.c (.bool false))) (xk .leq 2 31 (.int .i64 400) (xn 31 30 (xl 31 29 (xf 29 1
 2 (.v 1))))) (.c (.bool false)))]) (.ret)))
theorem c213 : TF E 213 n213 [(2,none)] t213 34 := zc (F := f213) rfl (by kernel_rfl) (by decide)

def n216 : List Nat := [0,1,2,3,4,5,6,8,9,11,12,13,21,26,28,29,30,31,33,38,40,47,49,51,52,53,54,56,62]
def t216 : TC := .seq (.run 0 [u9E 2 (.box 0 (.t 0)) (.cons 0 (.v 0) .nil) none,u9E 3 (.box 29 (.t 1)) (.cons 1 (.v 1) .nil) none,u9E 4 (.alloc 3) .nil
 none]) (.seq (.run 0 [.asg 10 (.n (.mkfn 227 [(.t 4)]) (.cons 4 (.v 4) .nil))]) (.seq (.run 0 [.asg 11 (.n (.call 0 (.f 22) [(.t 14),(.t 16)]) (.cons 14 (xl 0 2 (.v 2)) (.cons
 16 (xl 6 15 (xf 29 3 0 (.v 3))) .nil))),.asg 5 (xe 13 0 (.v 11)),.eff none none (.store 3 (.t 4) (.t 19)) (.cons 4 (.v 4) (.cons 19 (xe 13 1 (.v 11)) .nil)) none]) (.seq
 (.seq (.run 0 [u9E 12 (.call 5 (.f 228) [(.t 20)]) (.cons 20 (xl 3 4 (.v 4)) .nil) none]) (.ifp 12 (.seq (.run 0 [.asg 12 (xe 21 1 (.v 12)),.asg 12 (.n (.field
 44 (.t 21) 0) (.cons 21 (.v 12) .nil)),.eff none none (.store 3 (.t 4) (.t 21)) (.cons 4 (.v 4) (.cons 21 (.v 12) .nil)) none]) (.ret)) (.run 0 []))) (.seq (.seq (.run 0 [u9E 13 (.call 5 (.f 229) [(.t 25),(.c (.int .i64 310))]) (.cons 25 (.n (.call 0 (.f 162) [(.t 22),(.t 24)]) (.cons 22 (.v 5) (.cons 24 (xl 6 23 (xf 29 3 1 (.v 3)))
 .nil))) .nil) none]) (.ifp 13 (.seq (.run 0 [.asg 13 (xe 26 1 (.v 13)),.asg 13 (.n (.field 44 (.t 26) 0) (.cons 26 (.v 13) .nil)),.eff none none (.store 3 (.t 4) (.t 26))
 (.cons 4 (.v 4) (.cons 26 (.v 13) .nil)) none]) (.ret)) (.run 0 []))) (.seq (.run 0 [.asg 6 (.c (.imm .exact []))]) (.seq (.seq (.run 0 [.asg 14 (xl 31 27 (xf 29 3 2 (.v 3))),
 .asg 15 (xn 31 28 (.v 14)),u9A 16 0]) (.block 0 (.loop (.seq (.run 0 [.asg 17 (xb .lss 2 30 29 (.v 16) (.v 15))]) (.seq (.cond 17 (.skip) (.exit 0)) (.seq
 (.block 1 (.seq (.run 0 [.asg 18 (xl 32 32 (xi 31 28 30 (.v 14) (.v 16))),u9E 7 (.alloc 32) .nil none,.eff none none (.store 32 (.t 8) (.t 33)) (.cons 8 (.v
 7) (.cons 33 (.v 18) .nil)) none]) (.run 0 [u9E 19 (.append 0 4 4 (.t 34) (.t 37)) (.cons 34 (.v 6) (.cons 37 (.n (.bslice false 4 1 [(0,(.t 36))]) (.cons 36
 (xl 1 35 (xf 32 8 0 (.v 7))) .nil)) .nil)) none,.asg 6 (.v 19)]))) (.run 0 [.asg 16 (xk .add 2 30 (.int .i64 1) (.v 16))]))))))) (.seq (.run 0 [.asg 20 (.n (.call 0 (.f 230)
 [(.t 41),(.t 42)]) (.cons 41 (xl 0 2 (.v 2)) (.cons 42 (.v 6) .nil))),.asg 8 (xe 40 0 (.v 20)),.eff none none (.store 3 (.t 4) (.t 45)) (.cons 4 (.v 4) (.cons 45 (xe 40
 1 (.v 20)) .nil)) none]) (.seq (.seq (.run 0 [u9E 21 (.call 5 (.f 228) [(.t 46)]) (.cons 46 (xl 3 4 (.v 4)) .nil) none]) (.ifp 21 (.seq (.run 0 [.asg 21 (xe 47
 1 (.v 21)),.asg 21 (.n (.field 44 (.t 47) 0) (.cons 47 (.v 21) .nil)),.eff none none (.store 3 (.t 4) (.t 47)) (.cons 4 (.v 4) (.cons 47 (.v 21) .nil)) none]) (.ret)) (.run
 0 []))) (.seq (.seq (.run 0 [u9E 22 (.call 5 (.f 229) [(.t 48),(.c (.int .i64 310))]) (.cons 48 (.v 8) .nil) none]) (.ifp 22 (.seq (.run 0 [.asg 22 (xe 49 1 (.v
 22)),.asg 22 (.n (.field 44 (.t 49) 0) (.cons 49 (.v 22) .nil)),.eff none none (.store 3 (.t 4) (.t 49)) (.cons 4 (.v 4) (.cons 49 (.v 22) .nil)) none]) (.ret)) (.run 0 [])))
 (.seq (.seq (.run 0 [.asg 23 (xl 31 50 (xf 29 3 2 (.v 3))),.asg 24 (xn 31 51 (.v 23)),u9A 25 0]) (.block 2 (.loop (.seq (.run 0 [.asg 26 (xb .lss 2 53 52
 (.v 25) (.v 24))]) (.seq (.cond 26 (.skip) (.exit 2)) (.seq (.block 3 (.seq (.run 0 [.asg 27 (xl 32 55 (xi 31 51 53 (.v 23) (.v 25))),u9E 9 (.alloc 32) .nil none,
 .eff none none (.store 32 (.t 11) (.t 56)) (.cons 11 (.v 9) (.cons 56 (.v 27) .nil)) none]) (.seq (.run 0 [u9E 28 (.call 5 (.f 228) [(.t 61)]) (.cons 61 (.n (.call
 0 (.f 231) [(.t 57),(.t 59),(.t 60)]) (.cons 57 (xl 0 2 (.v 2)) (.cons 59 (xl 6 58 (xf 29 3 0 (.v 3))) (.cons 60 (xl 32 11 (.v 9)) .nil)))) .nil) none]) (.ifp 28 (.seq (.run
 0 [.asg 28 (xe 62 1 (.v 28)),.asg 28 (.n (.field 44 (.t 62) 0) (.cons 62 (.v 28) .nil)),.eff none none (.store 3 (.t 4) (.t 62)) (.cons 4 (.v 4) (.cons 62 (.v 28) .nil))
 none]) (.ret)) (.run 0 []))))) (.run 0 [.asg 25 (xk .add 2 53 (.int .i64 1) (.v 25))]))))))) (.seq (.run 0 [.eff none none (.store 3 (.t 4) (.c (.int .i64 0))) (.cons 4 (.v
 4) .nil) none]) (.ret))))))))))))
theorem c216 : TF E 216 n216 [(4,some 3)] t216 64 := zc (F := f216) rfl (by kernel_rfl) (by decide)

def n223 : List Nat := [0,1,2,3,8,17]
def t223 : TC := .seq (.run 0 [u9E 1 (.box 32 (.t 0)) (.cons 0 (.v 0) .nil) none,.asg 2 (.c (.bool false))]) (.seq (.seq (.run 0 [u9A 3 0]) (.block 0 (.loop
 (.seq (.seq (.run 0 [.asg 4 (xb .lss 2 4 7 (.v 3) (xn 9 6 (xl 9 5 (xf 32 1 2 (.v 1)))))]) (.cond 4 (.skip) (.exit 0))) (.seq (.block 1 (.seq (.run 0 [.asg 5 (xk .gtr 2 16 (.int
 .i64 20) (xn 6 15 (xl 6 14 (xi 9 12 13 (xl 9 11 (xf 32 1 2 (.v 1))) (.v 3)))))]) (.cond 5 (.seq (.run 0 [.asg 2 (.c (.bool false))]) (.ret)) (.skip)))) (.run 0 [.asg 3 (xk
 .add 2 9 (.int .i64 1) (.v 3))])))))) (.seq (.run 0 [.asg 2 (.ite (xk .leq 2 20 (.int .i64 20) (xn 1 19 (xl 1 18 (xf 32 1 0 (.v 1))))) (xk .leq 2 25 (.int .i64 8) (xn 9 24
 (xl 9 23 (xf 32 1 2 (.v 1))))) (.c (.bool false)))]) (.ret)))
theorem c223 : TF E 223 n223 [(2,none)] t223 28 := zc (F := f223) rfl (by kernel_rfl) (by decide)

def n228 : List Nat := [0,5]
def t228 : TC := .seq (.run 0 [u9E 1 (.call 5 (.f 229) [(.t 3),(.t 4)]) (.cons 3 (xk .eql 3 2 (.int .i64 0) (.v 0)) (.cons 4 (.v 0) .nil)) none]) (.ifp 1 (.exit 1000005) (.run
 0 []))
theorem c228 : TF E 228 n228 [] t228 6 := zc (F := f228) rfl (by kernel_rfl) (by decide)

def n229 : List Nat := [0,1,5,8]
def t229 : TC := .seq (.run 0 [.asg 2 (.n (.un .not (.t 4)) (.cons 4 (.v 0) .nil))]) (.cond 2 (.seq (.run 0 [.asg 3 (.n (.mark true (.t 7)) (.cons 7 (.n (.build 44 [(0,(.t 6))]) (.cons 6 (.v
 1) .nil)) .nil))]) (.exit 1000008)) (.skip))
theorem c229 : TF E 229 n229 [] t229 9 := zc (F := f229) rfl (by kernel_rfl) (by decide)

def n230 : List Nat := [0,1,2,4,5,6,10,14,18]
def t230 : TC := .seq (.run 0 [u9E 2 (.box 0 (.t 0)) (.cons 0 (.v 0) .nil) none,.asg 3 (.c (.bool false)),u9A 4 0]) (.seq (.seq (.run 0 [.asg 4 (.n (.call 0
 (.f 15) [(.t 7)]) (.cons 7 (xl 0 2 (.v 2)) .nil))]) (.seq (.run 0 [.asg 6 (xk .neq 3 9 (.int .i64 0) (.v 4))]) (.cond 6 (.seq (.run 0 [.asg 3 (.c (.bool false)),.asg 4 (.v
 4)]) (.ret)) (.skip)))) (.seq (.seq (.run 0 [u9E 7 (.call 3 (.f 159) [(.t 12),(.t 13)]) (.cons 12 (.v 1) (.cons 13 (.n (.mkfn 237 [(.t 2)]) (.cons 2 (.v 2) .nil))
 .nil)) none]) (.cond 7 (.seq (.run 0 [.asg 3 (.c (.bool false)),u9A 4 310]) (.ret)) (.skip))) (.seq (.run 0 [u9E 5 (.alloc 47) .nil none]) (.seq
 (.run 0 [.eff none none (.store 47 (.t 6) (.t 15)) (.cons 6 (.v 5) (.cons 15 (.n (.mkfn 238 [(.t 2),(.t 6)]) (.cons 2 (.v 2) (.cons 6 (.v 5) .nil))) .nil)) none]) (.seq (.run
 0 [u9E 8 (.call 2 (.t 16) [(.t 17),(.c (.int .i64 0))]) (.cons 16 (xl 47 6 (.v 5)) (.cons 17 (.v 1) .nil)) none,.asg 3 (.v 8),u9A 4 0]) (.ret))))))
theorem c230 : TF E 230 n230 [(3,none),(4,none)] t230 19 := zc (F := f230) rfl (by kernel_rfl) (by decide)

def n231 : List Nat := [0,1,2,3,5,6,7,8,9,10,17,32,39,43,44,45,46]
def t231 : TC := .seq (.run 0 [u9E 3 (.box 0 (.t 0)) (.cons 0 (.v 0) .nil) none,u9E 4 (.box 32 (.t 2)) (.cons 2 (.v 2) .nil) none,u9E 5 (.alloc 3) .nil
 none]) (.seq (.run 0 [.asg 8 (.n (.mkfn 239 [(.t 6)]) (.cons 6 (.v 5) .nil))]) (.seq (.run 0 [.asg 9 (.n (.call 0 (.f 22) [(.t 11),(.t 12)]) (.cons 11 (xl 0 3 (.v 3)) (.cons
 12 (.v 1) .nil))),.asg 6 (xe 10 0 (.v 9)),.eff none none (.store 3 (.t 6) (.t 15)) (.cons 6 (.v 5) (.cons 15 (xe 10 1 (.v 9)) .nil)) none]) (.seq (.seq (.run 0 [u9E 10 (.call 5 (.f 228) [(.t 16)]) (.cons 16 (xl 3 6 (.v 5)) .nil) none]) (.ifp 10 (.seq (.run 0 [.asg 10 (xe 17 1 (.v 10)),.asg 10 (.n (.field 44 (.t 17) 0) (.cons 17
 (.v 10) .nil)),.eff none none (.store 3 (.t 6) (.t 17)) (.cons 6 (.v 5) (.cons 17 (.v 10) .nil)) none]) (.ret)) (.run 0 []))) (.seq (.seq (.run 0 [u9E 11 (.call
 5 (.f 229) [(.t 31),(.c (.int .i64 310))]) (.cons 31 (.ite (.ite (.n (.call 0 (.f 240) [(.t 18),(.t 20)]) (.cons 18 (xl 0 3 (.v 3)) (.cons 20 (xl 1 19 (xf 32 5 0 (.v 4)))
 .nil))) (xk .geq 2 24 (.int .i64 1) (xl 2 23 (xf 32 5 1 (.v 4)))) (.c (.bool false))) (xk .leq 2 29 (.int .i64 3) (xl 2 28 (xf 32 5 1 (.v 4)))) (.c (.bool false))) .nil) none])
 (.ifp 11 (.seq (.run 0 [.asg 11 (xe 32 1 (.v 11)),.asg 11 (.n (.field 44 (.t 32) 0) (.cons 32 (.v 11) .nil)),.eff none none (.store 3 (.t 6) (.t 32)) (.cons 6 (.v 5) (.cons
 32 (.v 11) .nil)) none]) (.ret)) (.run 0 []))) (.seq (.run 0 [u9E 7 (.alloc 48) .nil none]) (.seq (.run 0 [.eff none none (.store 49 (.t 34) (.t 33)) (.cons 34
 (xf 48 8 0 (.v 7)) (.cons 33 (.n (.build 49 [(1,(.f 241)),(2,(.f 242)),(3,(.f 243))]) .nil) .nil)) none]) (.seq (.seq (.run 10 [.asg 12 (xl 50 38 (xi 49 37 36 (xf 48 8
 0 (.v 7)) (xl 2 35 (xf 32 5 1 (.v 4))))),.asg 13 (.n (.build 51 [(0,(.t 40)),(1,(.t 41)),(2,(.t 42))]) (.cons 40 (xl 0 3 (.v 3)) (.cons 41 (.v 1) (.cons 42 (.v 6) .nil)))),
 .asg 14 (xl 32 5 (.v 4))]) (.seq (.run 0 [u9E 15 (.call 5 (.t 39) [(.t 43),(.t 44)]) (.cons 39 (.v 12) (.cons 43 (.v 13) (.cons 44 (.v 14) .nil))) none]) (.ifp
 15 (.seq (.run 0 [.asg 15 (xe 45 1 (.v 15)),.asg 15 (.n (.field 44 (.t 45) 0) (.cons 45 (.v 15) .nil)),.eff none none (.store 3 (.t 6) (.t 45)) (.cons 6 (.v 5) (.cons 45
 (.v 15) .nil)) none]) (.ret)) (.seq (.run 0 [u9E 16 (.call 5 (.f 229) [(.t 45),(.c (.int .i64 310))]) (.cons 45 (.v 15) .nil) none]) (.ifp 16 (.seq (.run 0 [.asg
 16 (xe 46 1 (.v 16)),.asg 16 (.n (.field 44 (.t 46) 0) (.cons 46 (.v 16) .nil)),.eff none none (.store 3 (.t 6) (.t 46)) (.cons 6 (.v 5) (.cons 46 (.v 16) .nil)) none]) (.ret))
 (.skip)))))) (.seq (.run 0 [.eff none none (.store 3 (.t 6) (.c (.int .i64 0))) (.cons 6 (.v 5) .nil) none]) (.ret)))))))))
theorem c231 : TF E 231 n231 [(5,some 3)] t231 47 := zc (F := f231) rfl (by kernel_rfl) (by decide)

def n237 : List Nat := [0,1,3]
def t237 : TC := .seq (.run 0 [.asg 2 (.c (.bool false))]) (.seq (.run 0 [.asg 2 (.n (.un .not (.t 6)) (.cons 6 (.n (.call 0 (.f 240) [(.t 4),(.t 5)]) (.cons 4 (xl 0 1 (.v 1)) (.cons 5 (.v
 0) .nil))) .nil))]) (.ret))
theorem c237 : TF E 237 n237 [(2,none)] t237 8 := zc (F := f237) rfl (by kernel_rfl) (by decide)

def n238 : List Nat := [0,1,2,3,5,6,7,9,11,14,20,27,28,29,30,31,32,39,49,52,53,54,55,62,63]
def t238 : TC := .seq (.run 0 [u9E 4 (.box 2 (.t 1)) (.cons 1 (.v 1) .nil) none,.asg 5 (.c (.bool false))]) (.seq (.seq (.run 0 [u9E 9 (.call 3 (.f 159) [(.t 12),
 (.t 13)]) (.cons 12 (.v 0) (.cons 13 (.n (.mkfn 245 [(.t 5)]) (.cons 5 (.v 4) .nil)) .nil)) none]) (.cond 9 (.seq (.run 0 [.asg 5 (xk .eql 2 16 (.int .i64 1) (xn 4 15 (.v 0)))])
 (.ret)) (.skip))) (.seq (.seq (.run 0 [.asg 10 (xk .eql 2 19 (.int .i64 0) (xn 4 18 (.v 0)))]) (.cond 10 (.seq (.run 0 [.asg 5 (.c (.bool false))]) (.ret)) (.skip))) (.seq
 (.run 0 [.asg 11 (xn 16 26 (xl 16 25 (xf 15 24 3 (xi 14 22 23 (xl 14 21 (xf 0 2 2 (.v 2))) (xl 2 5 (.v 4)))))),u9E 12 (.mkslice true 52 (.t 27) (.t 27)) (.cons
 27 (.v 11) (.cons 27 (.v 11) .nil)) none,.asg 6 (.v 12)]) (.seq (.seq (.run 0 [.asg 13 (.v 0),.asg 14 (xn 4 29 (.v 13)),u9A 15 0]) (.block 0 (.loop (.seq
 (.run 0 [.asg 16 (xb .lss 2 31 30 (.v 15) (.v 14))]) (.seq (.cond 16 (.skip) (.exit 0)) (.seq (.block 1 (.seq (.run 0 [.asg 7 (xl 1 33 (xi 4 29 31 (.v 13) (.v 15)))]) (.run
 17 [.asg 17 (xl 2 38 (xi 1 36 37 (.v 7) (xl 2 5 (.v 4)))),u9E 18 (.append 0 4 4 (.t 46) (.t 48)) (.cons 46 (xl 4 45 (xi 52 40 44 (.v 6) (xl 2 43 (xi 1 41 42 (.v
 7) (xl 2 5 (.v 4)))))) (.cons 48 (.n (.bslice false 4 1 [(0,(.t 47))]) (.cons 47 (.v 7) .nil)) .nil)) (some 14),.eff none none (.store 4 (.t 50) (.t 49)) (.cons 50 (xi 52
 35 39 (.v 6) (.v 17)) (.cons 49 (.v 18) .nil)) (some 16)]))) (.run 0 [.asg 15 (xk .add 2 31 (.int .i64 1) (.v 15))]))))))) (.seq (.seq (.run 0 [.asg 19 (.v 6),.asg 20 (xn
 52 52 (.v 19)),u9A 21 0]) (.block 2 (.loop (.seq (.run 0 [.asg 22 (xb .lss 2 54 53 (.v 21) (.v 20))]) (.seq (.cond 22 (.skip) (.exit 2)) (.seq (.block 3
 (.seq (.run 0 [.asg 8 (xl 4 56 (xi 52 52 54 (.v 19) (.v 21)))]) (.seq (.run 0 [u9E 23 (.call 2 (.t 58) [(.t 59),(.t 61)]) (.cons 58 (xl 47 3 (.v 3)) (.cons 59
 (.v 8) (.cons 61 (xk .add 2 60 (.int .i64 1) (xl 2 5 (.v 4))) .nil))) none,.asg 24 (.n (.un .not (.t 62)) (.cons 62 (.v 23) .nil))]) (.cond 24 (.seq (.run 0 [.asg 5 (.c (.bool
 false))]) (.ret)) (.skip))))) (.run 0 [.asg 21 (xk .add 2 54 (.int .i64 1) (.v 21))]))))))) (.seq (.run 0 [.asg 5 (.c (.bool true))]) (.ret)))))))
theorem c238 : TF E 238 n238 [(5,none)] t238 65 := zc (F := f238) rfl (by kernel_rfl) (by decide)

def n240 : List Nat := [0,1,2,4,6,7,11]
def t240 : TC := .seq (.run 0 [u9E 2 (.box 0 (.t 0)) (.cons 0 (.v 0) .nil) none,.asg 3 (.c (.bool false))]) (.seq (.run 0 [.asg 5 (.n (.call 0 (.f 14) [(.t 8),(.t 9),(.c (.int
 .i64 0))]) (.cons 8 (xl 0 2 (.v 2)) (.cons 9 (.v 1) .nil))),.asg 6 (xe 7 0 (.v 5)),.asg 4 (xe 7 1 (.v 5))]) (.seq (.run 0 [.asg 3 (xk .eql 3 13 (.int .i64 0) (.v 4))]) (.ret)))
theorem c240 : TF E 240 n240 [(3,none)] t240 15 := zc (F := f240) rfl (by kernel_rfl) (by decide)

def n241 : List Nat := [0,1,2,3,4,5,6,7]
def t241 : TC := .seq (.run 0 [u9E 2 (.box 51 (.t 0)) (.cons 0 (.v 0) .nil) none,u9E 3 (.box 32 (.t 1)) (.cons 1 (.v 1) .nil) none,.asg 4 (.c (.bool false))]) (.seq
 (.run 0 [.asg 7 (.n (.call 0 (.f 24) [(.t 9),(.t 11),(.t 13)]) (.cons 9 (xl 0 8 (xf 51 2 0 (.v 2))) (.cons 11 (xl 1 10 (xf 32 3 0 (.v 3))) (.cons 13 (xl 6 12 (xf 51 2 1 (.v
 2))) .nil)))),.asg 5 (xe 7 0 (.v 7)),.asg 6 (xe 7 1 (.v 7))]) (.seq (.run 0 [.asg 4 (.ite (xk .eql 3 17 (.int .i64 0) (.v 6)) (.n (.un .not (.t 20)) (.cons 20 (.v 5) .nil))
 (.c (.bool false)))]) (.ret)))
theorem c241 : TF E 241 n241 [(4,none)] t241 23 := zc (F := f241) rfl (by kernel_rfl) (by decide)

def n242 : List Nat := [0,1,2,3,4,5,6,7,8,9,18,22,24,27,37,41]
def t242 : TC := .seq (.run 0 [u9E 2 (.box 51 (.t 0)) (.cons 0 (.v 0) .nil) none,u9E 3 (.box 32 (.t 1)) (.cons 1 (.v 1) .nil) none,.asg 4 (.c (.bool false))]) (.seq
 (.run 0 [.asg 9 (.n (.call 0 (.f 3) [(.t 11),(.t 13)]) (.cons 11 (xl 0 10 (xf 51 2 0 (.v 2))) (.cons 13 (xl 1 12 (xf 32 3 0 (.v 3))) .nil))),.asg 5 (xe 9 0 (.v 9)),.asg
 6 (xe 9 1 (.v 9))]) (.seq (.seq (.run 0 [.asg 10 (xk .neq 3 17 (.int .i64 0) (.v 6))]) (.cond 10 (.seq (.run 0 [.asg 4 (.c (.bool false))]) (.ret)) (.skip))) (.seq (.seq (.run
 0 [u9E 11 (.call 5 (.f 246) [(.t 19),(.t 21)]) (.cons 19 (.v 5) (.cons 21 (xl 6 20 (xf 51 2 2 (.v 2))) .nil)) none]) (.ifp 11 (.exit 1000022) (.run 0 [.asg 7
 (.v 11)]))) (.seq (.seq (.run 0 [.asg 12 (xk .neq 2 23 (.int .i64 0) (.v 7))]) (.cond 12 (.seq (.run 0 [.asg 4 (xk .gtr 2 25 (.int .i64 0) (.v 7))]) (.ret)) (.skip))) (.seq
 (.run 0 [.asg 13 (.n (.call 0 (.f 9) [(.t 29),(.t 31)]) (.cons 29 (xl 0 28 (xf 51 2 0 (.v 2))) (.cons 31 (xl 1 30 (xf 32 3 0 (.v 3))) .nil))),.asg 8 (xe 27 0 (.v 13)),.asg
 6 (xe 27 1 (.v 13))]) (.seq (.seq (.run 0 [.asg 14 (xk .eql 3 35 (.int .i64 0) (.v 6)),.eff (some ((.v 14),true)) (some 15) (.call 5 (.f 246) [(.t 38),(.t 40)]) (.cons 38
 (.v 8) (.cons 40 (xl 6 39 (xf 51 2 1 (.v 2))) .nil)) none]) (.ifp 15 (.exit 1000041) (.run 0 [.asg 4 (.ite (.v 14) (xk .geq 2 41 (.int .i64 0) (.v 15)) (.c (.bool false)))])))
 (.ret)))))))
theorem c242 : TF E 242 n242 [(4,none)] t242 44 := zc (F := f242) rfl (by kernel_rfl) (by decide)

def n243 : List Nat := [0,1,2,3,4,5,6,7,8,9,10,11,37,38,52]
def t243 : TC := .seq (.run 0 [u9E 2 (.box 51 (.t 0)) (.cons 0 (.v 0) .nil) none,u9E 3 (.box 32 (.t 1)) (.cons 1 (.v 1) .nil) none,.asg 4 (.c (.bool false))]) (.seq
 (.run 0 [.asg 11 (.n (.call 0 (.f 3) [(.t 13),(.t 15)]) (.cons 13 (xl 0 12 (xf 51 2 0 (.v 2))) (.cons 15 (xl 1 14 (xf 32 3 0 (.v 3))) .nil))),.asg 5 (xe 11 0 (.v 11)),.asg
 6 (xe 11 1 (.v 11))]) (.seq (.seq (.run 19 [.asg 12 (.ite (.ite (xk .neq 3 19 (.int .i64 0) (.v 6)) (.c (.bool true)) (xk .neq 2 25 (.int .i64 0) (xl 2 24 (.n (.iaddr 6 (.t
 23) (.c (.int .i64 0))) (.cons 23 (xl 6 22 (xf 51 2 2 (.v 2))) .nil))))) (.c (.bool true)) (xb .lss 2 31 35 (xl 2 30 (.n (.iaddr 6 (.t 29) (.c (.int .i64 1))) (.cons 29 (.v
 5) .nil))) (xl 2 34 (.n (.iaddr 6 (.t 33) (.c (.int .i64 1))) (.cons 33 (xl 6 32 (xf 51 2 2 (.v 2))) .nil)))))]) (.cond 12 (.seq (.run 0 [.asg 4 (.c (.bool false))]) (.ret))
 (.skip))) (.seq (.run 16 [.asg 13 (.n (.call 0 (.f 39) [(.t 40),(.t 42),(.t 46),(.t 48)]) (.cons 40 (xl 0 39 (xf 51 2 0 (.v 2))) (.cons 42 (xl 1 41 (xf 32 3 0 (.v 3))) (.cons
 46 (xl 2 45 (.n (.iaddr 6 (.t 44) (.c (.int .i64 1))) (.cons 44 (xl 6 43 (xf 51 2 2 (.v 2))) .nil))) (.cons 48 (xl 9 47 (xf 32 3 2 (.v 3))) .nil))))),.asg 7 (xe 38 0 (.v 13)),
 .asg 6 (xe 38 1 (.v 13))]) (.seq (.run 18 [.asg 14 (.n (.call 0 (.f 37) [(.t 54),(.t 56),(.t 60),(.t 62)]) (.cons 54 (xl 0 53 (xf 51 2 0 (.v 2))) (.cons 56 (xl 1 55 (xf
 32 3 0 (.v 3))) (.cons 60 (xl 2 59 (.n (.iaddr 6 (.t 58) (.c (.int .i64 1))) (.cons 58 (xl 6 57 (xf 51 2 2 (.v 2))) .nil))) (.cons 62 (xl 9 61 (xf 32 3 2 (.v 3))) .nil))))),
 .asg 8 (xe 52 0 (.v 14)),.asg 9 (xe 52 1 (.v 14)),.asg 10 (xe 52 2 (.v 14))]) (.seq (.run 0 [.asg 4 (.ite (.ite (xk .eql 3 67 (.int .i64 0) (.v 6)) (xk .eql 3 70 (.int .i64
 0) (.v 10)) (.c (.bool false))) (.ite (.v 7) (.c (.bool true)) (.ite (.v 9) (xb .gtr 2 78 82 (.v 8) (xl 2 81 (.n (.iaddr 6 (.t 80) (.c (.int .i64 2))) (.cons 80 (xl 6 79 (xf
 51 2 2 (.v 2))) .nil)))) (.c (.bool false)))) (.c (.bool false)))]) (.ret))))))
theorem c243 : TF E 243 n243 [(4,none)] t243 87 := zc (F := f243) rfl (by kernel_rfl) (by decide)

def n245 : List Nat := [0,1,3]
def t245 : TC := .seq (.run 0 [.asg 2 (.c (.bool false))]) (.seq (.run 0 [.asg 2 (xb .eql 2 5 6 (xn 1 4 (.v 0)) (xl 2 1 (.v 1)))]) (.ret))
theorem c245 : TF E 245 n245 [(2,none)] t245 8 := zc (F := f245) rfl (by kernel_rfl) (by decide)

def n246 : List Nat := [0,1,4,5,6,7,15]
def t246 : TC := .seq (.run 0 [u9A 2 0]) (.seq (.run 0 [.asg 5 (.n (.call 0 (.f 30) [(.t 8),(.t 9)]) (.cons 8 (.v 0) (.cons 9 (.v 1) .nil))),.asg 3 (xe 7 0 (.v 5)),.asg
 4 (xe 7 1 (.v 5))]) (.seq (.seq (.run 0 [u9E 6 (.call 5 (.f 229) [(.t 14),(.c (.int .i64 310))]) (.cons 14 (xk .eql 3 13 (.int .i64 0) (.v 4)) .nil) none]) (.ifp
 6 (.exit 1000015) (.run 0 []))) (.seq (.run 0 [.asg 2 (.v 3)]) (.ret))))
theorem c246 : TF E 246 n246 [(2,none)] t246 17 := zc (F := f246) rfl (by kernel_rfl) (by decide)

def n247 : List Nat := [0,1,2,4,5,6,7,8,10,18,19,25]
def t247 : TC := .seq (.run 0 [u9E 2 (.box 0 (.t 0)) (.cons 0 (.v 0) .nil) none,.asg 3 (.c (.bool false))]) (.seq (.seq (.run 0 [.asg 8 (.n (.un .not (.t 9)) (.cons 9 (.n (.call
 0 (.f 248) []) .nil) .nil))]) (.cond 8 (.seq (.run 0 [.asg 3 (.c (.bool false))]) (.ret)) (.skip))) (.seq (.seq (.run 0 [.asg 9 (.ite (.n (.un .not (.t 12)) (.cons 12 (.n (.call
 0 (.f 2) [(.t 11)]) (.cons 11 (xl 0 2 (.v 2)) .nil)) .nil)) (.c (.bool true)) (.n (.un .not (.t 16)) (.cons 16 (.n (.call 0 (.f 249) [(.t 15)]) (.cons 15 (.v 1) .nil)) .nil)))])
 (.cond 9 (.seq (.run 0 [.asg 3 (.c (.bool true))]) (.ret)) (.skip))) (.seq (.run 0 [.asg 10 (.n (.call 0 (.f 230) [(.t 20),(.t 21)]) (.cons 20 (xl 0 2 (.v 2)) (.cons 21 (.v
 1) .nil))),.asg 4 (xe 19 0 (.v 10)),.asg 5 (xe 19 1 (.v 10))]) (.seq (.run 0 [.asg 11 (.n (.call 0 (.f 250) [(.t 26),(.t 27)]) (.cons 26 (xl 0 2 (.v 2)) (.cons 27 (.v 1)
 .nil))),.asg 6 (xe 25 0 (.v 11)),.asg 7 (xe 25 1 (.v 11))]) (.seq (.run 0 [.asg 3 (.ite (xb .eql 7 31 32 (.v 4) (.v 6)) (xb .eql 3 35 36 (.v 5) (.v 7)) (.c (.bool false)))])
 (.ret))))))
theorem c247 : TF E 247 n247 [(3,none)] t247 39 := zc (F := f247) rfl (by kernel_rfl) (by decide)

def n248 : List Nat := [0,1,2,3,4,5,6,7,8,9,10,11,12,13,14,15,16,17,18,19,20,27,32,39,47,52,57,62,67,72,126]
def t248 : TC := .seq (.run 0 [.asg 0 (.c (.bool false))]) (.seq (.run 0 [.asg 20 (.n (.call 0 (.f 263) []) .nil),u9E 1 (.alloc 0) .nil none,u9E 2 (.alloc 29) .nil
 none,.eff none none (.store 0 (.t 1) (.t 22)) (.cons 1 (.v 1) (.cons 22 (xe 20 0 (.v 20)) .nil)) none,.eff none none (.store 29 (.t 2) (.t 23)) (.cons 2 (.v 2) (.cons 23
 (xe 20 1 (.v 20)) .nil)) none]) (.seq (.run 0 [u9E 3 (.alloc 0) .nil none,.eff none none (.store 0 (.t 3) (.t 26)) (.cons 3 (.v 3) (.cons 26 (.n (.build 0 [(1,
 (.t 25))]) (.cons 25 (.n (.bslice false 9 1 [(0,(.t 24))]) (.cons 24 (.n (.bslice false 6 0 []) .nil) .nil)) .nil)) .nil)) none]) (.seq (.run 0 [.asg 21 (.n (.call 0 (.f 230)
 [(.t 28),(.c (.imm .exact []))]) (.cons 28 (xl 0 3 (.v 3)) .nil)),.asg 4 (xe 27 0 (.v 21)),.asg 5 (xe 27 1 (.v 21))]) (.seq (.run 0 [.asg 22 (.n (.call 0 (.f 230) [(.t 33),
 (.t 35)]) (.cons 33 (xl 0 1 (.v 1)) (.cons 35 (.n (.bslice false 4 1 [(0,(.t 34))]) (.cons 34 (.n (.bslice false 1 0 []) .nil) .nil)) .nil))),.asg 6 (xe 32 0 (.v 22)),.asg
 7 (xe 32 1 (.v 22))]) (.seq (.run 0 [.asg 23 (.n (.call 0 (.f 230) [(.t 40),(.t 43)]) (.cons 40 (xl 0 1 (.v 1)) (.cons 43 (.n (.bslice false 4 2 [(0,(.t 41)),(1,(.t 42))])
 (.cons 41 (.n (.bslice false 1 0 []) .nil) (.cons 42 (.n (.bslice false 1 0 []) .nil) .nil))) .nil))),.asg 8 (xe 39 0 (.v 23)),.asg 9 (xe 39 1 (.v 23))]) (.seq (.run 0 [.asg
 24 (.n (.call 0 (.f 252) [(.t 48)]) (.cons 48 (xl 29 2 (.v 2)) .nil)),.asg 10 (xe 47 0 (.v 24)),.asg 11 (xe 47 1 (.v 24))]) (.seq (.run 0 [.asg 25 (.n (.call 0 (.f 254) [(.t
 53)]) (.cons 53 (.v 10) .nil)),u9E 12 (.alloc 29) .nil none,.eff none none (.store 29 (.t 12) (.t 55)) (.cons 12 (.v 12) (.cons 55 (xe 52 0 (.v 25)) .nil)) none,
 .asg 13 (xe 52 1 (.v 25))]) (.seq (.run 0 [.asg 26 (.n (.call 0 (.f 264) [(.t 58)]) (.cons 58 (.n (.build 55 [(0,(.c (.int .i64 1)))]) .nil) .nil)),.asg 14 (xe 57 0 (.v 26)),
 .asg 15 (xe 57 1 (.v 26))]) (.seq (.run 0 [.asg 27 (.n (.call 0 (.f 254) [(.t 63)]) (.cons 63 (.v 14) .nil)),u9E 16 (.alloc 29) .nil none,.eff none none (.store
 29 (.t 16) (.t 65)) (.cons 16 (.v 16) (.cons 65 (xe 62 0 (.v 27)) .nil)) none,.asg 17 (xe 62 1 (.v 27))]) (.seq (.run 0 [.asg 28 (xl 29 2 (.v 2)),u9E 18 (.alloc
 29) .nil none,.eff none none (.store 29 (.t 18) (.t 67)) (.cons 18 (.v 18) (.cons 67 (.v 28) .nil)) none]) (.seq (.run 0 [.eff none none (.store 6 (.t 69) (.t 68)) (.cons
 69 (xf 29 18 0 (.v 18)) (.cons 68 (.n (.bslice false 6 1 [(0,(.c (.int .i64 0)))]) .nil) .nil)) none]) (.seq (.run 0 [.eff none none (.store 6 (.t 71) (.t 70)) (.cons 71 (xf
 29 18 1 (.v 18)) (.cons 70 (.n (.bslice false 6 4 [(0,(.c (.int .i64 1))),(1,(.c (.int .i64 0))),(2,(.c (.int .i64 0))),(3,(.c (.int .i64 0)))]) .nil) .nil)) none])
 (.seq (.run 0 [.asg 29 (xl 29 2 (.v 2)),u9E 19 (.alloc 29) .nil none,.eff none none (.store 29 (.t 19) (.t 72)) (.cons 19 (.v 19) (.cons 72 (.v 29) .nil)) none])
 (.seq (.run 0 [.eff none none (.store 31 (.t 76) (.t 75)) (.cons 76 (xf 29 19 2 (.v 19)) (.cons 75 (.n (.slice 31 (.t 74) (some (.c (.int .i64 1))) none none) (.cons 74 (xl
 31 73 (xf 29 2 2 (.v 2))) .nil)) .nil)) none]) (.seq (.seq (.run 0 [.asg 30 (.ite (.ite (.ite (.ite (.ite (.ite (.ite (.ite (.ite (.ite (xk .neq 3 77 (.int .i64 0) (.v 5))
 (.c (.bool true)) (xk .neq 3 80 (.int .i64 0) (.v 7))) (.c (.bool true)) (xk .neq 3 84 (.int .i64 0) (.v 9))) (.c (.bool true)) (xk .neq 3 88 (.int .i64 0) (.v 11))) (.c (.bool
 true)) (xk .neq 3 92 (.int .i64 0) (.v 13))) (.c (.bool true)) (xk .neq 3 96 (.int .i64 0) (.v 15))) (.c (.bool true)) (xk .neq 3 100 (.int .i64 310) (.v 17))) (.c (.bool true))
 (xk .neq 3 106 (.int .i64 0) (.n (.call 0 (.f 216) [(.t 104),(.t 105)]) (.cons 104 (xl 0 1 (.v 1)) (.cons 105 (xl 29 2 (.v 2)) .nil))))) (.c (.bool true)) (xk .neq 3 112 (.int
 .i64 310) (.n (.call 0 (.f 216) [(.t 110),(.t 111)]) (.cons 110 (xl 0 1 (.v 1)) (.cons 111 (xl 29 18 (.v 18)) .nil))))) (.c (.bool true)) (xk .neq 3 118 (.int .i64 310) (.n
 (.call 0 (.f 216) [(.t 116),(.t 117)]) (.cons 116 (xl 0 1 (.v 1)) (.cons 117 (xl 29 19 (.v 19)) .nil))))) (.c (.bool true)) (xk .neq 3 124 (.int .i64 310) (.n (.call 0 (.f
 216) [(.t 122),(.t 123)]) (.cons 122 (xl 0 3 (.v 3)) (.cons 123 (.n (.build 29 []) .nil) .nil)))))]) (.cond 30 (.seq (.run 0 [.asg 0 (.c (.bool false))]) (.ret)) (.skip)))
 (.seq (.run 35 [.asg 0 (.ite (.ite (.ite (.ite (.ite (.n (.un .not (.t 127)) (.cons 127 (.v 4) .nil)) (.v 6) (.c (.bool false))) (.n (.un .not (.t 133)) (.cons 133 (.v 8) .nil))
 (.c (.bool false))) (.n (.call 0 (.f 256) [(.t 137),(.t 138)]) (.cons 137 (xl 29 12 (.v 12)) (.cons 138 (xl 29 2 (.v 2)) .nil))) (.c (.bool false))) (xk .eql 3 149 (.int .i64
 0) (.n (.call 0 (.f 231) [(.t 142),(.t 144),(.t 148)]) (.cons 142 (xl 0 1 (.v 1)) (.cons 144 (xl 6 143 (xf 29 2 0 (.v 2))) (.cons 148 (xl 32 147 (.n (.iaddr 31 (.t 146) (.c
 (.int .i64 1))) (.cons 146 (xl 31 145 (xf 29 2 2 (.v 2))) .nil))) .nil))))) (.c (.bool false))) (xk .eql 3 158 (.int .i64 310) (.n (.call 0 (.f 231) [(.t 153),(.t 155),(.t
 157)]) (.cons 153 (xl 0 1 (.v 1)) (.cons 155 (xl 6 154 (xf 29 2 0 (.v 2))) (.cons 157 (.n (.build 32 [(0,(.t 156)),(1,(.c (.int .i64 9)))]) (.cons 156 (.n (.bslice false
 1 1 [(0,(.c (.int .i64 1)))]) .nil) .nil)) .nil))))) (.c (.bool false)))]) (.ret)))))))))))))))))
theorem c248 : TF E 248 n248 [(0,none)] t248 161 := zc (F := f248) rfl (by kernel_rfl) (by decide)

def n249 : List Nat := [0,2,3,7,15]
def t249 : TC := .seq (.run 0 [.asg 1 (.c (.bool false))]) (.seq (.seq (.run 0 [u9A 2 0]) (.block 0 (.loop (.seq (.seq (.run 0 [.asg 3 (xb .lss 2 4 6 (.v 2) (xn 4 5 (.v 0)))])
 (.cond 3 (.skip) (.exit 0))) (.seq (.block 1 (.seq (.run 0 [.asg 4 (xk .gtr 2 14 (.int .i64 20) (xn 1 13 (xl 1 12 (xi 4 10 11 (.v 0) (.v 2)))))]) (.cond 4 (.seq (.run 0 [.asg
 1 (.c (.bool false))]) (.ret)) (.skip)))) (.run 0 [.asg 2 (xk .add 2 8 (.int .i64 1) (.v 2))])))))) (.seq (.run 0 [.asg 1 (xk .leq 2 17 (.int .i64 100) (xn 4 16 (.v 0)))])
 (.ret)))
theorem c249 : TF E 249 n249 [(1,none)] t249 19 := zc (F := f249) rfl (by kernel_rfl) (by decide)

def n250 : List Nat := [0,1,2,4,5,6,7,11,16,25]
def t250 : TC := .seq (.run 0 [u9E 2 (.box 0 (.t 0)) (.cons 0 (.v 0) .nil) none,.asg 3 (.c (.bool false)),u9A 4 0]) (.seq (.run 0 [.asg 5 (.n (.call 0 (.f 19)
 [(.t 8)]) (.cons 8 (xl 0 2 (.v 2)) .nil))]) (.seq (.seq (.run 0 [.asg 7 (xk .neq 3 10 (.int .i64 0) (.v 5))]) (.cond 7 (.seq (.run 0 [.asg 3 (.c (.bool false)),.asg 4 (.v
 5)]) (.ret)) (.skip))) (.seq (.seq (.run 0 [u9A 6 0]) (.block 0 (.loop (.seq (.seq (.run 0 [.asg 8 (xb .lss 2 13 15 (.v 6) (xn 4 14 (.v 1)))]) (.cond 8 (.skip)
 (.exit 0))) (.seq (.block 1 (.seq (.run 7 [.asg 9 (.n (.un .not (.t 24)) (.cons 24 (.n (.call 0 (.f 78) [(.t 19),(.t 23)]) (.cons 19 (xl 0 2 (.v 2)) (.cons 23 (xl 1 22 (xi
 4 20 21 (.v 1) (.v 6))) .nil))) .nil))]) (.cond 9 (.seq (.run 0 [.asg 3 (.c (.bool false)),u9A 4 310]) (.ret)) (.skip)))) (.run 0 [.asg 6 (xk .add 2 17 (.int
 .i64 1) (.v 6))])))))) (.seq (.run 0 [.asg 3 (.n (.call 0 (.f 265) [(.t 26),(.t 27),(.c (.int .i64 0))]) (.cons 26 (xl 0 2 (.v 2)) (.cons 27 (.v 1) .nil))),u9A 4 0]) (.ret)))))
theorem c250 : TF E 250 n250 [(3,none),(4,none)] t250 29 := zc (F := f250) rfl (by kernel_rfl) (by decide)

def n258 : List Nat := [0,1,2,3,4,5,6,7,10,11,12,13,14,16,40,60,61,68,69,76,82,83,87,92,98,110]
def t258 : TC := .seq (.run 0 [u9E 5 (.box 0 (.t 0)) (.cons 0 (.v 0) .nil) none,u9E 6 (.box 29 (.t 1)) (.cons 1 (.v 1) .nil) none,u9E 7 (.box 29 (.t
 2)) (.cons 2 (.v 2) .nil) none,.asg 8 (.c (.bool false))]) (.seq (.seq (.run 0 [.asg 13 (.n (.un .not (.t 15)) (.cons 15 (.n (.call 0 (.f 248) []) .nil) .nil))]) (.cond 13
 (.seq (.run 0 [.asg 8 (.c (.bool false))]) (.ret)) (.skip))) (.seq (.seq (.run 0 [.asg 14 (.ite (.ite (.ite (.ite (.n (.un .not (.t 18)) (.cons 18 (.n (.call 0 (.f 2) [(.t
 17)]) (.cons 17 (xl 0 5 (.v 5)) .nil)) .nil)) (.c (.bool true)) (.n (.un .not (.t 22)) (.cons 22 (.n (.call 0 (.f 213) [(.t 21)]) (.cons 21 (xl 29 6 (.v 6)) .nil)) .nil)))
 (.c (.bool true)) (.n (.un .not (.t 27)) (.cons 27 (.n (.call 0 (.f 213) [(.t 26)]) (.cons 26 (xl 29 7 (.v 7)) .nil)) .nil))) (.c (.bool true)) (xk .gtr 2 32 (.int .i64 20)
 (xn 6 31 (.v 3)))) (.c (.bool true)) (xk .neq 3 38 (.int .i64 0) (.n (.call 0 (.f 216) [(.t 36),(.t 37)]) (.cons 36 (xl 0 5 (.v 5)) (.cons 37 (xl 29 6 (.v 6)) .nil)))))])
 (.cond 14 (.seq (.run 0 [.asg 8 (.c (.bool true))]) (.ret)) (.skip))) (.seq (.seq (.run 0 [.asg 15 (.ite (xk .eql 3 43 (.int .i64 0) (.n (.call 0 (.f 216) [(.t 41),(.t 42)])
 (.cons 41 (xl 0 5 (.v 5)) (.cons 42 (xl 29 7 (.v 7)) .nil)))) (.ite (.n (.un .not (.t 50)) (.cons 50 (.n (.call 0 (.f 20) [(.t 47),(.t 49)]) (.cons 47 (xl 6 46 (xf 29 6 0
 (.v 6))) (.cons 49 (xl 6 48 (xf 29 7 0 (.v 7))) .nil))) .nil)) (.c (.bool true)) (.n (.un .not (.t 57)) (.cons 57 (.n (.call 0 (.f 20) [(.t 54),(.t 56)]) (.cons 54 (xl 6 53
 (xf 29 6 1 (.v 6))) (.cons 56 (xl 6 55 (xf 29 7 1 (.v 7))) .nil))) .nil))) (.c (.bool false)))]) (.cond 15 (.seq (.run 0 [.asg 8 (.c (.bool false))]) (.ret)) (.skip))) (.seq
 (.run 0 [.asg 16 (xl 29 6 (.v 6)),u9E 9 (.alloc 29) .nil none,.eff none none (.store 29 (.t 11) (.t 61)) (.cons 11 (.v 9) (.cons 61 (.v 16) .nil)) none]) (.seq
 (.run 0 [.eff none none (.store 6 (.t 63) (.t 62)) (.cons 63 (xf 29 11 0 (.v 9)) (.cons 62 (.v 3) .nil)) none]) (.seq (.seq (.run 0 [.asg 17 (.n (.un .not (.t 67)) (.cons 67
 (.n (.call 0 (.f 20) [(.t 64),(.t 66)]) (.cons 64 (.v 3) (.cons 66 (xl 6 65 (xf 29 6 0 (.v 6))) .nil))) .nil))]) (.cond 17 (.seq (.run 0 [.asg 18 (.n (.call 0 (.f 22) [(.t
 70),(.t 71)]) (.cons 70 (xl 0 5 (.v 5)) (.cons 71 (.v 3) .nil))),.asg 10 (xe 69 0 (.v 18)),.asg 11 (xe 69 1 (.v 18))]) (.seq (.seq (.run 0 [.asg 19 (xk .eql 3 75 (.int .i64
 0) (.v 11))]) (.cond 19 (.run 0 [.eff none none (.store 6 (.t 78) (.t 77)) (.cons 78 (xf 29 11 1 (.v 9)) (.cons 77 (.v 10) .nil)) none]) (.skip))) (.seq (.run 0 [.asg 20 (xk
 .eql 3 81 (.int .i64 0) (.n (.call 0 (.f 216) [(.t 79),(.t 80)]) (.cons 79 (xl 0 5 (.v 5)) (.cons 80 (xl 29 11 (.v 9)) .nil))))]) (.cond 20 (.seq (.run 0 [.asg 8 (.c (.bool
 false))]) (.ret)) (.skip))))) (.skip))) (.seq (.run 0 [.asg 21 (xl 29 6 (.v 6)),u9E 12 (.alloc 29) .nil none,.eff none none (.store 29 (.t 14) (.t 83)) (.cons
 14 (.v 12) (.cons 83 (.v 21) .nil)) none]) (.seq (.run 0 [u9E 22 (.append 1 6 6 (.t 84) (.t 86)) (.cons 84 (.n (.bslice false 6 0 []) .nil) (.cons 86 (xl 6 85
 (xf 29 6 1 (.v 6))) .nil)) none,.eff none none (.store 6 (.t 88) (.t 87)) (.cons 88 (xf 29 14 1 (.v 12)) (.cons 87 (.v 22) .nil)) none]) (.seq (.seq (.run 0 [.asg 23 (xk .neq
 2 91 (.int .i64 4) (xn 6 90 (xl 6 89 (xf 29 14 1 (.v 12)))))]) (.cond 23 (.seq (.run 0 [.asg 8 (.c (.bool false))]) (.ret)) (.skip))) (.seq (.run 0 [.asg 24 (.n (.conv 13 2
 (.t 97)) (.cons 97 (xk .rem 13 96 (.int .u8 4) (.n (.conv 54 13 (.t 95)) (.cons 95 (.v 4) .nil))) .nil)),.eff none none (.store 2 (.t 104) (.t 103)) (.cons 104 (xi 6 94 98
 (xl 6 93 (xf 29 14 1 (.v 12))) (.v 24)) (.cons 103 (xb .add 2 100 102 (xl 2 99 (xi 6 94 98 (xl 6 93 (xf 29 14 1 (.v 12))) (.v 24))) (.n (.conv 54 2 (.t 101)) (.cons 101 (.v
 4) .nil))) .nil)) none]) (.seq (.run 0 [.eff (some ((xk .eql 54 105 (.int .i8 0) (.v 4)),false)) (some 25) (.call 1 (.f 216) [(.t 108),(.t 109)]) (.cons 108 (xl 0 5 (.v 5))
 (.cons 109 (xl 29 14 (.v 12)) .nil)) none,.asg 8 (.ite (xk .eql 54 105 (.int .i8 0) (.v 4)) (.c (.bool true)) (xk .eql 3 110 (.int .i64 310) (.v 25)))]) (.ret))))))))))))
theorem c258 : TF E 258 n258 [(8,none)] t258 113 := zc (F := f258) rfl (by kernel_rfl) (by decide)

def n259 : List Nat := [0,1,2,3,4,8,9,10,11,12,13,14,15,17,18,19,21,34,35,46,49,56,57,62,67,71,72,75,81,96,97,101,104,108,132]
def t259 : TC := .seq (.run 0 [u9E 4 (.box 0 (.t 0)) (.cons 0 (.v 0) .nil) none,.asg 5 (.c (.bool false))]) (.seq (.seq (.run 0 [.asg 16 (.n (.un .not (.t 20)) (.cons 20 (.n (.call
 0 (.f 248) []) .nil) .nil))]) (.cond 16 (.seq (.run 0 [.asg 5 (.c (.bool false))]) (.ret)) (.skip))) (.seq (.seq (.run 0 [.asg 17 (.ite (.ite (.n (.un .not (.t 23)) (.cons
 23 (.n (.call 0 (.f 2) [(.t 22)]) (.cons 22 (xl 0 4 (.v 4)) .nil)) .nil)) (.c (.bool true)) (.n (.un .not (.t 27)) (.cons 27 (.n (.call 0 (.f 249) [(.t 26)]) (.cons 26 (.v
 1) .nil)) .nil))) (.c (.bool true)) (xk .gtr 2 32 (.int .i64 20) (xn 6 31 (.v 2))))]) (.cond 17 (.seq (.run 0 [.asg 5 (.c (.bool true))]) (.ret)) (.skip))) (.seq (.run 0 [.asg
 18 (.n (.call 0 (.f 230) [(.t 36),(.t 37)]) (.cons 36 (xl 0 4 (.v 4)) (.cons 37 (.v 1) .nil))),.asg 6 (xe 35 0 (.v 18)),.asg 7 (xe 35 1 (.v 18))]) (.seq (.seq (.run 0 [.asg
 19 (.ite (xk .neq 3 41 (.int .i64 0) (.v 7)) (.c (.bool true)) (.n (.un .not (.t 44)) (.cons 44 (.v 6) .nil)))]) (.cond 19 (.seq (.run 0 [.asg 5 (.c (.bool true))]) (.ret))
 (.skip))) (.seq (.seq (.run 0 [.asg 20 (xk .eql 2 48 (.int .i64 0) (xn 4 47 (.v 1)))]) (.cond 20 (.seq (.run 0 [.asg 5 (.c (.bool false))]) (.ret)) (.skip))) (.seq (.run 0
 [.asg 8 (.n (.conv 12 2 (.t 54)) (.cons 54 (xb .rem 12 50 53 (.v 3) (.n (.conv 2 12 (.t 52)) (.cons 52 (xn 4 51 (.v 1)) .nil))) .nil))]) (.seq (.run 17 [.asg 22 (xl 0 4 (.v
 4)),u9E 23 (.append 0 4 4 (.t 58) (.t 61)) (.cons 58 (.n (.bslice false 4 0 []) .nil) (.cons 61 (.n (.slice 4 (.t 59) none (some (.t 60)) none) (.cons 59 (.v
 1) (.cons 60 (.v 8) .nil))) .nil)) (some 5),u9E 24 (.append 0 4 4 (.t 62) (.t 66)) (.cons 62 (.v 23) (.cons 66 (.n (.slice 4 (.t 63) (some (.t 65)) none none)
 (.cons 63 (.v 1) (.cons 65 (xk .add 2 64 (.int .i64 1) (.v 8)) .nil))) .nil)) (some 10),.asg 21 (.n (.call 0 (.f 230) [(.t 57),(.t 67)]) (.cons 57 (.v 22) (.cons 67 (.v 24)
 .nil))),.asg 9 (xe 56 0 (.v 21)),.asg 10 (xe 56 1 (.v 21))]) (.seq (.run 16 [.asg 26 (xl 0 4 (.v 4)),u9E 27 (.append 0 4 4 (.t 73) (.t 74)) (.cons 73 (.n (.bslice
 false 4 0 []) .nil) (.cons 74 (.v 1) .nil)) (some 3),u9E 28 (.append 0 4 4 (.t 75) (.t 80)) (.cons 75 (.v 27) (.cons 80 (.n (.bslice false 4 1 [(0,(.t 79))])
 (.cons 79 (xl 1 78 (xi 4 76 77 (.v 1) (.v 8))) .nil)) .nil)) (some 9),.asg 25 (.n (.call 0 (.f 230) [(.t 72),(.t 81)]) (.cons 72 (.v 26) (.cons 81 (.v 28) .nil))),.asg 11
 (xe 71 0 (.v 25)),.asg 12 (xe 71 1 (.v 25))]) (.seq (.seq (.run 0 [.asg 29 (.ite (.ite (.ite (xk .neq 3 85 (.int .i64 0) (.v 10)) (.c (.bool true)) (xk .neq 3 88 (.int .i64
 0) (.v 12))) (.c (.bool true)) (.v 9)) (.c (.bool true)) (.v 11))]) (.cond 29 (.seq (.run 0 [.asg 5 (.c (.bool false))]) (.ret)) (.skip))) (.seq (.seq (.run 0 [.asg 30 (.n
 (.call 0 (.f 22) [(.t 98),(.t 99)]) (.cons 98 (xl 0 4 (.v 4)) (.cons 99 (.v 2) .nil))),.asg 31 (xe 97 0 (.v 30)),.asg 13 (xe 97 1 (.v 30))]) (.seq (.run 0 [.asg 32 (xk .neq
 3 103 (.int .i64 0) (.v 13))]) (.cond 32 (.seq (.run 0 [.asg 5 (.c (.bool true))]) (.ret)) (.skip)))) (.seq (.run 0 [u9A 14 0]) (.seq (.seq (.run 0 [u9A 15 0]) (.block 0 (.loop (.seq (.seq (.run 0 [.asg 33 (xb .lss 2 105 107 (.v 15) (xn 4 106 (.v 1)))]) (.cond 33 (.skip) (.exit 0))) (.seq (.block 1 (.seq (.run
 22 [.asg 34 (.ite (xb .leq 2 115 117 (xn 1 114 (xl 1 113 (xi 4 111 112 (.v 1) (.v 15)))) (xn 6 116 (.v 2))) (.n (.call 0 (.f 20) [(.t 123),(.t 130)]) (.cons 123 (xl 1 122
 (xi 4 120 121 (.v 1) (.v 15))) (.cons 130 (.n (.slice 6 (.t 124) none (some (.t 129)) none) (.cons 124 (.v 2) (.cons 129 (xn 1 128 (xl 1 127 (xi 4 125 126 (.v 1) (.v 15))))
 .nil))) .nil))) (.c (.bool false)))]) (.cond 34 (.run 0 [.asg 14 (xk .add 2 133 (.int .i64 1) (.v 14))]) (.skip)))) (.run 0 [.asg 15 (xk .add 2 109 (.int .i64 1) (.v 15))]))))))
 (.seq (.run 0 [.asg 5 (xk .eql 2 135 (.int .i64 1) (.v 14))]) (.ret))))))))))))))
theorem c259 : TF E 259 n259 [(5,none)] t259 137 := zc (F := f259) rfl (by kernel_rfl) (by decide)

def n260 : List Nat := [0,1,2,3,4,6,7,8,9,11,25,29,37,38,44,50,55,66,69]
def t260 : TC := .seq (.run 0 [u9E 3 (.box 0 (.t 0)) (.cons 0 (.v 0) .nil) none,u9E 4 (.box 29 (.t 1)) (.cons 1 (.v 1) .nil) none,.asg 5 (.c (.bool false))]) (.seq
 (.seq (.run 0 [.asg 9 (.n (.un .not (.t 10)) (.cons 10 (.n (.call 0 (.f 248) []) .nil) .nil))]) (.cond 9 (.seq (.run 0 [.asg 5 (.c (.bool false))]) (.ret)) (.skip))) (.seq
 (.seq (.run 0 [.asg 10 (.ite (.ite (.n (.un .not (.t 13)) (.cons 13 (.n (.call 0 (.f 2) [(.t 12)]) (.cons 12 (xl 0 3 (.v 3)) .nil)) .nil)) (.c (.bool true)) (.n (.un .not (.t
 17)) (.cons 17 (.n (.call 0 (.f 213) [(.t 16)]) (.cons 16 (xl 29 4 (.v 4)) .nil)) .nil))) (.c (.bool true)) (xk .neq 3 23 (.int .i64 0) (.n (.call 0 (.f 216) [(.t 21),(.t
 22)]) (.cons 21 (xl 0 3 (.v 3)) (.cons 22 (xl 29 4 (.v 4)) .nil)))))]) (.cond 10 (.seq (.run 0 [.asg 5 (.c (.bool true))]) (.ret)) (.skip))) (.seq (.seq (.run 0 [.asg 11 (xk
 .eql 2 28 (.int .i64 0) (xn 31 27 (xl 31 26 (xf 29 4 2 (.v 4)))))]) (.cond 11 (.seq (.run 0 [.asg 5 (.c (.bool false))]) (.ret)) (.skip))) (.seq (.run 0 [.asg 6 (.n (.conv
 12 2 (.t 35)) (.cons 35 (xb .rem 12 30 34 (.v 2) (.n (.conv 2 12 (.t 33)) (.cons 33 (xn 31 32 (xl 31 31 (xf 29 4 2 (.v 4)))) .nil))) .nil))]) (.seq (.seq (.run 6 [.asg 12 (xl
 29 4 (.v 4)),.asg 13 (xl 29 4 (.v 4)),u9E 7 (.alloc 29) .nil (some 2),u9E 8 (.alloc 29) .nil (some 3),.eff none none (.store 29 (.t 8) (.t 37))
 (.cons 8 (.v 7) (.cons 37 (.v 12) .nil)) (some 4),.eff none none (.store 29 (.t 9) (.t 38)) (.cons 9 (.v 8) (.cons 38 (.v 13) .nil)) (some 5)]) (.chk [(4,7)])) (.seq (.run
 14 [u9E 14 (.append 0 31 31 (.t 39) (.t 43)) (.cons 39 (.n (.bslice false 31 0 []) .nil) (.cons 43 (.n (.slice 31 (.t 41) none (some (.t 42)) none) (.cons 41 (xl
 31 40 (xf 29 4 2 (.v 4))) (.cons 42 (.v 6) .nil))) .nil)) (some 5),u9E 15 (.append 0 31 31 (.t 44) (.t 49)) (.cons 44 (.v 14) (.cons 49 (.n (.slice 31 (.t 46)
 (some (.t 48)) none none) (.cons 46 (xl 31 45 (xf 29 4 2 (.v 4))) (.cons 48 (xk .add 2 47 (.int .i64 1) (.v 6)) .nil))) .nil)) (some 11),.eff none none (.store 31 (.t 51)
 (.t 50)) (.cons 51 (xf 29 8 2 (.v 7)) (.cons 50 (.v 15) .nil)) (some 13)]) (.seq (.run 0 [u9E 16 (.append 1 31 31 (.t 52) (.t 54)) (.cons 52 (.n (.bslice false
 31 0 []) .nil) (.cons 54 (xl 31 53 (xf 29 4 2 (.v 4))) .nil)) none,.eff none none (.store 31 (.t 56) (.t 55)) (.cons 56 (xf 29 9 2 (.v 8)) (.cons 55 (.v 16) .nil)) none])
 (.seq (.run 0 [.eff none none (.store 2 (.t 61) (.c (.int .i64 4))) (.cons 61 (xf 32 60 1 (xi 31 58 59 (xl 31 57 (xf 29 9 2 (.v 8))) (.v 6))) .nil) none]) (.seq (.run 0 [.asg
 17 (xk .eql 3 64 (.int .i64 310) (.n (.call 0 (.f 216) [(.t 62),(.t 63)]) (.cons 62 (xl 0 3 (.v 3)) (.cons 63 (xl 29 8 (.v 7)) .nil)))),.eff (some ((.v 17),true)) (some
 18) (.call 1 (.f 216) [(.t 67),(.t 68)]) (.cons 67 (xl 0 3 (.v 3)) (.cons 68 (xl 29 9 (.v 8)) .nil)) none,.asg 5 (.ite (.v 17) (xk .eql 3 69 (.int .i64 310) (.v 18)) (.c
 (.bool false)))]) (.ret))))))))))
theorem c260 : TF E 260 n260 [(5,none)] t260 72 := zc (F := f260) rfl (by kernel_rfl) (by decide)

def n265 : List Nat := [0,1,2,3,6,7,8,9,10,13,17,26,38,45,56,63,69]
def t265 : TC := .seq (.run 0 [u9E 3 (.box 0 (.t 0)) (.cons 0 (.v 0) .nil) none,.asg 4 (.c (.bool false))]) (.seq (.seq (.run 0 [.asg 9 (xk .eql 2 12 (.int .i64 0) (xn 4 11 (.v
 1)))]) (.cond 9 (.seq (.run 0 [.asg 4 (.c (.bool false))]) (.ret)) (.skip))) (.seq (.seq (.run 0 [u9A 5 0]) (.block 0 (.loop (.seq (.seq (.run 0 [.asg 10
 (xb .lss 2 14 16 (.v 5) (xn 4 15 (.v 1)))]) (.cond 10 (.skip) (.exit 0))) (.seq (.block 1 (.seq (.run 0 [.asg 11 (xb .eql 2 24 25 (xn 1 23 (xl 1 22 (xi 4 20 21 (.v 1) (.v 5))))
 (.v 2))]) (.cond 11 (.seq (.run 0 [.asg 4 (xk .eql 2 28 (.int .i64 1) (xn 4 27 (.v 1)))]) (.ret)) (.skip)))) (.run 0 [.asg 5 (xk .add 2 18 (.int .i64 1) (.v 5))])))))) (.seq
 (.seq (.run 0 [u9A 6 0]) (.block 2 (.loop (.seq (.seq (.run 0 [.asg 12 (xb .lss 2 30 37 (.v 6) (xn 16 36 (xl 16 35 (xf 15 34 3 (xi 14 32 33 (xl 14 31 (xf
 0 3 2 (.v 3))) (.v 2))))))]) (.cond 12 (.skip) (.exit 2))) (.seq (.block 3 (.seq (.run 0 [.asg 7 (.n (.bslice false 4 0 []) .nil)]) (.seq (.seq (.run 0 [u9A 8 0]) (.block 4 (.loop (.seq (.seq (.run 0 [.asg 13 (xb .lss 2 42 44 (.v 8) (xn 4 43 (.v 1)))]) (.cond 13 (.skip) (.exit 4))) (.seq (.block 5 (.seq (.run 0 [.asg 14 (xb .eql
 2 54 55 (xl 2 53 (xi 1 51 52 (xl 1 50 (xi 4 48 49 (.v 1) (.v 8))) (.v 2))) (.v 6))]) (.cond 14 (.run 0 [u9E 15 (.append 0 4 4 (.t 57) (.t 62)) (.cons 57 (.v 7)
 (.cons 62 (.n (.bslice false 4 1 [(0,(.t 61))]) (.cons 61 (xl 1 60 (xi 4 58 59 (.v 1) (.v 8))) .nil)) .nil)) none,.asg 7 (.v 15)]) (.skip)))) (.run 0 [.asg 8 (xk .add 2 46
 (.int .i64 1) (.v 8))])))))) (.seq (.run 0 [.asg 16 (.n (.un .not (.t 68)) (.cons 68 (.n (.call 0 (.f 265) [(.t 64),(.t 65),(.t 67)]) (.cons 64 (xl 0 3 (.v 3)) (.cons 65
 (.v 7) (.cons 67 (xk .add 2 66 (.int .i64 1) (.v 2)) .nil)))) .nil))]) (.cond 16 (.seq (.run 0 [.asg 4 (.c (.bool false))]) (.ret)) (.skip)))))) (.run 0 [.asg 6 (xk .add 2
 39 (.int .i64 1) (.v 6))])))))) (.seq (.run 0 [.asg 4 (.c (.bool true))]) (.ret)))))
theorem c265 : TF E 265 n265 [(4,none)] t265 70 := zc (F := f265) rfl (by kernel_rfl) (by decide)

theorem ty_0 : E.ty 0 = ⟨.struct [(0,10),(1,9),(2,14)],3,72,[(.imm .exact []),(.imm .exact []),(.imm .exact [])],false⟩ := rfl
theorem ty_1 : E.ty 1 = ⟨.slice 2,1,24,[(.imm .exact [])],false⟩ := rfl
theorem ty_2 : E.ty 2 = ⟨.int .i64,1,8,[(.int .i64 0)],false⟩ := rfl
theorem ty_3 : E.ty 3 = ⟨.int .i64,1,8,[(.int .i64 0)],false⟩ := rfl
theorem ty_4 : E.ty 4 = ⟨.slice 1,1,24,[(.imm .exact [])],false⟩ := rfl
theorem ty_6 : E.ty 6 = ⟨.slice 2,1,24,[(.imm .exact [])],false⟩ := rfl
theorem ty_7 : E.ty 7 = ⟨.bool,1,1,[(.bool false)],false⟩ := rfl
theorem ty_9 : E.ty 9 = ⟨.slice 6,1,24,[(.imm .exact [])],false⟩ := rfl
theorem ty_10 : E.ty 10 = ⟨.slice 20,1,24,[(.imm .exact [])],false⟩ := rfl
theorem ty_11 : E.ty 11 = ⟨.struct [(0,2),(1,2)],2,16,[(.int .i64 0),(.int .i64 0)],true⟩ := rfl
theorem ty_12 : E.ty 12 = ⟨.int .u64,1,8,[(.int .u64 0)],false⟩ := rfl
theorem ty_13 : E.ty 13 = ⟨.int .u8,1,1,[(.int .u8 0)],false⟩ := rfl
theorem ty_14 : E.ty 14 = ⟨.slice 15,1,24,[(.imm .exact [])],false⟩ := rfl
theorem ty_15 : E.ty 15 = ⟨.struct [(0,2),(1,2),(2,6),(3,16)],4,64,[(.int .i64 0),(.int .i64 0),(.imm .exact []),(.imm .exact [])],false⟩ := rfl
theorem ty_16 : E.ty 16 = ⟨.slice 17,1,24,[(.imm .exact [])],false⟩ := rfl
theorem ty_17 : E.ty 17 = ⟨.struct [(0,2),(1,2),(2,2),(3,18)],4,48,[(.int .i64 0),(.int .i64 0),(.int .i64 0),(.imm .exact [])],false⟩ := rfl
theorem ty_18 : E.ty 18 = ⟨.slice 19,1,24,[(.imm .exact [])],false⟩ := rfl
theorem ty_19 : E.ty 19 = ⟨.struct [(0,20),(3,2)],4,32,[(.bool false),(.int .i64 0),(.int .i64 0),(.int .i64 0)],true⟩ := rfl
theorem ty_20 : E.ty 20 = ⟨.struct [(0,7),(1,2),(2,2)],3,24,[(.bool false),(.int .i64 0),(.int .i64 0)],true⟩ := rfl
theorem ty_21 : E.ty 21 = ⟨.map 20 7,1,8,[(.map none)],false⟩ := rfl
theorem ty_22 : E.ty 22 = ⟨.arr 4 2,4,32,[(.int .i64 0),(.int .i64 0),(.int .i64 0),(.int .i64 0)],true⟩ := rfl
theorem ty_23 : E.ty 23 = ⟨.arr 2 6,2,48,[(.imm .exact []),(.imm .exact [])],false⟩ := rfl
theorem ty_24 : E.ty 24 = ⟨.slice 23,1,24,[(.imm .exact [])],false⟩ := rfl
theorem ty_25 : E.ty 25 = ⟨.struct [(0,0),(3,1),(4,2),(5,9)],6,128,[(.imm .exact []),(.imm .exact []),(.imm .exact []),(.imm .exact []),(.int .i64 0),(.imm .exact [])],false⟩ := rfl
theorem ty_26 : E.ty 26 = ⟨.map 20 2,1,8,[(.map none)],false⟩ := rfl
theorem ty_27 : E.ty 27 = ⟨.func,1,8,[.nilfn],false⟩ := rfl
theorem ty_28 : E.ty 28 = ⟨.struct [(0,4),(1,6),(2,6),(3,31)],4,96,[(.imm .exact []),(.imm .exact []),(.imm .exact []),(.imm .exact [])],false⟩ := rfl
theorem ty_29 : E.ty 29 = ⟨.struct [(0,6),(1,6),(2,31)],3,72,[(.imm .exact []),(.imm .exact []),(.imm .exact [])],false⟩ := rfl
theorem ty_30 : E.ty 30 = ⟨.slice 13,1,24,[(.imm .exact [])],false⟩ := rfl
theorem ty_31 : E.ty 31 = ⟨.slice 32,1,24,[(.imm .exact [])],false⟩ := rfl
theorem ty_32 : E.ty 32 = ⟨.struct [(0,1),(1,2),(2,9)],3,56,[(.imm .exact []),(.int .i64 0),(.imm .exact [])],false⟩ := rfl
theorem ty_33 : E.ty 33 = ⟨.func,1,8,[.nilfn],false⟩ := rfl
theorem ty_35 : E.ty 35 = ⟨.slice 1,1,24,[(.imm .exact [])],false⟩ := rfl
theorem ty_41 : E.ty 41 = ⟨.struct [(0,0),(3,29),(6,7),(7,43)],8,160,[(.imm .exact []),(.imm .exact []),(.imm .exact []),(.imm .exact []),(.imm .exact []),(.imm .exact []),(.bool false),.nilfn],false⟩ := rfl
theorem ty_42 : E.ty 42 = ⟨.ptr 41,1,8,[.nilp],false⟩ := rfl
theorem ty_43 : E.ty 43 = ⟨.func,1,8,[.nilfn],false⟩ := rfl
theorem ty_44 : E.ty 44 = ⟨.struct [(0,3)],1,8,[(.int .i64 0)],true⟩ := rfl
theorem ty_45 : E.ty 45 = ⟨.slice 14,1,24,[(.imm .exact [])],false⟩ := rfl
theorem ty_47 : E.ty 47 = ⟨.func,1,8,[.nilfn],false⟩ := rfl
theorem ty_48 : E.ty 48 = ⟨.struct [(0,49)],4,32,[.nilfn,.nilfn,.nilfn,.nilfn],false⟩ := rfl
theorem ty_49 : E.ty 49 = ⟨.arr 4 50,4,32,[.nilfn,.nilfn,.nilfn,.nilfn],false⟩ := rfl
theorem ty_50 : E.ty 50 = ⟨.func,1,8,[.nilfn],false⟩ := rfl
theorem ty_51 : E.ty 51 = ⟨.struct [(0,0),(3,6),(4,6)],5,120,[(.imm .exact []),(.imm .exact []),(.imm .exact []),(.imm .exact []),(.imm .exact [])],false⟩ := rfl
theorem ty_52 : E.ty 52 = ⟨.slice 4,1,24,[(.imm .exact [])],false⟩ := rfl
theorem ty_53 : E.ty 53 = ⟨.str,1,16,[(.str [])],false⟩ := rfl
theorem ty_54 : E.ty 54 = ⟨.int .i8,1,1,[(.int .i8 0)],false⟩ := rfl
theorem ty_55 : E.ty 55 = ⟨.struct [(0,2),(1,2),(2,53),(3,56)],4,56,[(.int .i64 0),(.int .i64 0),(.str []),(.imm .exact [])],false⟩ := rfl
theorem ty_56 : E.ty 56 = ⟨.slice 55,1,24,[(.imm .exact [])],false⟩ := rfl
theorem ty_57 : E.ty 57 = ⟨.arr 4 58,4,32,[.nilfn,.nilfn,.nilfn,.nilfn],false⟩ := rfl
theorem ty_58 : E.ty 58 = ⟨.struct [(0,59)],1,8,[.nilfn],false⟩ := rfl
theorem ty_59 : E.ty 59 = ⟨.func,1,8,[.nilfn],false⟩ := rfl
theorem ty_60 : E.ty 60 = ⟨.struct [(0,30)],1,24,[(.imm .exact [])],false⟩ := rfl
theorem ty_61 : E.ty 61 = ⟨.struct [(0,30),(1,2),(2,7)],3,40,[(.imm .exact []),(.int .i64 0),(.bool false)],false⟩ := rfl
theorem ty_62 : E.ty 62 = ⟨.ptr 57,1,8,[.nilp],false⟩ := rfl
theorem ty_63 : E.ty 63 = ⟨.int .u64,1,8,[(.int .u64 0)],false⟩ := rfl
theorem ty_64 : E.ty 64 = ⟨.arr 4 7,4,4,[(.bool false),(.bool false),(.bool false),(.bool false)],true⟩ := rfl
theorem zsc : E.mp 228 = true := rfl
theorem zsb : E.mp 229 = true := rfl
theorem zsa : E.mp 241 = true := rfl
theorem zs9 : E.mp 242 = true := rfl
theorem zs8 : E.mp 243 = true := rfl
theorem zs7 : E.mp 246 = true := rfl
theorem zs6 : E.mp 273 = true := rfl
theorem zs5 : E.mp 274 = true := rfl
theorem zs4 : E.mp 275 = true := rfl
theorem zs3 : E.mp 276 = true := rfl
theorem zs2 : E.mp 291 = true := rfl
theorem zs1 : E.mp 292 = true := rfl
theorem zs0 : E.mp 293 = true := rfl
theorem zrz : E.mp 294 = true := rfl
theorem zry : E.mp 295 = true := rfl
theorem zrx : E.mp 305 = true := rfl
theorem zrw : E.mp 306 = true := rfl
theorem zrv : E.mp 308 = true := rfl

end Dv
