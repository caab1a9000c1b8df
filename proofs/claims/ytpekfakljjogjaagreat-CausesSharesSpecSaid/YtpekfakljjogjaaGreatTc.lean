/- Texts that a proof of this claim uses, joined: Lw.TCode. -/
import Derived.Test.YtpekfakljjogjaaGreatLwa
import Derived.Test.YtpekfakljjogjaaGreatCode
import Derived.KernelRfl
set_option linter.all false
/- The tidy code of the functions, as printed by program. -/
namespace Dv
open Go (IntKind BinOp UnOp)

abbrev xl (t a : Nat) (x : Xp) : Xp := .n (.load t (.t a)) (.cons a x .nil)
abbrev xn (t a : Nat) (x : Xp) : Xp := .n (.len t (.t a)) (.cons a x .nil)
abbrev xf (t a k : Nat) (x : Xp) : Xp := .n (.faddr t (.t a) k) (.cons a x .nil)
abbrev xe (a k : Nat) (x : Xp) : Xp := .n (.extract (.t a) k) (.cons a x .nil)
abbrev xi (t a b : Nat) (x y : Xp) : Xp := .n (.iaddr t (.t a) (.t b)) (.cons a x (.cons b y .nil))
abbrev xb (o : BinOp) (t a b : Nat) (x y : Xp) : Xp := .n (.bin o t (.t a) (.t b)) (.cons a x (.cons b y .nil))
abbrev xk (o : BinOp) (t a : Nat) (c : D) (x : Xp) : Xp := .n (.bin o t (.t a) (.c c)) (.cons a x .nil)

def n2 : List Nat := [0, 1, 2, 3, 4, 5, 6, 22, 27, 36, 41, 48, 58, 63, 73]
def t2 : TC := .seq (.run 0 [.eff none (some 1) (.box 0 (.t 0)) (.cons 0 (.v 0) .nil) none, .asg 2 (.c (.bool false))]) (.seq (.seq (.run 0 [.asg 7 (.ite (.ite (xk .gtr 2 9 (.int .i64 12)
 (xn 10 8 (xl 10 7 (xf 0 1 0 (.v 1))))) (.c (.bool true)) (xk .gtr 2 14 (.int .i64 4) (xn 9 13 (xl 9 12 (xf 0 1 1 (.v 1)))))) (.c (.bool true)) (xk .gtr 2 20 (.int .i64 6) (xn
 14 19 (xl 14 18 (xf 0 1 2 (.v 1))))))]) (.cond 7 (.seq (.run 0 [.asg 2 (.c (.bool false))]) (.ret)) (.skip))) (.seq (.seq (.run 0 [.asg 3 (.c (.int .i64 0))]) (.block 0 (.loop
 (.seq (.seq (.run 0 [.asg 8 (xb .lss 2 23 26 (.v 3) (xn 9 25 (xl 9 24 (xf 0 1 1 (.v 1)))))]) (.cond 8 (.skip) (.exit 0))) (.seq (.block 1 (.seq (.run 0 [.asg 9 (xk .gtr 2 35
 (.int .i64 16) (xn 6 34 (xl 6 33 (xi 9 31 32 (xl 9 30 (xf 0 1 1 (.v 1))) (.v 3)))))]) (.cond 9 (.seq (.run 0 [.asg 2 (.c (.bool false))]) (.ret)) (.skip)))) (.run 0 [.asg 3
 (xk .add 2 28 (.int .i64 1) (.v 3))])))))) (.seq (.seq (.run 0 [.asg 4 (.c (.int .i64 0))]) (.block 2 (.loop (.seq (.seq (.run 0 [.asg 10 (xb .lss 2 37 40 (.v 4) (xn 14 39
 (xl 14 38 (xf 0 1 2 (.v 1)))))]) (.cond 10 (.skip) (.exit 2))) (.seq (.block 3 (.seq (.run 0 [.asg 11 (xl 15 47 (xi 14 45 46 (xl 14 44 (xf 0 1 2 (.v 1))) (.v 4))), .eff none
 (some 5) (.alloc 15) .nil none, .eff none none (.store 15 (.t 5) (.t 48)) (.cons 5 (.v 5) (.cons 48 (.v 11) .nil)) none]) (.seq (.seq (.run 0 [.asg 12 (.ite (xk .gtr 2 51 (.int
 .i64 8) (xn 6 50 (xl 6 49 (xf 15 5 2 (.v 5))))) (.c (.bool true)) (xk .gtr 2 56 (.int .i64 8) (xn 16 55 (xl 16 54 (xf 15 5 3 (.v 5))))))]) (.cond 12 (.seq (.run 0 [.asg 2 (.c
 (.bool false))]) (.ret)) (.skip))) (.seq (.run 0 [.asg 6 (.c (.int .i64 0))]) (.block 4 (.loop (.seq (.seq (.run 0 [.asg 13 (xb .lss 2 59 62 (.v 6) (xn 16 61 (xl 16 60 (xf
 15 5 3 (.v 5)))))]) (.cond 13 (.skip) (.exit 4))) (.seq (.block 5 (.seq (.run 0 [.asg 14 (xk .gtr 2 72 (.int .i64 12) (xn 18 71 (xl 18 70 (xf 17 69 3 (xi 16 67 68 (xl 16 66
 (xf 15 5 3 (.v 5))) (.v 6))))))]) (.cond 14 (.seq (.run 0 [.asg 2 (.c (.bool false))]) (.ret)) (.skip)))) (.run 0 [.asg 6 (xk .add 2 64 (.int .i64 1) (.v 6))]))))))))) (.run
 0 [.asg 4 (xk .add 2 42 (.int .i64 1) (.v 4))])))))) (.seq (.run 0 [.asg 2 (xk .lss 2 75 (.int .i64 2000) (.n (.call 0 (.f 61) [(.t 74), (.c (.int .i64 2000))]) (.cons 74 (xl
 0 1 (.v 1)) .nil)))]) (.ret)))))
theorem c2 : TF E 2 n2 [(2, none)] t2 77 := tf_of (F := f2) rfl (by kernel_rfl) (by decide)

def n3 : List Nat := [0, 1, 2, 4, 5, 6, 7, 8, 10, 11, 12, 13, 18, 20, 22, 23, 24, 25, 29, 35, 36, 37, 38, 39, 59, 60, 61]
def t3 : TC := .seq (.run 0 [.eff none (some 2) (.box 0 (.t 0)) (.cons 0 (.v 0) .nil) none, .eff none (some 3) (.alloc 6) .nil none, .asg 4 (.c (.int .i64 0))]) (.seq (.seq (.run 0 [.asg
 4 (.n (.call 0 (.f 62) [(.t 14), (.t 15)]) (.cons 14 (xl 0 2 (.v 2)) (.cons 15 (.v 1) .nil)))]) (.seq (.run 0 [.asg 12 (xk .neq 3 17 (.int .i64 0) (.v 4))]) (.cond 12 (.seq
 (.run 0 [.eff none none (.store 6 (.t 4) (.c (.imm .exact []))) (.cons 4 (.v 3) .nil) none, .asg 4 (.v 4)]) (.ret)) (.skip)))) (.seq (.run 0 [.eff none (some 13) (.mkslice
 true 6 (.c (.int .i64 4)) (.c (.int .i64 4))) .nil none, .eff none none (.store 6 (.t 4) (.t 20)) (.cons 4 (.v 3) (.cons 20 (.v 13) .nil)) none]) (.seq (.seq (.run 0 [.asg
 14 (xl 9 21 (xf 0 2 1 (.v 2))), .asg 15 (xn 9 22 (.v 14)), .asg 16 (.c (.int .i64 0))]) (.block 0 (.loop (.seq (.run 0 [.asg 17 (xb .lss 2 24 23 (.v 16) (.v 15))]) (.seq (.cond
 17 (.skip) (.exit 0)) (.seq (.block 1 (.seq (.run 0 [.asg 5 (.v 16), .asg 6 (xl 6 27 (xi 9 22 24 (.v 14) (.v 16)))]) (.seq (.run 0 [.asg 18 (.n (.call 0 (.f 14) [(.t 30), (.t
 31), (.t 32)]) (.cons 30 (xl 0 2 (.v 2)) (.cons 31 (.v 1) (.cons 32 (.v 5) .nil)))), .asg 19 (xe 29 1 (.v 18)), .asg 7 (xe 29 0 (.v 18))]) (.seq (.run 0 [.asg 20 (.v 7), .asg
 21 (xn 6 36 (.v 20)), .asg 22 (.c (.int .i64 0))]) (.block 2 (.loop (.seq (.run 0 [.asg 23 (xb .lss 2 38 37 (.v 22) (.v 21))]) (.seq (.cond 23 (.skip) (.exit 2)) (.seq (.block
 3 (.seq (.run 0 [.asg 8 (.v 22), .asg 9 (xl 2 41 (xi 6 36 38 (.v 20) (.v 22)))]) (.run 13 [.eff none none (.store 2 (.t 54) (.t 53)) (.cons 54 (.n (.iaddr 6 (.t 43) (.c (.int
 .i64 0))) (.cons 43 (xl 6 4 (.v 3)) .nil)) (.cons 53 (xb .add 2 45 52 (xl 2 44 (.n (.iaddr 6 (.t 43) (.c (.int .i64 0))) (.cons 43 (xl 6 4 (.v 3)) .nil))) (.n (.maxi [(.t 51),
 (.c (.int .i64 0))]) (.cons 51 (xb .sub 2 46 50 (.v 9) (xl 2 49 (xi 6 47 48 (.v 6) (.v 8)))) .nil))) .nil)) (some 12)]))) (.run 0 [.asg 22 (xk .add 2 38 (.int .i64 1) (.v 22))]))))))))))
 (.run 0 [.asg 16 (xk .add 2 24 (.int .i64 1) (.v 16))]))))))) (.seq (.seq (.run 0 [.asg 24 (.n (.call 0 (.f 63) [(.t 57), (.t 58)]) (.cons 57 (xl 0 2 (.v 2)) (.cons 58 (.v
 1) .nil)))]) (.block 4 (.rfunc 24 [25, 26] (.seq (.run 0 [.asg 10 (.v 25)]) (.run 0 [.eff none (some 11) (.alloc 17) .nil none, .eff none none (.store 17 (.t 13) (.t 61)) (.cons
 13 (.v 11) (.cons 61 (.v 26) .nil)) none])) (.block 5 (.seq (.run 9 [.eff none none (.store 2 (.t 69) (.t 68)) (.cons 69 (.n (.iaddr 6 (.t 62) (.c (.int .i64 1))) (.cons 62
 (xl 6 4 (.v 3)) .nil)) (.cons 68 (.n (.maxi [(.t 65), (.t 67)]) (.cons 65 (xl 2 64 (.n (.iaddr 6 (.t 63) (.c (.int .i64 1))) (.cons 63 (xl 6 4 (.v 3)) .nil))) (.cons 67 (xl
 2 66 (xf 17 13 0 (.v 11))) .nil))) .nil)) (some 8)]) (.seq (.run 10 [.eff none none (.store 2 (.t 78) (.t 77)) (.cons 78 (.n (.iaddr 6 (.t 70) (.c (.int .i64 2))) (.cons 70
 (xl 6 4 (.v 3)) .nil)) (.cons 77 (xb .add 2 72 76 (xl 2 71 (.n (.iaddr 6 (.t 70) (.c (.int .i64 2))) (.cons 70 (xl 6 4 (.v 3)) .nil))) (xb .mul 2 74 75 (xl 2 73 (xf 17 13 1
 (.v 11))) (.v 10))) .nil)) (some 9)]) (.run 10 [.eff none none (.store 2 (.t 87) (.t 86)) (.cons 87 (.n (.iaddr 6 (.t 79) (.c (.int .i64 3))) (.cons 79 (xl 6 4 (.v 3)) .nil))
 (.cons 86 (xb .add 2 81 85 (xl 2 80 (.n (.iaddr 6 (.t 79) (.c (.int .i64 3))) (.cons 79 (xl 6 4 (.v 3)) .nil))) (xb .mul 2 83 84 (xl 2 82 (xf 17 13 2 (.v 11))) (.v 10))) .nil))
 (some 9)]))))))) (.seq (.run 0 [.eff none none (.store 6 (.t 4) (.t 88)) (.cons 4 (.v 3) (.cons 88 (xl 6 4 (.v 3)) .nil)) none, .asg 4 (.c (.int .i64 0))]) (.ret))))))
theorem c3 : TF E 3 n3 [(3, some 6), (4, none)] t3 89 := tf_of (F := f3) rfl (by kernel_rfl) (by decide)

def n4 : List Nat := [0, 1, 2, 4, 5, 6, 7, 8, 9, 11, 12, 13, 14, 19, 21, 26, 29, 35, 39, 54, 78, 85, 88, 92, 106]
def t4 : TC := .seq (.run 0 [.eff none (some 2) (.box 0 (.t 0)) (.cons 0 (.v 0) .nil) none, .asg 3 (.c (.imm .exact [])), .asg 4 (.c (.int .i64 0))]) (.seq (.run 0 [.asg 5 (.n (.call 0 (.f
 64) [(.t 15), (.t 16)]) (.cons 15 (xl 0 2 (.v 2)) (.cons 16 (.v 1) .nil)))]) (.seq (.seq (.run 0 [.asg 13 (xk .neq 3 18 (.int .i64 0) (.v 5))]) (.cond 13 (.seq (.run 0 [.asg
 3 (.c (.imm .exact [])), .asg 4 (.v 5)]) (.ret)) (.skip))) (.seq (.run 0 [.eff none (some 14) (.bslice true 6 4 [(0, (.c (.int .i64 0))), (1, (.c (.int .i64 0))), (2, (.c (.int
 .i64 0))), (3, (.c (.int .i64 0)))]) .nil none, .asg 6 (.v 14)]) (.seq (.seq (.run 0 [.asg 7 (.c (.int .i64 0))]) (.block 0 (.loop (.seq (.seq (.run 0 [.asg 15 (xb .lss 2 22
 25 (.v 7) (xn 9 24 (xl 9 23 (xf 0 2 1 (.v 2)))))]) (.cond 15 (.skip) (.exit 0))) (.seq (.block 1 (.seq (.run 0 [.asg 16 (.n (.call 0 (.f 18) [(.t 30), (.t 31), (.t 32)]) (.cons
 30 (xl 0 2 (.v 2)) (.cons 31 (.v 1) (.cons 32 (.v 7) .nil)))), .asg 17 (xe 29 1 (.v 16)), .asg 8 (xe 29 0 (.v 16))]) (.seq (.run 0 [.asg 9 (.c (.int .i64 0))]) (.block 2 (.loop
 (.seq (.seq (.run 0 [.asg 18 (xb .lss 2 36 38 (.v 9) (xn 6 37 (.v 8)))]) (.cond 18 (.skip) (.exit 2))) (.seq (.block 3 (.seq (.run 13 [.asg 19 (xb .gtr 2 45 53 (xl 2 44 (xi
 6 42 43 (.v 8) (.v 9))) (xl 2 52 (xi 6 50 51 (xl 6 49 (xi 9 47 48 (xl 9 46 (xf 0 2 1 (.v 2))) (.v 7))) (.v 9))))]) (.cond 19 (.run 20 [.eff none none (.store 2 (.t 73) (.t
 72)) (.cons 73 (.n (.iaddr 6 (.t 55) (.c (.int .i64 0))) (.cons 55 (.v 6) .nil)) (.cons 72 (xb .sub 2 63 71 (xb .add 2 58 62 (xl 2 57 (.n (.iaddr 6 (.t 56) (.c (.int .i64 0)))
 (.cons 56 (.v 6) .nil))) (xl 2 61 (xi 6 59 60 (.v 8) (.v 9)))) (xl 2 70 (xi 6 68 69 (xl 6 67 (xi 9 65 66 (xl 9 64 (xf 0 2 1 (.v 2))) (.v 7))) (.v 9)))) .nil)) (some 19)]) (.skip))))
 (.run 0 [.asg 9 (xk .add 2 40 (.int .i64 1) (.v 9))])))))))) (.run 0 [.asg 7 (xk .add 2 27 (.int .i64 1) (.v 7))])))))) (.seq (.seq (.run 0 [.asg 10 (.c (.int .i64 0))]) (.block
 4 (.loop (.seq (.seq (.run 0 [.asg 20 (xb .lss 2 74 77 (.v 10) (xn 14 76 (xl 14 75 (xf 0 2 2 (.v 2)))))]) (.cond 20 (.skip) (.exit 4))) (.seq (.block 5 (.seq (.run 0 [.asg
 21 (xl 15 84 (xi 14 82 83 (xl 14 81 (xf 0 2 2 (.v 2))) (.v 10))), .eff none (some 11) (.alloc 15) .nil none, .eff none none (.store 15 (.t 13) (.t 85)) (.cons 13 (.v 11) (.cons
 85 (.v 21) .nil)) none]) (.seq (.run 0 [.asg 22 (.n (.call 0 (.f 65) [(.t 87)]) (.cons 87 (xl 16 86 (xf 15 13 3 (.v 11))) .nil)), .eff none (some 12) (.alloc 17) .nil none,
 .eff none none (.store 17 (.t 14) (.t 88)) (.cons 14 (.v 12) (.cons 88 (.v 22) .nil)) none]) (.seq (.seq (.run 0 [.asg 23 (xb .lss 2 89 91 (.v 10) (xn 1 90 (.v 1)))]) (.cond
 23 (.run 9 [.eff none none (.store 17 (.t 14) (.t 100)) (.cons 14 (.v 12) (.cons 100 (xl 17 99 (xi 16 94 98 (xl 16 93 (xf 15 13 3 (.v 11))) (xl 2 97 (xi 1 95 96 (.v 1) (.v
 10))))) .nil)) (some 8)]) (.skip))) (.seq (.seq (.run 6 [.asg 24 (xb .gtr 2 102 105 (xl 2 101 (xf 17 14 0 (.v 12))) (xl 2 104 (.n (.iaddr 6 (.t 103) (.c (.int .i64 1))) (.cons
 103 (.v 6) .nil))))]) (.cond 24 (.run 0 [.eff none none (.store 2 (.t 110) (.t 109)) (.cons 110 (.n (.iaddr 6 (.t 107) (.c (.int .i64 1))) (.cons 107 (.v 6) .nil)) (.cons 109
 (xl 2 108 (xf 17 14 0 (.v 12))) .nil)) none]) (.skip))) (.seq (.run 13 [.eff none none (.store 2 (.t 122) (.t 121)) (.cons 122 (.n (.iaddr 6 (.t 111) (.c (.int .i64 2))) (.cons
 111 (.v 6) .nil)) (.cons 121 (xb .add 2 114 120 (xl 2 113 (.n (.iaddr 6 (.t 112) (.c (.int .i64 2))) (.cons 112 (.v 6) .nil))) (xb .mul 2 116 119 (xl 2 115 (xf 17 14 1 (.v
 12))) (xn 6 118 (xl 6 117 (xf 15 13 2 (.v 11)))))) .nil)) (some 12)]) (.run 13 [.eff none none (.store 2 (.t 134) (.t 133)) (.cons 134 (.n (.iaddr 6 (.t 123) (.c (.int .i64
 3))) (.cons 123 (.v 6) .nil)) (.cons 133 (xb .add 2 126 132 (xl 2 125 (.n (.iaddr 6 (.t 124) (.c (.int .i64 3))) (.cons 124 (.v 6) .nil))) (xb .mul 2 128 131 (xl 2 127 (xf
 17 14 2 (.v 12))) (xn 6 130 (xl 6 129 (xf 15 13 2 (.v 11)))))) .nil)) (some 12)]))))))) (.run 0 [.asg 10 (xk .add 2 79 (.int .i64 1) (.v 10))])))))) (.seq (.run 0 [.asg 3 (.v
 6), .asg 4 (.c (.int .i64 0))]) (.ret)))))))
theorem c4 : TF E 4 n4 [(3, none), (4, none)] t4 136 := tf_of (F := f4) rfl (by kernel_rfl) (by decide)

def n7 : List Nat := [0, 1, 2, 4, 5, 6, 7, 12, 20, 27, 28, 29, 38, 40]
def t7 : TC := .seq (.run 0 [.eff none (some 2) (.box 0 (.t 0)) (.cons 0 (.v 0) .nil) none, .asg 3 (.c (.imm .exact [])), .asg 4 (.c (.int .i64 0))]) (.seq (.seq (.run 0 [.asg 4 (.n (.call
 0 (.f 62) [(.t 8), (.t 9)]) (.cons 8 (xl 0 2 (.v 2)) (.cons 9 (.v 1) .nil)))]) (.seq (.run 0 [.asg 7 (xk .neq 3 11 (.int .i64 0) (.v 4))]) (.cond 7 (.seq (.run 0 [.asg 3 (.c
 (.imm .exact [])), .asg 4 (.v 4)]) (.ret)) (.skip)))) (.seq (.run 0 [.asg 5 (xn 1 14 (.v 1))]) (.seq (.seq (.run 0 [.asg 8 (xb .eql 2 16 19 (.v 5) (xn 14 18 (xl 14 17 (xf 0
 2 2 (.v 2)))))]) (.cond 8 (.seq (.run 0 [.asg 3 (.c (.imm .exact [])), .asg 4 (.c (.int .i64 280))]) (.ret)) (.skip))) (.seq (.seq (.run 0 [.asg 9 (xn 16 26 (xl 16 25 (xf 15
 24 3 (xi 14 22 23 (xl 14 21 (xf 0 2 2 (.v 2))) (.v 5))))), .asg 10 (.c (.int .i64 0))]) (.block 0 (.loop (.seq (.run 0 [.asg 11 (xb .lss 2 28 27 (.v 10) (.v 9))]) (.seq (.cond
 11 (.skip) (.exit 0)) (.seq (.block 1 (.seq (.run 0 [.asg 6 (.v 10)]) (.run 0 [.eff none (some 12) (.append 0 1 1 (.t 35) (.t 37)) (.cons 35 (.n (.slice 1 (.t 32) none (some
 (.t 33)) (some (.t 34))) (.cons 32 (.v 1) (.cons 33 (.v 5) (.cons 34 (.v 5) .nil)))) (.cons 37 (.n (.bslice false 1 1 [(0, (.t 36))]) (.cons 36 (.v 6) .nil)) .nil)) none, .eff
 none (some 13) (.append 0 4 4 (.t 31) (.t 39)) (.cons 31 (.v 3) (.cons 39 (.n (.bslice false 4 1 [(0, (.t 38))]) (.cons 38 (.v 12) .nil)) .nil)) none, .asg 3 (.v 13)]))) (.run
 0 [.asg 10 (xk .add 2 28 (.int .i64 1) (.v 10))]))))))) (.seq (.run 0 [.asg 3 (.v 3), .asg 4 (.c (.int .i64 0))]) (.ret))))))
theorem c7 : TF E 7 n7 [(3, none), (4, none)] t7 43 := tf_of (F := f7) rfl (by kernel_rfl) (by decide)

def n8 : List Nat := [0, 1, 2, 4, 5, 6, 7, 8, 13, 20, 30, 36, 39, 41]
def t8 : TC := .seq (.run 0 [.eff none (some 2) (.box 0 (.t 0)) (.cons 0 (.v 0) .nil) none, .asg 3 (.c (.imm .exact [])), .asg 4 (.c (.int .i64 0))]) (.seq (.run 0 [.asg 5 (.n (.call 0 (.f
 64) [(.t 9), (.t 10)]) (.cons 9 (xl 0 2 (.v 2)) (.cons 10 (.v 1) .nil)))]) (.seq (.seq (.run 0 [.asg 8 (xk .neq 3 12 (.int .i64 0) (.v 5))]) (.cond 8 (.seq (.run 0 [.asg 3
 (.c (.imm .exact [])), .asg 4 (.v 5)]) (.ret)) (.skip))) (.seq (.seq (.run 0 [.asg 9 (xb .eql 2 16 19 (xn 1 15 (.v 1)) (xn 14 18 (xl 14 17 (xf 0 2 2 (.v 2)))))]) (.cond 9 (.seq
 (.run 0 [.asg 3 (.c (.imm .exact [])), .asg 4 (.c (.int .i64 280))]) (.ret)) (.skip))) (.seq (.run 0 [.asg 6 (.c (.imm .exact []))]) (.seq (.seq (.run 0 [.asg 7 (.c (.int .i64
 0))]) (.block 0 (.loop (.seq (.seq (.run 0 [.asg 10 (xb .lss 2 21 29 (.v 7) (xn 16 28 (xl 16 27 (xf 15 26 3 (xi 14 23 25 (xl 14 22 (xf 0 2 2 (.v 2))) (xn 1 24 (.v 1)))))))])
 (.cond 10 (.skip) (.exit 0))) (.seq (.block 1 (.run 0 [.eff none (some 11) (.append 0 1 1 (.t 34) (.t 35)) (.cons 34 (.n (.bslice false 1 0 []) .nil) (.cons 35 (.v 1) .nil))
 none, .eff none (some 12) (.append 0 1 1 (.t 36) (.t 38)) (.cons 36 (.v 11) (.cons 38 (.n (.bslice false 1 1 [(0, (.t 37))]) (.cons 37 (.v 7) .nil)) .nil)) none, .eff none
 (some 13) (.append 0 4 4 (.t 33) (.t 40)) (.cons 33 (.v 6) (.cons 40 (.n (.bslice false 4 1 [(0, (.t 39))]) (.cons 39 (.v 12) .nil)) .nil)) none, .asg 6 (.v 13)])) (.run 0
 [.asg 7 (xk .add 2 31 (.int .i64 1) (.v 7))])))))) (.seq (.run 0 [.asg 3 (.v 6), .asg 4 (.c (.int .i64 0))]) (.ret)))))))
theorem c8 : TF E 8 n8 [(3, none), (4, none)] t8 43 := tf_of (F := f8) rfl (by kernel_rfl) (by decide)

def n14 : List Nat := [0, 1, 2, 3, 6, 7, 12, 20]
def t14 : TC := .seq (.run 0 [.eff none (some 3) (.box 0 (.t 0)) (.cons 0 (.v 0) .nil) none, .asg 4 (.c (.imm .exact [])), .asg 5 (.c (.int .i64 0))]) (.seq (.seq (.run 0 [.asg 5 (.n (.call
 0 (.f 66) [(.t 8), (.t 9)]) (.cons 8 (xl 0 3 (.v 3)) (.cons 9 (.v 1) .nil)))]) (.seq (.run 0 [.asg 6 (xk .neq 3 11 (.int .i64 0) (.v 5))]) (.cond 6 (.seq (.run 0 [.asg 4 (.c
 (.imm .exact [])), .asg 5 (.v 5)]) (.ret)) (.skip)))) (.seq (.seq (.run 0 [.asg 7 (.n (.un .not (.t 19)) (.cons 19 (.n (.call 0 (.f 67) [(.t 14), (.c (.int .i64 0)), (.t 18)])
 (.cons 14 (.v 2) (.cons 18 (xk .sub 2 17 (.int .i64 1) (xn 9 16 (xl 9 15 (xf 0 3 1 (.v 3))))) .nil))) .nil))]) (.cond 7 (.seq (.run 0 [.asg 4 (.c (.imm .exact [])), .asg 5
 (.c (.int .i64 270))]) (.ret)) (.skip))) (.seq (.run 0 [.asg 4 (xl 6 25 (xi 9 23 24 (.n (.call 0 (.f 68) [(.t 21), (.t 22)]) (.cons 21 (xl 0 3 (.v 3)) (.cons 22 (.v 1) .nil)))
 (.v 2))), .asg 5 (.c (.int .i64 0))]) (.ret))))
theorem c14 : TF E 14 n14 [(4, none), (5, none)] t14 27 := tf_of (F := f14) rfl (by kernel_rfl) (by decide)

def n15 : List Nat := [0, 1, 2, 3, 5, 7, 9, 11, 12, 14, 37, 38, 40, 41, 42, 43, 45, 53, 58, 59, 60, 61, 73, 76, 77, 78, 79, 81, 119, 121, 122, 123, 124, 126, 151, 153, 154, 155, 156, 158, 169]
def t15 : TC := .seq (.run 0 [.eff none (some 1) (.box 0 (.t 0)) (.cons 0 (.v 0) .nil) none, .asg 2 (.c (.int .i64 0))]) (.seq (.seq (.run 0 [.asg 10 (.ite (.ite (.ite (xk .gtr 2 17 (.int
 .i64 4096) (xn 10 16 (xl 10 15 (xf 0 1 0 (.v 1))))) (.c (.bool true)) (.n (.un .not (.t 23)) (.cons 23 (.n (.call 0 (.f 67) [(.t 22), (.c (.int .i64 1)), (.c (.int .i64 32))])
 (.cons 22 (xn 9 21 (xl 9 20 (xf 0 1 1 (.v 1)))) .nil)) .nil))) (.c (.bool true)) (xk .gtr 2 29 (.int .i64 64) (xn 14 28 (xl 14 27 (xf 0 1 2 (.v 1)))))) (.c (.bool true)) (.n
 (.un .not (.t 35)) (.cons 35 (.n (.call 0 (.f 69) [(.t 34), (.f 70)]) (.cons 34 (xl 10 33 (xf 0 1 0 (.v 1))) .nil)) .nil)))]) (.cond 10 (.seq (.run 0 [.asg 2 (.c (.int .i64
 270))]) (.ret)) (.skip))) (.seq (.run 0 [.eff none (some 11) (.mkmap 21) .nil none, .asg 3 (.v 11)]) (.seq (.seq (.run 0 [.asg 12 (xl 10 39 (xf 0 1 0 (.v 1))), .asg 13 (xn
 10 40 (.v 12)), .asg 14 (.c (.int .i64 0))]) (.block 0 (.loop (.seq (.run 0 [.asg 15 (xb .lss 2 42 41 (.v 14) (.v 13))]) (.seq (.cond 15 (.skip) (.exit 0)) (.seq (.block 1
 (.seq (.run 0 [.asg 16 (xl 20 44 (xi 10 40 42 (.v 12) (.v 14))), .eff none (some 4) (.alloc 20) .nil none, .eff none none (.store 20 (.t 5) (.t 45)) (.cons 5 (.v 4) (.cons
 45 (.v 16) .nil)) none]) (.seq (.seq (.run 0 [.asg 17 (.ite (xk .lss 2 47 (.int .i64 0) (xl 2 46 (xf 20 5 1 (.v 4)))) (.c (.bool true)) (xk .lss 2 51 (.int .i64 0) (xl 2 50
 (xf 20 5 2 (.v 4)))))]) (.cond 17 (.seq (.run 0 [.asg 2 (.c (.int .i64 270))]) (.ret)) (.skip))) (.run 0 [.eff none none (.mapset 21 (.t 54) (.t 55) (.c (.bool true))) (.cons
 54 (.v 3) (.cons 55 (xl 20 5 (.v 4)) .nil)) none])))) (.run 0 [.asg 14 (xk .add 2 42 (.int .i64 1) (.v 14))]))))))) (.seq (.seq (.run 0 [.asg 18 (xl 9 57 (xf 0 1 1 (.v 1))),
 .asg 19 (xn 9 58 (.v 18)), .asg 20 (.c (.int .i64 0))]) (.block 2 (.loop (.seq (.run 0 [.asg 21 (xb .lss 2 60 59 (.v 20) (.v 19))]) (.seq (.cond 21 (.skip) (.exit 2)) (.seq
 (.block 3 (.seq (.run 0 [.asg 5 (xl 6 62 (xi 9 58 60 (.v 18) (.v 20)))]) (.seq (.run 0 [.asg 22 (.ite (xb .neq 2 65 68 (xn 6 64 (.v 5)) (xn 10 67 (xl 10 66 (xf 0 1 0 (.v 1)))))
 (.c (.bool true)) (.n (.call 0 (.f 71) [(.t 71), (.f 72)]) (.cons 71 (.v 5) .nil)))]) (.cond 22 (.seq (.run 0 [.asg 2 (.c (.int .i64 270))]) (.ret)) (.skip))))) (.run 0 [.asg
 20 (xk .add 2 60 (.int .i64 1) (.v 20))]))))))) (.seq (.seq (.run 0 [.asg 23 (xl 14 75 (xf 0 1 2 (.v 1))), .asg 24 (xn 14 76 (.v 23)), .asg 25 (.c (.int .i64 0))]) (.block
 4 (.loop (.seq (.run 0 [.asg 26 (xb .lss 2 78 77 (.v 25) (.v 24))]) (.seq (.cond 26 (.skip) (.exit 4)) (.seq (.block 5 (.seq (.run 0 [.asg 27 (xl 15 80 (xi 14 76 78 (.v 23)
 (.v 25))), .eff none (some 6) (.alloc 15) .nil none, .eff none none (.store 15 (.t 9) (.t 81)) (.cons 9 (.v 6) (.cons 81 (.v 27) .nil)) none]) (.seq (.seq (.run 38 [.asg 28
 (.ite (.ite (.ite (.ite (xk .eql 2 84 (.int .i64 0) (xn 6 83 (xl 6 82 (xf 15 9 2 (.v 6))))) (.c (.bool true)) (.n (.un .not (.t 90)) (.cons 90 (.n (.call 0 (.f 67) [(.t 89),
 (.c (.int .i64 1)), (.c (.int .i64 96))]) (.cons 89 (xn 16 88 (xl 16 87 (xf 15 9 3 (.v 6)))) .nil)) .nil))) (.c (.bool true)) (.n (.un .not (.t 96)) (.cons 96 (.n (.call 0
 (.f 73) [(.t 95), (.f 74)]) (.cons 95 (xl 6 94 (xf 15 9 2 (.v 6))) .nil)) .nil))) (.c (.bool true)) (xk .lss 2 103 (.int .i64 0) (xl 2 102 (.n (.iaddr 6 (.t 101) (.c (.int
 .i64 0))) (.cons 101 (xl 6 100 (xf 15 9 2 (.v 6))) .nil))))) (.c (.bool true)) (xb .geq 2 114 117 (xl 2 113 (xi 6 108 112 (xl 6 107 (xf 15 9 2 (.v 6))) (xk .sub 2 111 (.int
 .i64 1) (xn 6 110 (xl 6 109 (xf 15 9 2 (.v 6))))))) (xn 9 116 (xl 9 115 (xf 0 1 1 (.v 1))))))]) (.cond 28 (.seq (.run 0 [.asg 2 (.c (.int .i64 270))]) (.ret)) (.skip))) (.seq
 (.run 0 [.asg 29 (xl 16 120 (xf 15 9 3 (.v 6))), .asg 30 (xn 16 121 (.v 29)), .asg 31 (.c (.int .i64 0))]) (.block 6 (.loop (.seq (.run 0 [.asg 32 (xb .lss 2 123 122 (.v 31)
 (.v 30))]) (.seq (.cond 32 (.skip) (.exit 6)) (.seq (.block 7 (.seq (.run 0 [.asg 33 (xl 17 125 (xi 16 121 123 (.v 29) (.v 31))), .eff none (some 7) (.alloc 17) .nil none,
 .eff none none (.store 17 (.t 11) (.t 126)) (.cons 11 (.v 7) (.cons 126 (.v 33) .nil)) none]) (.seq (.run 0 [.asg 8 (.c (.int .i64 1048576))]) (.seq (.seq (.run 0 [.asg 34
 (.ite (.ite (.ite (.n (.un .not (.t 130)) (.cons 130 (.n (.call 0 (.f 67) [(.t 128), (.c (.int .i64 0)), (.t 129)]) (.cons 128 (xl 2 127 (xf 17 11 0 (.v 7))) (.cons 129 (.v
 8) .nil))) .nil)) (.c (.bool true)) (.n (.un .not (.t 136)) (.cons 136 (.n (.call 0 (.f 67) [(.t 134), (.c (.int .i64 0)), (.t 135)]) (.cons 134 (xl 2 133 (xf 17 11 1 (.v 7)))
 (.cons 135 (.v 8) .nil))) .nil))) (.c (.bool true)) (.n (.un .not (.t 143)) (.cons 143 (.n (.call 0 (.f 67) [(.t 141), (.c (.int .i64 0)), (.t 142)]) (.cons 141 (xl 2 140 (xf
 17 11 2 (.v 7))) (.cons 142 (.v 8) .nil))) .nil))) (.c (.bool true)) (.n (.un .not (.t 149)) (.cons 149 (.n (.call 0 (.f 75) [(.t 148), (.f 76)]) (.cons 148 (xl 18 147 (xf
 17 11 3 (.v 7))) .nil)) .nil)))]) (.cond 34 (.seq (.run 0 [.asg 2 (.c (.int .i64 270))]) (.ret)) (.skip))) (.seq (.run 0 [.asg 35 (xl 18 152 (xf 17 11 3 (.v 7))), .asg 36 (xn
 18 153 (.v 35)), .asg 37 (.c (.int .i64 0))]) (.block 8 (.loop (.seq (.run 0 [.asg 38 (xb .lss 2 155 154 (.v 37) (.v 36))]) (.seq (.cond 38 (.skip) (.exit 8)) (.seq (.block
 9 (.seq (.run 0 [.asg 39 (xl 19 157 (xi 18 153 155 (.v 35) (.v 37))), .eff none (some 9) (.alloc 19) .nil none, .eff none none (.store 19 (.t 14) (.t 158)) (.cons 14 (.v 9)
 (.cons 158 (.v 39) .nil)) none]) (.seq (.run 0 [.asg 40 (.ite (.n (.un .not (.t 162)) (.cons 162 (.n (.lookup 21 (.t 159) (.t 161) false) (.cons 159 (.v 3) (.cons 161 (xl 20
 160 (xf 19 14 0 (.v 9))) .nil))) .nil)) (.c (.bool true)) (.n (.un .not (.t 167)) (.cons 167 (.n (.call 0 (.f 67) [(.t 166), (.c (.int .i64 1)), (.c (.int .i64 8))]) (.cons
 166 (xl 2 165 (xf 19 14 1 (.v 9))) .nil)) .nil)))]) (.cond 40 (.seq (.run 0 [.asg 2 (.c (.int .i64 270))]) (.ret)) (.skip))))) (.run 0 [.asg 37 (xk .add 2 155 (.int .i64 1)
 (.v 37))]))))))))))) (.run 0 [.asg 31 (xk .add 2 123 (.int .i64 1) (.v 31))])))))))))) (.run 0 [.asg 25 (xk .add 2 78 (.int .i64 1) (.v 25))]))))))) (.seq (.run 0 [.asg 2 (.c
 (.int .i64 0))]) (.ret)))))))
theorem c15 : TF E 15 n15 [(2, none)] t15 173 := tf_of (F := f15) rfl (by kernel_rfl) (by decide)

def n18 : List Nat := [0, 1, 2, 3, 6, 7, 8, 12, 26]
def t18 : TC := .seq (.run 0 [.eff none (some 3) (.box 0 (.t 0)) (.cons 0 (.v 0) .nil) none, .asg 4 (.c (.imm .exact [])), .asg 5 (.c (.int .i64 0))]) (.seq (.run 0 [.asg 6 (.n (.call 0 (.f
 19) [(.t 9)]) (.cons 9 (xl 0 3 (.v 3)) .nil))]) (.seq (.seq (.run 0 [.asg 7 (xk .neq 3 11 (.int .i64 0) (.v 6))]) (.cond 7 (.seq (.run 0 [.asg 4 (.c (.imm .exact [])), .asg
 5 (.v 6)]) (.ret)) (.skip))) (.seq (.seq (.run 0 [.asg 8 (.ite (.n (.un .not (.t 16)) (.cons 16 (.n (.call 0 (.f 78) [(.t 14), (.t 15)]) (.cons 14 (xl 0 3 (.v 3)) (.cons 15
 (.v 1) .nil))) .nil)) (.c (.bool true)) (.n (.un .not (.t 24)) (.cons 24 (.n (.call 0 (.f 79) [(.t 19), (.c (.int .i64 0)), (.t 23)]) (.cons 19 (.v 2) (.cons 23 (xk .sub 2
 22 (.int .i64 1) (xn 9 21 (xl 9 20 (xf 0 3 1 (.v 3))))) .nil))) .nil)))]) (.cond 8 (.seq (.run 0 [.asg 4 (.c (.imm .exact [])), .asg 5 (.c (.int .i64 270))]) (.ret)) (.skip)))
 (.seq (.run 0 [.asg 4 (.n (.call 0 (.f 80) [(.t 27), (.t 28), (.t 29)]) (.cons 27 (xl 0 3 (.v 3)) (.cons 28 (.v 1) (.cons 29 (.v 2) .nil)))), .asg 5 (.c (.int .i64 0))]) (.ret)))))
theorem c18 : TF E 18 n18 [(4, none), (5, none)] t18 31 := tf_of (F := f18) rfl (by kernel_rfl) (by decide)

def n19 : List Nat := [0, 1, 2, 3, 4, 5, 6, 28, 33, 70, 75, 87, 92, 104, 109, 119]
def t19 : TC := .seq (.run 0 [.eff none (some 1) (.box 0 (.t 0)) (.cons 0 (.v 0) .nil) none, .asg 2 (.c (.int .i64 0))]) (.seq (.seq (.run 0 [.asg 7 (.ite (.ite (.ite (xk .gtr 2 9 (.int .i64
 4096) (xn 10 8 (xl 10 7 (xf 0 1 0 (.v 1))))) (.c (.bool true)) (xk .lss 2 14 (.int .i64 1) (xn 9 13 (xl 9 12 (xf 0 1 1 (.v 1)))))) (.c (.bool true)) (xk .gtr 2 20 (.int .i64
 32) (xn 9 19 (xl 9 18 (xf 0 1 1 (.v 1)))))) (.c (.bool true)) (xk .gtr 2 26 (.int .i64 64) (xn 14 25 (xl 14 24 (xf 0 1 2 (.v 1))))))]) (.cond 7 (.seq (.run 0 [.asg 2 (.c (.int
 .i64 270))]) (.ret)) (.skip))) (.seq (.seq (.run 0 [.asg 3 (.c (.int .i64 0))]) (.block 0 (.loop (.seq (.seq (.run 0 [.asg 8 (xb .lss 2 29 32 (.v 3) (xn 10 31 (xl 10 30 (xf
 0 1 0 (.v 1)))))]) (.cond 8 (.skip) (.exit 0))) (.seq (.block 1 (.seq (.run 35 [.asg 9 (.ite (.ite (xk .lss 2 41 (.int .i64 0) (xl 2 40 (xf 20 39 1 (xi 10 37 38 (xl 10 36 (xf
 0 1 0 (.v 1))) (.v 3))))) (.c (.bool true)) (xk .lss 2 49 (.int .i64 0) (xl 2 48 (xf 20 47 2 (xi 10 45 46 (xl 10 44 (xf 0 1 0 (.v 1))) (.v 3)))))) (.c (.bool true)) (.ite (xk
 .gtr 2 53 (.int .i64 0) (.v 3)) (.n (.un .not (.t 67)) (.cons 67 (.n (.call 0 (.f 81) [(.t 61), (.t 66)]) (.cons 61 (xl 20 60 (xi 10 57 59 (xl 10 56 (xf 0 1 0 (.v 1))) (xk
 .sub 2 58 (.int .i64 1) (.v 3)))) (.cons 66 (xl 20 65 (xi 10 63 64 (xl 10 62 (xf 0 1 0 (.v 1))) (.v 3))) .nil))) .nil)) (.c (.bool false))))]) (.cond 9 (.seq (.run 0 [.asg
 2 (.c (.int .i64 270))]) (.ret)) (.skip)))) (.run 0 [.asg 3 (xk .add 2 34 (.int .i64 1) (.v 3))])))))) (.seq (.seq (.run 0 [.asg 4 (.c (.int .i64 0))]) (.block 2 (.loop (.seq
 (.seq (.run 0 [.asg 10 (xb .lss 2 71 74 (.v 4) (xn 9 73 (xl 9 72 (xf 0 1 1 (.v 1)))))]) (.cond 10 (.skip) (.exit 2))) (.seq (.block 3 (.seq (.seq (.run 10 [.asg 11 (xb .neq
 2 83 86 (xn 6 82 (xl 6 81 (xi 9 79 80 (xl 9 78 (xf 0 1 1 (.v 1))) (.v 4)))) (xn 10 85 (xl 10 84 (xf 0 1 0 (.v 1)))))]) (.cond 11 (.seq (.run 0 [.asg 2 (.c (.int .i64 270))])
 (.ret)) (.skip))) (.seq (.run 0 [.asg 5 (.c (.int .i64 0))]) (.block 4 (.loop (.seq (.seq (.run 0 [.asg 12 (xb .lss 2 88 91 (.v 5) (xn 10 90 (xl 10 89 (xf 0 1 0 (.v 1)))))])
 (.cond 12 (.skip) (.exit 4))) (.seq (.block 5 (.seq (.run 0 [.asg 13 (.n (.un .not (.t 103)) (.cons 103 (.n (.call 0 (.f 79) [(.t 102), (.c (.int .i64 0)), (.c (.int .i64 4096))])
 (.cons 102 (xl 2 101 (xi 6 99 100 (xl 6 98 (xi 9 96 97 (xl 9 95 (xf 0 1 1 (.v 1))) (.v 4))) (.v 5))) .nil)) .nil))]) (.cond 13 (.seq (.run 0 [.asg 2 (.c (.int .i64 270))])
 (.ret)) (.skip)))) (.run 0 [.asg 5 (xk .add 2 93 (.int .i64 1) (.v 5))])))))))) (.run 0 [.asg 4 (xk .add 2 76 (.int .i64 1) (.v 4))])))))) (.seq (.seq (.run 0 [.asg 6 (.c (.int
 .i64 0))]) (.block 6 (.loop (.seq (.seq (.run 0 [.asg 14 (xb .lss 2 105 108 (.v 6) (xn 14 107 (xl 14 106 (xf 0 1 2 (.v 1)))))]) (.cond 14 (.skip) (.exit 6))) (.seq (.block
 7 (.seq (.run 8 [.asg 15 (.n (.un .not (.t 118)) (.cons 118 (.n (.call 0 (.f 82) [(.t 112), (.t 117)]) (.cons 112 (xl 0 1 (.v 1)) (.cons 117 (xl 15 116 (xi 14 114 115 (xl 14
 113 (xf 0 1 2 (.v 1))) (.v 6))) .nil))) .nil))]) (.cond 15 (.seq (.run 0 [.asg 2 (.c (.int .i64 270))]) (.ret)) (.skip)))) (.run 0 [.asg 6 (xk .add 2 110 (.int .i64 1) (.v
 6))])))))) (.seq (.run 0 [.asg 2 (.c (.int .i64 0))]) (.ret))))))
theorem c19 : TF E 19 n19 [(2, none)] t19 120 := tf_of (F := f19) rfl (by kernel_rfl) (by decide)

def n20 : List Nat := [0, 1, 4, 5, 10, 14, 25]
def t20 : TC := .seq (.run 0 [.asg 2 (.c (.bool false))]) (.seq (.seq (.run 0 [.asg 4 (xb .neq 2 7 9 (xn 6 6 (.v 0)) (xn 6 8 (.v 1)))]) (.cond 4 (.seq (.run 0 [.asg 2 (.c (.bool false))])
 (.ret)) (.skip))) (.seq (.seq (.run 0 [.asg 3 (.c (.int .i64 0))]) (.block 0 (.loop (.seq (.seq (.run 0 [.asg 5 (xb .lss 2 11 13 (.v 3) (xn 6 12 (.v 0)))]) (.cond 5 (.skip)
 (.exit 0))) (.seq (.block 1 (.seq (.run 9 [.asg 6 (xb .neq 2 20 24 (xl 2 19 (xi 6 17 18 (.v 0) (.v 3))) (xl 2 23 (xi 6 21 22 (.v 1) (.v 3))))]) (.cond 6 (.seq (.run 0 [.asg
 2 (.c (.bool false))]) (.ret)) (.skip)))) (.run 0 [.asg 3 (xk .add 2 15 (.int .i64 1) (.v 3))])))))) (.seq (.run 0 [.asg 2 (.c (.bool true))]) (.ret))))
theorem c20 : TF E 20 n20 [(2, none)] t20 26 := tf_of (F := f20) rfl (by kernel_rfl) (by decide)

def n22 : List Nat := [0, 1, 2, 4, 5, 6, 8, 9, 10, 11, 12, 17, 21, 22, 23, 29, 30, 31, 32, 44, 45, 49, 50, 51]
def t22 : TC := .seq (.run 0 [.eff none (some 2) (.box 0 (.t 0)) (.cons 0 (.v 0) .nil) none, .asg 3 (.c (.imm .exact [])), .asg 4 (.c (.int .i64 0))]) (.seq (.seq (.run 0 [.asg 4 (.n (.call
 0 (.f 83) [(.t 13), (.t 14)]) (.cons 13 (xl 0 2 (.v 2)) (.cons 14 (.v 1) .nil)))]) (.seq (.run 0 [.asg 11 (xk .neq 3 16 (.int .i64 0) (.v 4))]) (.cond 11 (.seq (.run 0 [.asg
 3 (.c (.imm .exact [])), .asg 4 (.v 4)]) (.ret)) (.skip)))) (.seq (.run 0 [.eff none (some 5) (.alloc 22) .nil none]) (.seq (.seq (.run 0 [.asg 12 (.n (.call 0 (.f 84) [(.t
 19), (.t 20)]) (.cons 19 (xl 0 2 (.v 2)) (.cons 20 (.v 1) .nil)))]) (.block 0 (.rfunc 12 [13, 14] (.run 0 [.asg 6 (.v 14)]) (.block 1 (.run 0 [.eff none none (.store 2 (.t
 28) (.t 27)) (.cons 28 (.n (.iaddr 22 (.t 6) (.c (.int .i64 0))) (.cons 6 (.v 5) .nil)) (.cons 27 (xb .add 2 25 26 (xl 2 24 (.n (.iaddr 22 (.t 6) (.c (.int .i64 0))) (.cons
 6 (.v 5) .nil))) (.v 6)) .nil)) none]))))) (.seq (.seq (.run 0 [.asg 15 (.v 1), .asg 16 (xn 6 29 (.v 15)), .asg 17 (.c (.int .i64 0))]) (.block 2 (.loop (.seq (.run 0 [.asg
 18 (xb .lss 2 31 30 (.v 17) (.v 16))]) (.seq (.cond 18 (.skip) (.exit 2)) (.seq (.block 3 (.seq (.run 0 [.asg 7 (.v 17), .asg 8 (xl 2 34 (xi 6 29 31 (.v 15) (.v 17)))]) (.seq
 (.seq (.run 19 [.asg 19 (xl 17 43 (xi 16 41 42 (xl 16 40 (xf 15 39 3 (xi 14 37 38 (xl 14 36 (xf 0 2 2 (.v 2))) (.v 7)))) (.v 8))), .asg 20 (xf 0 2 2 (.v 2)), .asg 21 (xf 15
 48 2 (xi 14 46 47 (xl 14 45 (.v 20)) (.v 7))), .asg 22 (xl 6 49 (.v 21)), .asg 23 (xn 6 50 (.v 22)), .eff none (some 9) (.alloc 17) .nil (some 16), .eff none none (.store 17
 (.t 11) (.t 44)) (.cons 11 (.v 9) (.cons 44 (.v 19) .nil)) (some 17), .asg 10 (.v 23)]) (.chk [(20, 9), (21, 9), (22, 9)])) (.seq (.run 0 [.eff none none (.store 2 (.t 57)
 (.t 56)) (.cons 57 (.n (.iaddr 22 (.t 6) (.c (.int .i64 1))) (.cons 6 (.v 5) .nil)) (.cons 56 (.n (.maxi [(.t 53), (.t 55)]) (.cons 53 (xl 2 52 (.n (.iaddr 22 (.t 6) (.c (.int
 .i64 1))) (.cons 6 (.v 5) .nil))) (.cons 55 (xl 2 54 (xf 17 11 0 (.v 9))) .nil))) .nil)) none]) (.seq (.run 0 [.eff none none (.store 2 (.t 65) (.t 64)) (.cons 65 (.n (.iaddr
 22 (.t 6) (.c (.int .i64 2))) (.cons 6 (.v 5) .nil)) (.cons 64 (xb .add 2 59 63 (xl 2 58 (.n (.iaddr 22 (.t 6) (.c (.int .i64 2))) (.cons 6 (.v 5) .nil))) (xb .mul 2 61 62
 (xl 2 60 (xf 17 11 1 (.v 9))) (.v 10))) .nil)) none]) (.run 0 [.eff none none (.store 2 (.t 73) (.t 72)) (.cons 73 (.n (.iaddr 22 (.t 6) (.c (.int .i64 3))) (.cons 6 (.v 5)
 .nil)) (.cons 72 (xb .add 2 67 71 (xl 2 66 (.n (.iaddr 22 (.t 6) (.c (.int .i64 3))) (.cons 6 (.v 5) .nil))) (xb .mul 2 69 70 (xl 2 68 (xf 17 11 2 (.v 9))) (.v 10))) .nil))
 none])))))) (.run 0 [.asg 17 (xk .add 2 31 (.int .i64 1) (.v 17))]))))))) (.seq (.run 0 [.asg 3 (.n (.slice 22 (.t 6) none none none) (.cons 6 (.v 5) .nil)), .asg 4 (.c (.int
 .i64 0))]) (.ret))))))
theorem c22 : TF E 22 n22 [(3, none), (4, none)] t22 76 := tf_of (F := f22) rfl (by kernel_rfl) (by decide)

def n23 : List Nat := [0, 1, 2, 4, 5, 6, 7, 8, 9, 10, 14, 27, 31, 35, 49]
def t23 : TC := .seq (.run 0 [.eff none (some 2) (.box 0 (.t 0)) (.cons 0 (.v 0) .nil) none, .asg 3 (.c (.imm .exact [])), .asg 4 (.c (.int .i64 0))]) (.seq (.run 0 [.asg 5 (.n (.call 0 (.f
 19) [(.t 11)]) (.cons 11 (xl 0 2 (.v 2)) .nil))]) (.seq (.seq (.run 0 [.asg 10 (xk .neq 3 13 (.int .i64 0) (.v 5))]) (.cond 10 (.seq (.run 0 [.asg 3 (.c (.imm .exact [])),
 .asg 4 (.v 5)]) (.ret)) (.skip))) (.seq (.seq (.run 0 [.asg 11 (.ite (.n (.un .not (.t 18)) (.cons 18 (.n (.call 0 (.f 78) [(.t 16), (.t 17)]) (.cons 16 (xl 0 2 (.v 2)) (.cons
 17 (.v 1) .nil))) .nil)) (.c (.bool true)) (xb .neq 2 22 25 (xn 6 21 (.v 1)) (xn 14 24 (xl 14 23 (xf 0 2 2 (.v 2))))))]) (.cond 11 (.seq (.run 0 [.asg 3 (.c (.imm .exact [])),
 .asg 4 (.c (.int .i64 270))]) (.ret)) (.skip))) (.seq (.run 0 [.eff none (some 12) (.bslice true 6 4 [(0, (.t 30)), (1, (.c (.int .i64 0))), (2, (.c (.int .i64 0))), (3, (.c
 (.int .i64 0)))]) (.cons 30 (.n (.call 0 (.f 85) [(.t 28), (.t 29)]) (.cons 28 (xl 0 2 (.v 2)) (.cons 29 (.v 1) .nil))) .nil) none, .asg 6 (.v 12)]) (.seq (.seq (.run 0 [.asg
 7 (.c (.int .i64 0))]) (.block 0 (.loop (.seq (.seq (.run 0 [.asg 13 (xb .lss 2 32 34 (.v 7) (xn 6 33 (.v 1)))]) (.cond 13 (.skip) (.exit 0))) (.seq (.block 1 (.seq (.run 14
 [.asg 14 (xl 17 48 (xi 16 43 47 (xl 16 42 (xf 15 41 3 (xi 14 39 40 (xl 14 38 (xf 0 2 2 (.v 2))) (.v 7)))) (xl 2 46 (xi 6 44 45 (.v 1) (.v 7))))), .eff none (some 8) (.alloc
 17) .nil (some 12), .eff none none (.store 17 (.t 9) (.t 49)) (.cons 9 (.v 8) (.cons 49 (.v 14) .nil)) (some 13)]) (.seq (.run 0 [.asg 9 (xn 6 55 (xl 6 54 (xf 15 53 2 (xi 14
 51 52 (xl 14 50 (xf 0 2 2 (.v 2))) (.v 7)))))]) (.seq (.run 9 [.eff none none (.store 2 (.t 64) (.t 63)) (.cons 64 (.n (.iaddr 6 (.t 57) (.c (.int .i64 1))) (.cons 57 (.v 6)
 .nil)) (.cons 63 (.n (.maxi [(.t 60), (.t 62)]) (.cons 60 (xl 2 59 (.n (.iaddr 6 (.t 58) (.c (.int .i64 1))) (.cons 58 (.v 6) .nil))) (.cons 62 (xl 2 61 (xf 17 9 0 (.v 8)))
 .nil))) .nil)) (some 8)]) (.seq (.run 11 [.eff none none (.store 2 (.t 74) (.t 73)) (.cons 74 (.n (.iaddr 6 (.t 65) (.c (.int .i64 2))) (.cons 65 (.v 6) .nil)) (.cons 73 (xb
 .add 2 68 72 (xl 2 67 (.n (.iaddr 6 (.t 66) (.c (.int .i64 2))) (.cons 66 (.v 6) .nil))) (xb .mul 2 70 71 (xl 2 69 (xf 17 9 1 (.v 8))) (.v 9))) .nil)) (some 10)]) (.run 11
 [.eff none none (.store 2 (.t 84) (.t 83)) (.cons 84 (.n (.iaddr 6 (.t 75) (.c (.int .i64 3))) (.cons 75 (.v 6) .nil)) (.cons 83 (xb .add 2 78 82 (xl 2 77 (.n (.iaddr 6 (.t
 76) (.c (.int .i64 3))) (.cons 76 (.v 6) .nil))) (xb .mul 2 80 81 (xl 2 79 (xf 17 9 2 (.v 8))) (.v 9))) .nil)) (some 10)])))))) (.run 0 [.asg 7 (xk .add 2 36 (.int .i64 1)
 (.v 7))])))))) (.seq (.run 0 [.asg 3 (.v 6), .asg 4 (.c (.int .i64 0))]) (.ret)))))))
theorem c23 : TF E 23 n23 [(3, none), (4, none)] t23 86 := tf_of (F := f23) rfl (by kernel_rfl) (by decide)

def n61 : List Nat := [0, 1, 2, 4, 5, 6, 16]
def t61 : TC := .seq (.run 0 [.eff none (some 2) (.box 0 (.t 0)) (.cons 0 (.v 0) .nil) none, .asg 3 (.c (.int .i64 0))]) (.seq (.run 0 [.asg 4 (.c (.int .i64 1))]) (.seq (.seq (.run 0 [.asg
 5 (.c (.int .i64 0))]) (.block 0 (.loop (.seq (.seq (.run 0 [.asg 6 (.ite (xb .lss 2 7 10 (.v 5) (xn 14 9 (xl 14 8 (xf 0 2 2 (.v 2))))) (xb .lss 2 13 14 (.v 4) (.v 1)) (.c
 (.bool false)))]) (.cond 6 (.skip) (.exit 0))) (.seq (.block 1 (.run 0 [.asg 4 (xb .mul 2 19 27 (.v 4) (.n (.maxi [(.c (.int .i64 1)), (.t 26)]) (.cons 26 (xn 16 25 (xl 16
 24 (xf 15 23 3 (xi 14 21 22 (xl 14 20 (xf 0 2 2 (.v 2))) (.v 5))))) .nil)))])) (.run 0 [.asg 5 (xk .add 2 17 (.int .i64 1) (.v 5))])))))) (.seq (.run 0 [.asg 3 (.n (.mini [(.t
 29), (.t 30)]) (.cons 29 (.v 4) (.cons 30 (.v 1) .nil)))]) (.ret))))
theorem c61 : TF E 61 n61 [(3, none)] t61 32 := tf_of (F := f61) rfl (by kernel_rfl) (by decide)

def n62 : List Nat := [0, 1, 2, 4, 5, 6, 10, 17, 18, 19, 20, 21, 37]
def t62 : TC := .seq (.run 0 [.eff none (some 2) (.box 0 (.t 0)) (.cons 0 (.v 0) .nil) none, .asg 3 (.c (.int .i64 0))]) (.seq (.seq (.run 0 [.asg 3 (.n (.call 0 (.f 15) [(.t 7)]) (.cons 7
 (xl 0 2 (.v 2)) .nil))]) (.seq (.run 0 [.asg 6 (xk .neq 3 9 (.int .i64 0) (.v 3))]) (.cond 6 (.seq (.run 0 [.asg 3 (.v 3)]) (.ret)) (.skip)))) (.seq (.seq (.run 0 [.asg 7 (xb
 .gtr 2 13 16 (xn 1 12 (.v 1)) (xn 14 15 (xl 14 14 (xf 0 2 2 (.v 2)))))]) (.cond 7 (.seq (.run 0 [.asg 3 (.c (.int .i64 280))]) (.ret)) (.skip))) (.seq (.seq (.run 0 [.asg 8
 (.v 1), .asg 9 (xn 1 18 (.v 8)), .asg 10 (.c (.int .i64 0))]) (.block 0 (.loop (.seq (.run 0 [.asg 11 (xb .lss 2 20 19 (.v 10) (.v 9))]) (.seq (.cond 11 (.skip) (.exit 0))
 (.seq (.block 1 (.seq (.run 0 [.asg 4 (.v 10), .asg 5 (xl 2 23 (xi 1 18 20 (.v 8) (.v 10)))]) (.seq (.run 0 [.asg 12 (.ite (xk .lss 2 25 (.int .i64 0) (.v 5)) (.c (.bool true))
 (xb .geq 2 28 35 (.v 5) (xn 16 34 (xl 16 33 (xf 15 32 3 (xi 14 30 31 (xl 14 29 (xf 0 2 2 (.v 2))) (.v 4)))))))]) (.cond 12 (.seq (.run 0 [.asg 3 (.c (.int .i64 280))]) (.ret))
 (.skip))))) (.run 0 [.asg 10 (xk .add 2 20 (.int .i64 1) (.v 10))]))))))) (.seq (.run 0 [.asg 3 (.c (.int .i64 0))]) (.ret)))))
theorem c62 : TF E 62 n62 [(3, none)] t62 39 := tf_of (F := f62) rfl (by kernel_rfl) (by decide)

def n63 : List Nat := [0, 1, 2, 3, 4]
def t63 : TC := .seq (.run 0 [.eff none (some 2) (.box 0 (.t 0)) (.cons 0 (.v 0) .nil) none, .eff none (some 3) (.box 1 (.t 1)) (.cons 1 (.v 1) .nil) none, .asg 4 (.c .nilfn)]) (.seq (.run
 0 [.asg 4 (.n (.mkfn 102 [(.t 2), (.t 3)]) (.cons 2 (.v 2) (.cons 3 (.v 3) .nil)))]) (.ret))
theorem c63 : TF E 63 n63 [(4, none)] t63 6 := tf_of (F := f63) rfl (by kernel_rfl) (by decide)

def n64 : List Nat := [0, 1, 2, 4, 5, 9, 14]
def t64 : TC := .seq (.run 0 [.eff none (some 2) (.box 0 (.t 0)) (.cons 0 (.v 0) .nil) none, .asg 3 (.c (.int .i64 0))]) (.seq (.run 0 [.asg 4 (.n (.call 0 (.f 19) [(.t 6)]) (.cons 6 (xl 0
 2 (.v 2)) .nil))]) (.seq (.seq (.run 0 [.asg 5 (xk .neq 3 8 (.int .i64 0) (.v 4))]) (.cond 5 (.seq (.run 0 [.asg 3 (.v 4)]) (.ret)) (.skip))) (.seq (.seq (.run 0 [.asg 6 (.n
 (.un .not (.t 13)) (.cons 13 (.n (.call 0 (.f 103) [(.t 11), (.t 12)]) (.cons 11 (xl 0 2 (.v 2)) (.cons 12 (.v 1) .nil))) .nil))]) (.cond 6 (.seq (.run 0 [.asg 3 (.c (.int
 .i64 280))]) (.ret)) (.skip))) (.seq (.run 0 [.asg 3 (.c (.int .i64 0))]) (.ret)))))
theorem c64 : TF E 64 n64 [(3, none)] t64 15 := tf_of (F := f64) rfl (by kernel_rfl) (by decide)

def n65 : List Nat := [0, 2, 3, 4, 17, 21, 31, 45, 59]
def t65 : TC := .seq (.run 0 [.eff none (some 1) (.alloc 17) .nil none]) (.seq (.run 15 [.asg 4 (.n (.build 17 [(0, (.t 8)), (1, (.t 12)), (2, (.t 16))]) (.cons 8 (xl 2 7 (xf 17 6 0 (.n (.iaddr
 16 (.t 5) (.c (.int .i64 0))) (.cons 5 (.v 0) .nil)))) (.cons 12 (xl 2 11 (xf 17 10 1 (.n (.iaddr 16 (.t 9) (.c (.int .i64 0))) (.cons 9 (.v 0) .nil)))) (.cons 16 (xl 2 15
 (xf 17 14 2 (.n (.iaddr 16 (.t 13) (.c (.int .i64 0))) (.cons 13 (.v 0) .nil)))) .nil)))), .eff none (some 2) (.alloc 17) .nil (some 13), .eff none none (.store 17 (.t 3) (.t
 17)) (.cons 3 (.v 2) (.cons 17 (.v 4) .nil)) (some 14)]) (.seq (.seq (.run 0 [.asg 3 (.c (.int .i64 1))]) (.block 0 (.loop (.seq (.seq (.run 0 [.asg 5 (xb .lss 2 18 20 (.v
 3) (xn 16 19 (.v 0)))]) (.cond 5 (.skip) (.exit 0))) (.seq (.block 1 (.seq (.seq (.run 8 [.asg 6 (xb .lss 2 28 30 (xl 2 27 (xf 17 26 0 (xi 16 24 25 (.v 0) (.v 3)))) (xl 2 29
 (xf 17 3 0 (.v 2))))]) (.cond 6 (.run 0 [.eff none none (.store 2 (.t 37) (.t 36)) (.cons 37 (xf 17 3 0 (.v 2)) (.cons 36 (xl 2 35 (xf 17 34 0 (xi 16 32 33 (.v 0) (.v 3))))
 .nil)) none]) (.skip))) (.seq (.seq (.run 8 [.asg 7 (xb .lss 2 42 44 (xl 2 41 (xf 17 40 1 (xi 16 38 39 (.v 0) (.v 3)))) (xl 2 43 (xf 17 3 1 (.v 2))))]) (.cond 7 (.run 0 [.eff
 none none (.store 2 (.t 51) (.t 50)) (.cons 51 (xf 17 3 1 (.v 2)) (.cons 50 (xl 2 49 (xf 17 48 1 (xi 16 46 47 (.v 0) (.v 3)))) .nil)) none]) (.skip))) (.seq (.run 8 [.asg 8
 (xb .lss 2 56 58 (xl 2 55 (xf 17 54 2 (xi 16 52 53 (.v 0) (.v 3)))) (xl 2 57 (xf 17 3 2 (.v 2))))]) (.cond 8 (.run 0 [.eff none none (.store 2 (.t 65) (.t 64)) (.cons 65 (xf
 17 3 2 (.v 2)) (.cons 64 (xl 2 63 (xf 17 62 2 (xi 16 60 61 (.v 0) (.v 3)))) .nil)) none]) (.skip)))))) (.run 0 [.asg 3 (xk .add 2 22 (.int .i64 1) (.v 3))])))))) (.seq (.run
 0 [.eff none none (.store 17 (.t 2) (.t 66)) (.cons 2 (.v 1) (.cons 66 (xl 17 3 (.v 2)) .nil)) none]) (.ret))))
theorem c65 : TF E 65 n65 [(1, some 17)] t65 67 := tf_of (F := f65) rfl (by kernel_rfl) (by decide)

def n66 : List Nat := [0, 1, 2, 4, 5, 6, 7, 11, 18, 19, 20, 21, 22, 36]
def t66 : TC := .seq (.run 0 [.eff none (some 2) (.box 0 (.t 0)) (.cons 0 (.v 0) .nil) none, .asg 3 (.c (.int .i64 0))]) (.seq (.seq (.run 0 [.asg 4 (.n (.call 0 (.f 15) [(.t 8)]) (.cons 8
 (xl 0 2 (.v 2)) .nil))]) (.seq (.run 0 [.asg 7 (xk .neq 3 10 (.int .i64 0) (.v 4))]) (.cond 7 (.seq (.run 0 [.asg 3 (.v 4)]) (.ret)) (.skip)))) (.seq (.seq (.run 0 [.asg 8
 (xb .gtr 2 14 17 (xn 6 13 (.v 1)) (xn 14 16 (xl 14 15 (xf 0 2 2 (.v 2)))))]) (.cond 8 (.seq (.run 0 [.asg 3 (.c (.int .i64 270))]) (.ret)) (.skip))) (.seq (.seq (.run 0 [.asg
 9 (.v 1), .asg 10 (xn 6 19 (.v 9)), .asg 11 (.c (.int .i64 0))]) (.block 0 (.loop (.seq (.run 0 [.asg 12 (xb .lss 2 21 20 (.v 11) (.v 10))]) (.seq (.cond 12 (.skip) (.exit
 0)) (.seq (.block 1 (.seq (.run 0 [.asg 5 (.v 11), .asg 6 (xl 2 24 (xi 6 19 21 (.v 9) (.v 11)))]) (.seq (.run 0 [.asg 13 (.n (.un .not (.t 35)) (.cons 35 (.n (.call 0 (.f 67)
 [(.t 26), (.c (.int .i64 0)), (.t 34)]) (.cons 26 (.v 6) (.cons 34 (xk .sub 2 33 (.int .i64 1) (xn 16 32 (xl 16 31 (xf 15 30 3 (xi 14 28 29 (xl 14 27 (xf 0 2 2 (.v 2))) (.v
 5)))))) .nil))) .nil))]) (.cond 13 (.seq (.run 0 [.asg 3 (.c (.int .i64 270))]) (.ret)) (.skip))))) (.run 0 [.asg 11 (xk .add 2 21 (.int .i64 1) (.v 11))]))))))) (.seq (.run
 0 [.asg 3 (.c (.int .i64 0))]) (.ret)))))
theorem c66 : TF E 66 n66 [(3, none)] t66 38 := tf_of (F := f66) rfl (by kernel_rfl) (by decide)

def n67 : List Nat := [0, 1, 2, 6]
def t67 : TC := .seq (.run 0 [.asg 3 (.c (.bool false))]) (.seq (.run 0 [.asg 3 (.ite (xb .leq 2 7 8 (.v 1) (.v 0)) (xb .leq 2 11 12 (.v 0) (.v 2)) (.c (.bool false)))]) (.ret))
theorem c67 : TF E 67 n67 [(3, none)] t67 15 := tf_of (F := f67) rfl (by kernel_rfl) (by decide)

def n68 : List Nat := [0, 1, 2, 4, 5, 6, 7, 8, 9, 10, 11, 12, 14, 15, 16, 17, 20, 27, 28, 30, 31, 32, 34, 38, 39, 44, 45, 46, 50, 54]
def t68 : TC := .seq (.run 0 [.eff none (some 2) (.box 0 (.t 0)) (.cons 0 (.v 0) .nil) none, .asg 3 (.c (.imm .exact []))]) (.seq (.run 0 [.eff none (some 11) (.mkmap 26) .nil none, .eff none
 (some 4) (.alloc 26) .nil none, .eff none none (.store 26 (.t 5) (.t 12)) (.cons 5 (.v 4) (.cons 12 (.v 11) .nil)) none]) (.seq (.seq (.run 0 [.asg 12 (xl 10 13 (xf 0 2 0 (.v
 2))), .asg 13 (xn 10 14 (.v 12)), .asg 14 (.c (.int .i64 0))]) (.block 0 (.loop (.seq (.run 0 [.asg 15 (xb .lss 2 16 15 (.v 14) (.v 13))]) (.seq (.cond 15 (.skip) (.exit 0))
 (.seq (.block 1 (.seq (.run 0 [.asg 16 (xl 20 19 (xi 10 14 16 (.v 12) (.v 14))), .eff none (some 6) (.alloc 20) .nil none, .asg 5 (.v 14), .eff none none (.store 20 (.t 7)
 (.t 20)) (.cons 7 (.v 6) (.cons 20 (.v 16) .nil)) none]) (.run 0 [.eff none none (.mapset 26 (.t 21) (.t 22) (.t 23)) (.cons 21 (xl 26 5 (.v 4)) (.cons 22 (xl 20 7 (.v 6))
 (.cons 23 (.v 5) .nil))) none]))) (.run 0 [.asg 14 (xk .add 2 16 (.int .i64 1) (.v 14))]))))))) (.seq (.run 0 [.asg 17 (xn 9 26 (xl 9 25 (xf 0 2 1 (.v 2)))), .eff none (some
 18) (.mkslice true 9 (.t 27) (.t 27)) (.cons 27 (.v 17) (.cons 27 (.v 17) .nil)) none, .eff none (some 7) (.alloc 9) .nil none, .eff none none (.store 9 (.t 8) (.t 28)) (.cons
 8 (.v 7) (.cons 28 (.v 18) .nil)) none]) (.seq (.seq (.run 0 [.asg 19 (xn 9 29 (xl 9 8 (.v 7))), .asg 20 (.c (.int .i64 0))]) (.block 2 (.loop (.seq (.run 0 [.asg 21 (xb .lss
 2 31 30 (.v 20) (.v 19))]) (.seq (.cond 21 (.skip) (.exit 2)) (.seq (.block 3 (.seq (.run 0 [.asg 8 (.v 20)]) (.run 8 [.asg 22 (xl 9 8 (.v 7)), .asg 23 (xn 10 37 (xl 10 36
 (xf 0 2 0 (.v 2)))), .eff none (some 24) (.mkslice true 6 (.t 38) (.t 38)) (.cons 38 (.v 23) (.cons 38 (.v 23) .nil)) (some 5), .eff none none (.store 6 (.t 40) (.t 39)) (.cons
 40 (xi 9 34 35 (.v 22) (.v 8)) (.cons 39 (.v 24) .nil)) (some 7)]))) (.run 0 [.asg 20 (xk .add 2 31 (.int .i64 1) (.v 20))]))))))) (.seq (.seq (.run 0 [.asg 25 (.n (.call 0
 (.f 104) [(.t 42), (.t 43)]) (.cons 42 (xl 0 2 (.v 2)) (.cons 43 (.v 1) .nil)))]) (.block 4 (.rfunc 25 [26, 27] (.seq (.run 0 [.asg 9 (.v 26)]) (.run 0 [.eff none (some 10)
 (.alloc 19) .nil none, .eff none none (.store 19 (.t 11) (.t 46)) (.cons 11 (.v 10) (.cons 46 (.v 27) .nil)) none])) (.block 5 (.run 15 [.asg 28 (xl 6 49 (xi 9 47 48 (xl 9
 8 (.v 7)) (.v 9))), .asg 29 (.n (.lookup 26 (.t 51) (.t 53) false) (.cons 51 (xl 26 5 (.v 4)) (.cons 53 (xl 20 52 (xf 19 11 0 (.v 10))) .nil))), .eff none none (.store 2 (.t
 60) (.t 59)) (.cons 60 (xi 6 50 54 (.v 28) (.v 29)) (.cons 59 (xb .add 2 56 58 (xl 2 55 (xi 6 50 54 (.v 28) (.v 29))) (xl 2 57 (xf 19 11 1 (.v 10)))) .nil)) (some 14)])))))
 (.seq (.run 0 [.asg 3 (xl 9 8 (.v 7))]) (.ret)))))))
theorem c68 : TF E 68 n68 [(3, none)] t68 62 := tf_of (F := f68) rfl (by kernel_rfl) (by decide)

def n69 : List Nat := [0, 1, 4, 5, 9, 23]
def t69 : TC := .seq (.run 0 [.asg 2 (.c (.bool false))]) (.seq (.seq (.run 0 [.asg 3 (.c (.int .i64 1))]) (.block 0 (.loop (.seq (.seq (.run 0 [.asg 4 (xb .lss 2 6 8 (.v 3) (xn 10 7 (.v 0)))])
 (.cond 4 (.skip) (.exit 0))) (.seq (.block 1 (.seq (.run 12 [.asg 5 (xk .geq 2 22 (.int .i64 0) (.n (.call 0 (.t 12) [(.t 17), (.t 21)]) (.cons 12 (.v 1) (.cons 17 (xl 20 16
 (xi 10 13 15 (.v 0) (xk .sub 2 14 (.int .i64 1) (.v 3)))) (.cons 21 (xl 20 20 (xi 10 18 19 (.v 0) (.v 3))) .nil)))))]) (.cond 5 (.seq (.run 0 [.asg 2 (.c (.bool false))]) (.ret))
 (.skip)))) (.run 0 [.asg 3 (xk .add 2 10 (.int .i64 1) (.v 3))])))))) (.seq (.run 0 [.asg 2 (.c (.bool true))]) (.ret)))
theorem c69 : TF E 69 n69 [(2, none)] t69 24 := tf_of (F := f69) rfl (by kernel_rfl) (by decide)

def n70 : List Nat := [0, 1, 2, 3, 4, 9, 11]
def t70 : TC := .seq (.run 0 [.eff none (some 2) (.box 20 (.t 0)) (.cons 0 (.v 0) .nil) none, .eff none (some 3) (.box 20 (.t 1)) (.cons 1 (.v 1) .nil) none, .asg 4 (.c (.int .i64 0))]) (.seq
 (.seq (.run 0 [.asg 5 (xb .neq 7 6 8 (xl 7 5 (xf 20 2 0 (.v 2))) (xl 7 7 (xf 20 3 0 (.v 3))))]) (.cond 5 (.seq (.seq (.run 0 [.asg 6 (xl 7 10 (xf 20 3 0 (.v 3)))]) (.cond 6
 (.seq (.run 0 [.asg 4 (.c (.int .i64 (-1)))]) (.ret)) (.skip))) (.seq (.run 0 [.asg 4 (.c (.int .i64 1))]) (.ret))) (.skip))) (.seq (.run 13 [.asg 4 (.n (.call 0 (.f 105) [(.t
 22)]) (.cons 22 (.n (.bslice false 6 2 [(0, (.t 16)), (1, (.t 21))]) (.cons 16 (.n (.call 0 (.f 74) [(.t 13), (.t 15)]) (.cons 13 (xl 2 12 (xf 20 2 1 (.v 2))) (.cons 15 (xl
 2 14 (xf 20 3 1 (.v 3))) .nil))) (.cons 21 (.n (.call 0 (.f 74) [(.t 18), (.t 20)]) (.cons 18 (xl 2 17 (xf 20 2 2 (.v 2))) (.cons 20 (xl 2 19 (xf 20 3 2 (.v 3))) .nil))) .nil)))
 .nil))]) (.ret)))
theorem c70 : TF E 70 n70 [(4, none)] t70 24 := tf_of (F := f70) rfl (by kernel_rfl) (by decide)

def n71 : List Nat := [0, 1, 4]
def t71 : TC := .seq (.run 0 [.asg 2 (.c (.bool false))]) (.seq (.run 0 [.asg 2 (xk .geq 2 7 (.int .i64 0) (.n (.call 0 (.f 106) [(.t 5), (.t 6)]) (.cons 5 (.v 0) (.cons 6 (.v 1) .nil))))])
 (.ret))
theorem c71 : TF E 71 n71 [(2, none)] t71 9 := tf_of (F := f71) rfl (by kernel_rfl) (by decide)

def n72 : List Nat := [0, 2]
def t72 : TC := .seq (.run 0 [.asg 1 (.c (.bool false))]) (.seq (.run 0 [.asg 1 (.n (.un .not (.t 4)) (.cons 4 (.n (.call 0 (.f 67) [(.t 3), (.c (.int .i64 0)), (.c (.int .i64 4096))]) (.cons
 3 (.v 0) .nil)) .nil))]) (.ret))
theorem c72 : TF E 72 n72 [(1, none)] t72 6 := tf_of (F := f72) rfl (by kernel_rfl) (by decide)

def n73 : List Nat := [0, 1, 4, 5, 9, 23]
def t73 : TC := .seq (.run 0 [.asg 2 (.c (.bool false))]) (.seq (.seq (.run 0 [.asg 3 (.c (.int .i64 1))]) (.block 0 (.loop (.seq (.seq (.run 0 [.asg 4 (xb .lss 2 6 8 (.v 3) (xn 6 7 (.v 0)))])
 (.cond 4 (.skip) (.exit 0))) (.seq (.block 1 (.seq (.run 12 [.asg 5 (xk .geq 2 22 (.int .i64 0) (.n (.call 0 (.t 12) [(.t 17), (.t 21)]) (.cons 12 (.v 1) (.cons 17 (xl 2 16
 (xi 6 13 15 (.v 0) (xk .sub 2 14 (.int .i64 1) (.v 3)))) (.cons 21 (xl 2 20 (xi 6 18 19 (.v 0) (.v 3))) .nil)))))]) (.cond 5 (.seq (.run 0 [.asg 2 (.c (.bool false))]) (.ret))
 (.skip)))) (.run 0 [.asg 3 (xk .add 2 10 (.int .i64 1) (.v 3))])))))) (.seq (.run 0 [.asg 2 (.c (.bool true))]) (.ret)))
theorem c73 : TF E 73 n73 [(2, none)] t73 24 := tf_of (F := f73) rfl (by kernel_rfl) (by decide)

def n74 : List Nat := [0, 1, 4, 5, 6, 11, 12, 13, 16, 19]
def t74 : TC := .seq (.run 0 [.asg 2 (.c (.int .i64 0))]) (.seq (.run 0 [.asg 3 (.n (.call 0 (.f 107) [(.t 7)]) (.cons 7 (.v 0) .nil))]) (.seq (.run 0 [.asg 4 (.n (.call 0 (.f 107) [(.t 9)])
 (.cons 9 (.v 1) .nil))]) (.seq (.seq (.run 0 [.asg 5 (.v 3)]) (.cond 5 (.seq (.seq (.run 0 [.asg 6 (.v 4)]) (.cond 6 (.seq (.run 0 [.asg 2 (.c (.int .i64 0))]) (.ret)) (.skip)))
 (.seq (.run 0 [.asg 2 (.c (.int .i64 (-1)))]) (.ret))) (.skip))) (.seq (.seq (.run 0 [.asg 7 (.v 4)]) (.cond 7 (.seq (.run 0 [.asg 2 (.c (.int .i64 1))]) (.ret)) (.skip)))
 (.seq (.seq (.run 0 [.asg 8 (xb .lss 2 14 15 (.v 0) (.v 1))]) (.cond 8 (.seq (.run 0 [.asg 2 (.c (.int .i64 (-1)))]) (.ret)) (.skip))) (.seq (.seq (.run 0 [.asg 9 (xb .gtr
 2 17 18 (.v 0) (.v 1))]) (.cond 9 (.seq (.run 0 [.asg 2 (.c (.int .i64 1))]) (.ret)) (.skip))) (.seq (.run 0 [.asg 2 (.c (.int .i64 0))]) (.ret))))))))
theorem c74 : TF E 74 n74 [(2, none)] t74 20 := tf_of (F := f74) rfl (by kernel_rfl) (by decide)

def n75 : List Nat := [0, 1, 4, 5, 9, 23]
def t75 : TC := .seq (.run 0 [.asg 2 (.c (.bool false))]) (.seq (.seq (.run 0 [.asg 3 (.c (.int .i64 1))]) (.block 0 (.loop (.seq (.seq (.run 0 [.asg 4 (xb .lss 2 6 8 (.v 3) (xn 18 7 (.v 0)))])
 (.cond 4 (.skip) (.exit 0))) (.seq (.block 1 (.seq (.run 12 [.asg 5 (xk .geq 2 22 (.int .i64 0) (.n (.call 0 (.t 12) [(.t 17), (.t 21)]) (.cons 12 (.v 1) (.cons 17 (xl 19 16
 (xi 18 13 15 (.v 0) (xk .sub 2 14 (.int .i64 1) (.v 3)))) (.cons 21 (xl 19 20 (xi 18 18 19 (.v 0) (.v 3))) .nil)))))]) (.cond 5 (.seq (.run 0 [.asg 2 (.c (.bool false))]) (.ret))
 (.skip)))) (.run 0 [.asg 3 (xk .add 2 10 (.int .i64 1) (.v 3))])))))) (.seq (.run 0 [.asg 2 (.c (.bool true))]) (.ret)))
theorem c75 : TF E 75 n75 [(2, none)] t75 24 := tf_of (F := f75) rfl (by kernel_rfl) (by decide)

def n76 : List Nat := [0, 1, 2, 3, 4]
def t76 : TC := .seq (.run 0 [.eff none (some 2) (.box 19 (.t 0)) (.cons 0 (.v 0) .nil) none, .eff none (some 3) (.box 19 (.t 1)) (.cons 1 (.v 1) .nil) none, .asg 4 (.c (.int .i64 0))]) (.seq
 (.run 0 [.asg 4 (.n (.call 0 (.f 70) [(.t 6), (.t 8)]) (.cons 6 (xl 20 5 (xf 19 2 0 (.v 2))) (.cons 8 (xl 20 7 (xf 19 3 0 (.v 3))) .nil)))]) (.ret))
theorem c76 : TF E 76 n76 [(4, none)] t76 10 := tf_of (F := f76) rfl (by kernel_rfl) (by decide)

def n78 : List Nat := [0, 1, 2, 4, 5, 11, 15, 31]
def t78 : TC := .seq (.run 0 [.eff none (some 2) (.box 0 (.t 0)) (.cons 0 (.v 0) .nil) none, .asg 3 (.c (.bool false))]) (.seq (.seq (.run 0 [.asg 5 (xb .gtr 2 7 10 (xn 6 6 (.v 1)) (xn 14
 9 (xl 14 8 (xf 0 2 2 (.v 2)))))]) (.cond 5 (.seq (.run 0 [.asg 3 (.c (.bool false))]) (.ret)) (.skip))) (.seq (.seq (.run 0 [.asg 4 (.c (.int .i64 0))]) (.block 0 (.loop (.seq
 (.seq (.run 0 [.asg 6 (xb .lss 2 12 14 (.v 4) (xn 6 13 (.v 1)))]) (.cond 6 (.skip) (.exit 0))) (.seq (.block 1 (.seq (.run 14 [.asg 7 (.n (.un .not (.t 30)) (.cons 30 (.n (.call
 0 (.f 79) [(.t 21), (.c (.int .i64 0)), (.t 29)]) (.cons 21 (xl 2 20 (xi 6 18 19 (.v 1) (.v 4))) (.cons 29 (xk .sub 2 28 (.int .i64 1) (xn 16 27 (xl 16 26 (xf 15 25 3 (xi 14
 23 24 (xl 14 22 (xf 0 2 2 (.v 2))) (.v 4)))))) .nil))) .nil))]) (.cond 7 (.seq (.run 0 [.asg 3 (.c (.bool false))]) (.ret)) (.skip)))) (.run 0 [.asg 4 (xk .add 2 16 (.int .i64
 1) (.v 4))])))))) (.seq (.run 0 [.asg 3 (.c (.bool true))]) (.ret))))
theorem c78 : TF E 78 n78 [(3, none)] t78 32 := tf_of (F := f78) rfl (by kernel_rfl) (by decide)

def n79 : List Nat := [0, 1, 2, 6]
def t79 : TC := .seq (.run 0 [.asg 3 (.c (.bool false))]) (.seq (.run 0 [.asg 3 (.ite (xb .leq 2 7 8 (.v 1) (.v 0)) (xb .leq 2 11 12 (.v 0) (.v 2)) (.c (.bool false)))]) (.ret))
theorem c79 : TF E 79 n79 [(3, none)] t79 15 := tf_of (F := f79) rfl (by kernel_rfl) (by decide)

def n80 : List Nat := [0, 1, 2, 3, 6, 7, 8, 9, 10, 11, 14, 15, 19, 29, 46]
def t80 : TC := .seq (.run 0 [.eff none (some 3) (.box 0 (.t 0)) (.cons 0 (.v 0) .nil) none, .asg 4 (.c (.imm .exact []))]) (.seq (.run 0 [.asg 10 (xn 10 13 (xl 10 12 (xf 0 3 0 (.v 3)))),
 .eff none (some 11) (.mkslice true 6 (.t 14) (.t 14)) (.cons 14 (.v 10) (.cons 14 (.v 10) .nil)) none, .asg 5 (.v 11)]) (.seq (.seq (.run 0 [.asg 6 (.c (.int .i64 0))]) (.block
 0 (.loop (.seq (.seq (.run 0 [.asg 12 (xb .lss 2 16 18 (.v 6) (xn 6 17 (.v 1)))]) (.cond 12 (.skip) (.exit 0))) (.seq (.block 1 (.seq (.seq (.run 0 [.asg 13 (.n (.un .not (.t
 28)) (.cons 28 (.n (.call 0 (.f 108) [(.t 26), (.t 27)]) (.cons 26 (xl 15 25 (xi 14 23 24 (xl 14 22 (xf 0 3 2 (.v 3))) (.v 6))) (.cons 27 (.v 2) .nil))) .nil))]) (.cond 13
 (.exit 1) (.skip))) (.seq (.run 14 [.asg 7 (xl 18 41 (xf 17 40 3 (xi 16 35 39 (xl 16 34 (xf 15 33 3 (xi 14 31 32 (xl 14 30 (xf 0 3 2 (.v 3))) (.v 6)))) (xl 2 38 (xi 6 36 37
 (.v 1) (.v 6))))))]) (.seq (.run 0 [.asg 8 (.c (.int .i64 0))]) (.block 2 (.loop (.seq (.seq (.run 0 [.asg 14 (xb .lss 2 43 45 (.v 8) (xn 18 44 (.v 7)))]) (.cond 14 (.skip)
 (.exit 2))) (.seq (.block 3 (.seq (.run 9 [.asg 9 (.n (.call 0 (.f 109) [(.t 50), (.t 55)]) (.cons 50 (xl 10 49 (xf 0 3 0 (.v 3))) (.cons 55 (xl 20 54 (xf 19 53 0 (xi 18 51
 52 (.v 7) (.v 8)))) .nil)))]) (.run 14 [.eff none none (.store 2 (.t 69) (.t 68)) (.cons 69 (xi 6 57 58 (.v 5) (.v 9)) (.cons 68 (xb .add 2 62 67 (xl 2 61 (xi 6 59 60 (.v 5)
 (.v 9))) (xl 2 66 (xf 19 65 1 (xi 18 63 64 (.v 7) (.v 8))))) .nil)) (some 13)]))) (.run 0 [.asg 8 (xk .add 2 47 (.int .i64 1) (.v 8))]))))))))) (.run 0 [.asg 6 (xk .add 2 20
 (.int .i64 1) (.v 6))])))))) (.seq (.run 0 [.asg 4 (.v 5)]) (.ret))))
theorem c80 : TF E 80 n80 [(4, none)] t80 71 := tf_of (F := f80) rfl (by kernel_rfl) (by decide)

def n81 : List Nat := [0, 1, 2, 3, 4, 9, 16]
def t81 : TC := .seq (.run 0 [.eff none (some 2) (.box 20 (.t 0)) (.cons 0 (.v 0) .nil) none, .eff none (some 3) (.box 20 (.t 1)) (.cons 1 (.v 1) .nil) none, .asg 4 (.c (.bool false))]) (.seq
 (.seq (.run 0 [.asg 5 (xb .neq 7 6 8 (xl 7 5 (xf 20 2 0 (.v 2))) (xl 7 7 (xf 20 3 0 (.v 3))))]) (.cond 5 (.seq (.run 0 [.asg 4 (xl 7 10 (xf 20 3 0 (.v 3)))]) (.ret)) (.skip)))
 (.seq (.seq (.run 0 [.asg 6 (xb .neq 2 13 15 (xl 2 12 (xf 20 2 1 (.v 2))) (xl 2 14 (xf 20 3 1 (.v 3))))]) (.cond 6 (.seq (.run 0 [.asg 4 (xb .lss 2 18 20 (xl 2 17 (xf 20 2
 1 (.v 2))) (xl 2 19 (xf 20 3 1 (.v 3))))]) (.ret)) (.skip))) (.seq (.run 0 [.asg 4 (xb .lss 2 23 25 (xl 2 22 (xf 20 2 2 (.v 2))) (xl 2 24 (xf 20 3 2 (.v 3))))]) (.ret))))
theorem c81 : TF E 81 n81 [(4, none)] t81 27 := tf_of (F := f81) rfl (by kernel_rfl) (by decide)

def n82 : List Nat := [0, 1, 2, 3, 4, 5, 6, 7, 8, 9, 25, 30, 61, 66, 73, 89, 94, 101, 130]
def t82 : TC := .seq (.run 0 [.eff none (some 2) (.box 0 (.t 0)) (.cons 0 (.v 0) .nil) none, .eff none (some 3) (.box 15 (.t 1)) (.cons 1 (.v 1) .nil) none, .asg 4 (.c (.bool false))]) (.seq
 (.seq (.run 0 [.asg 10 (.ite (.ite (xk .lss 2 12 (.int .i64 1) (xn 6 11 (xl 6 10 (xf 15 3 2 (.v 3))))) (.c (.bool true)) (xk .lss 2 17 (.int .i64 1) (xn 16 16 (xl 16 15 (xf
 15 3 3 (.v 3)))))) (.c (.bool true)) (xk .gtr 2 23 (.int .i64 96) (xn 16 22 (xl 16 21 (xf 15 3 3 (.v 3))))))]) (.cond 10 (.seq (.run 0 [.asg 4 (.c (.bool false))]) (.ret))
 (.skip))) (.seq (.seq (.run 0 [.asg 5 (.c (.int .i64 0))]) (.block 0 (.loop (.seq (.seq (.run 0 [.asg 11 (xb .lss 2 26 29 (.v 5) (xn 6 28 (xl 6 27 (xf 15 3 2 (.v 3)))))]) (.cond
 11 (.skip) (.exit 0))) (.seq (.block 1 (.seq (.run 29 [.asg 12 (.ite (.n (.un .not (.t 42)) (.cons 42 (.n (.call 0 (.f 79) [(.t 37), (.c (.int .i64 0)), (.t 41)]) (.cons 37
 (xl 2 36 (xi 6 34 35 (xl 6 33 (xf 15 3 2 (.v 3))) (.v 5))) (.cons 41 (xk .sub 2 40 (.int .i64 1) (xn 9 39 (xl 9 38 (xf 0 2 1 (.v 2))))) .nil))) .nil)) (.c (.bool true)) (.ite
 (xk .gtr 2 45 (.int .i64 0) (.v 5)) (xb .geq 2 53 58 (xl 2 52 (xi 6 49 51 (xl 6 48 (xf 15 3 2 (.v 3))) (xk .sub 2 50 (.int .i64 1) (.v 5)))) (xl 2 57 (xi 6 55 56 (xl 6 54 (xf
 15 3 2 (.v 3))) (.v 5)))) (.c (.bool false))))]) (.cond 12 (.seq (.run 0 [.asg 4 (.c (.bool false))]) (.ret)) (.skip)))) (.run 0 [.asg 5 (xk .add 2 31 (.int .i64 1) (.v 5))]))))))
 (.seq (.seq (.run 0 [.asg 6 (.c (.int .i64 0))]) (.block 2 (.loop (.seq (.seq (.run 0 [.asg 13 (xb .lss 2 62 65 (.v 6) (xn 16 64 (xl 16 63 (xf 15 3 3 (.v 3)))))]) (.cond 13
 (.skip) (.exit 2))) (.seq (.block 3 (.seq (.run 0 [.asg 14 (xl 17 72 (xi 16 70 71 (xl 16 69 (xf 15 3 3 (.v 3))) (.v 6))), .eff none (some 7) (.alloc 17) .nil none, .eff none
 none (.store 17 (.t 7) (.t 73)) (.cons 7 (.v 7) (.cons 73 (.v 14) .nil)) none]) (.seq (.seq (.run 0 [.asg 15 (.ite (.ite (.n (.un .not (.t 76)) (.cons 76 (.n (.call 0 (.f 79)
 [(.t 75), (.c (.int .i64 0)), (.c (.int .i64 1048576))]) (.cons 75 (xl 2 74 (xf 17 7 0 (.v 7))) .nil)) .nil)) (.c (.bool true)) (.n (.un .not (.t 81)) (.cons 81 (.n (.call
 0 (.f 79) [(.t 80), (.c (.int .i64 0)), (.c (.int .i64 1048576))]) (.cons 80 (xl 2 79 (xf 17 7 1 (.v 7))) .nil)) .nil))) (.c (.bool true)) (.n (.un .not (.t 87)) (.cons 87
 (.n (.call 0 (.f 79) [(.t 86), (.c (.int .i64 0)), (.c (.int .i64 1048576))]) (.cons 86 (xl 2 85 (xf 17 7 2 (.v 7))) .nil)) .nil)))]) (.cond 15 (.seq (.run 0 [.asg 4 (.c (.bool
 false))]) (.ret)) (.skip))) (.seq (.run 0 [.asg 8 (.c (.int .i64 0))]) (.block 4 (.loop (.seq (.seq (.run 0 [.asg 16 (xb .lss 2 90 93 (.v 8) (xn 18 92 (xl 18 91 (xf 17 7 3
 (.v 7)))))]) (.cond 16 (.skip) (.exit 4))) (.seq (.block 5 (.seq (.run 0 [.asg 17 (xl 19 100 (xi 18 98 99 (xl 18 97 (xf 17 7 3 (.v 7))) (.v 8))), .eff none (some 9) (.alloc
 19) .nil none, .eff none none (.store 19 (.t 9) (.t 101)) (.cons 9 (.v 9) (.cons 101 (.v 17) .nil)) none]) (.seq (.run 29 [.asg 18 (.ite (.ite (xk .lss 2 106 (.int .i64 0)
 (.n (.call 0 (.f 109) [(.t 103), (.t 105)]) (.cons 103 (xl 10 102 (xf 0 2 0 (.v 2))) (.cons 105 (xl 20 104 (xf 19 9 0 (.v 9))) .nil)))) (.c (.bool true)) (.n (.un .not (.t
 111)) (.cons 111 (.n (.call 0 (.f 79) [(.t 110), (.c (.int .i64 1)), (.c (.int .i64 8))]) (.cons 110 (xl 2 109 (xf 19 9 1 (.v 9))) .nil)) .nil))) (.c (.bool true)) (.ite (xk
 .gtr 2 115 (.int .i64 0) (.v 8)) (.n (.un .not (.t 127)) (.cons 127 (.n (.call 0 (.f 81) [(.t 124), (.t 126)]) (.cons 124 (xl 20 123 (xf 19 122 0 (xi 18 119 121 (xl 18 118
 (xf 17 7 3 (.v 7))) (xk .sub 2 120 (.int .i64 1) (.v 8))))) (.cons 126 (xl 20 125 (xf 19 9 0 (.v 9))) .nil))) .nil)) (.c (.bool false))))]) (.cond 18 (.seq (.run 0 [.asg 4
 (.c (.bool false))]) (.ret)) (.skip))))) (.run 0 [.asg 8 (xk .add 2 95 (.int .i64 1) (.v 8))]))))))))) (.run 0 [.asg 6 (xk .add 2 67 (.int .i64 1) (.v 6))])))))) (.seq (.run
 0 [.asg 4 (.c (.bool true))]) (.ret)))))
theorem c82 : TF E 82 n82 [(4, none)] t82 131 := tf_of (F := f82) rfl (by kernel_rfl) (by decide)

def n83 : List Nat := [0, 1, 2, 4, 5, 10, 17]
def t83 : TC := .seq (.run 0 [.eff none (some 2) (.box 0 (.t 0)) (.cons 0 (.v 0) .nil) none, .asg 3 (.c (.int .i64 0))]) (.seq (.seq (.run 0 [.asg 4 (.n (.call 0 (.f 66) [(.t 6), (.t 7)])
 (.cons 6 (xl 0 2 (.v 2)) (.cons 7 (.v 1) .nil)))]) (.seq (.run 0 [.asg 5 (xk .neq 3 9 (.int .i64 0) (.v 4))]) (.cond 5 (.seq (.run 0 [.asg 3 (.v 4)]) (.ret)) (.skip)))) (.seq
 (.seq (.run 0 [.asg 6 (xb .neq 2 13 16 (xn 6 12 (.v 1)) (xn 14 15 (xl 14 14 (xf 0 2 2 (.v 2)))))]) (.cond 6 (.seq (.run 0 [.asg 3 (.c (.int .i64 270))]) (.ret)) (.skip))) (.seq
 (.run 0 [.asg 3 (.c (.int .i64 0))]) (.ret))))
theorem c83 : TF E 83 n83 [(3, none)] t83 18 := tf_of (F := f83) rfl (by kernel_rfl) (by decide)

def n84 : List Nat := [0, 1, 2, 3, 4]
def t84 : TC := .seq (.run 0 [.eff none (some 2) (.box 0 (.t 0)) (.cons 0 (.v 0) .nil) none, .eff none (some 3) (.box 6 (.t 1)) (.cons 1 (.v 1) .nil) none, .asg 4 (.c .nilfn)]) (.seq (.run
 0 [.asg 4 (.n (.mkfn 110 [(.t 2), (.t 3)]) (.cons 2 (.v 2) (.cons 3 (.v 3) .nil)))]) (.ret))
theorem c84 : TF E 84 n84 [(4, none)] t84 6 := tf_of (F := f84) rfl (by kernel_rfl) (by decide)

def n85 : List Nat := [0, 1, 2, 4, 5, 6, 7, 8, 13, 23]
def t85 : TC := .seq (.run 0 [.eff none (some 2) (.box 0 (.t 0)) (.cons 0 (.v 0) .nil) none, .asg 3 (.c (.int .i64 0))]) (.seq (.run 0 [.asg 4 (.c (.int .i64 0))]) (.seq (.seq (.run 0 [.asg
 5 (.c (.int .i64 0))]) (.block 0 (.loop (.seq (.seq (.run 0 [.asg 8 (xb .lss 2 9 12 (.v 5) (xn 9 11 (xl 9 10 (xf 0 2 1 (.v 2)))))]) (.cond 8 (.skip) (.exit 0))) (.seq (.block
 1 (.seq (.run 0 [.asg 6 (.n (.call 0 (.f 80) [(.t 16), (.t 17), (.t 18)]) (.cons 16 (xl 0 2 (.v 2)) (.cons 17 (.v 1) (.cons 18 (.v 5) .nil))))]) (.seq (.run 0 [.asg 7 (.c (.int
 .i64 0))]) (.block 2 (.loop (.seq (.seq (.run 0 [.asg 9 (xb .lss 2 20 22 (.v 7) (xn 6 21 (.v 6)))]) (.cond 9 (.skip) (.exit 2))) (.seq (.block 3 (.run 17 [.asg 4 (xb .add 2
 26 40 (.v 4) (.n (.maxi [(.c (.int .i64 0)), (.t 39)]) (.cons 39 (xb .sub 2 30 38 (xl 2 29 (xi 6 27 28 (.v 6) (.v 7))) (xl 2 37 (xi 6 35 36 (xl 6 34 (xi 9 32 33 (xl 9 31 (xf
 0 2 1 (.v 2))) (.v 5))) (.v 7)))) .nil)))])) (.run 0 [.asg 7 (xk .add 2 24 (.int .i64 1) (.v 7))])))))))) (.run 0 [.asg 5 (xk .add 2 14 (.int .i64 1) (.v 5))])))))) (.seq (.run
 0 [.asg 3 (.v 4)]) (.ret))))
theorem c85 : TF E 85 n85 [(3, none)] t85 43 := tf_of (F := f85) rfl (by kernel_rfl) (by decide)

def n87 : List Nat := [0, 1, 4, 5, 6, 7, 8, 9, 10, 11, 12, 19, 28, 35]
def t87 : TC := .seq (.run 0 [.asg 2 (.c (.int .i64 0))]) (.seq (.seq (.run 0 [.asg 7 (.v 0), .asg 8 (xn 6 9 (.v 7)), .asg 9 (.c (.int .i64 0))]) (.block 0 (.loop (.seq (.run 0 [.asg 10 (xb
 .lss 2 11 10 (.v 9) (.v 8))]) (.seq (.cond 10 (.skip) (.exit 0)) (.seq (.block 1 (.seq (.run 0 [.asg 3 (.v 9), .asg 4 (xl 2 14 (xi 6 9 11 (.v 7) (.v 9)))]) (.seq (.seq (.run
 0 [.asg 11 (xb .geq 2 16 18 (.v 3) (xn 6 17 (.v 1)))]) (.cond 11 (.seq (.run 0 [.asg 2 (.c (.int .i64 1))]) (.ret)) (.skip))) (.seq (.run 0 [.asg 5 (xl 2 22 (xi 6 20 21 (.v
 1) (.v 3)))]) (.seq (.run 0 [.asg 6 (.n (.call 0 (.f 74) [(.t 24), (.t 25)]) (.cons 24 (.v 4) (.cons 25 (.v 5) .nil)))]) (.seq (.run 0 [.asg 12 (xk .neq 2 27 (.int .i64 0)
 (.v 6))]) (.cond 12 (.seq (.run 0 [.asg 2 (.v 6)]) (.ret)) (.skip)))))))) (.run 0 [.asg 9 (xk .add 2 11 (.int .i64 1) (.v 9))]))))))) (.seq (.seq (.run 0 [.asg 13 (xb .lss
 2 32 34 (xn 6 31 (.v 0)) (xn 6 33 (.v 1)))]) (.cond 13 (.seq (.run 0 [.asg 2 (.c (.int .i64 (-1)))]) (.ret)) (.skip))) (.seq (.run 0 [.asg 2 (.c (.int .i64 0))]) (.ret))))
theorem c87 : TF E 87 n87 [(2, none)] t87 36 := tf_of (F := f87) rfl (by kernel_rfl) (by decide)

def n94 : List Nat := [0, 1, 4]
def t94 : TC := .seq (.run 0 [.asg 2 (.c (.bool false))]) (.seq (.run 0 [.asg 2 (xk .geq 2 7 (.int .i64 0) (.n (.call 0 (.f 113) [(.t 5), (.t 6)]) (.cons 5 (.v 0) (.cons 6 (.v 1) .nil))))])
 (.ret))
theorem c94 : TF E 94 n94 [(2, none)] t94 9 := tf_of (F := f94) rfl (by kernel_rfl) (by decide)

def n96 : List Nat := [0, 2, 7]
def t96 : TC := .seq (.run 0 [.asg 1 (.c (.imm .exact []))]) (.seq (.run 0 [.eff none (some 2) (.append 1 6 6 (.t 5) (.t 6)) (.cons 5 (.n (.bslice false 6 0 []) .nil) (.cons 6 (.v 0) .nil))
 none, .asg 1 (.v 2)]) (.ret))
theorem c96 : TF E 96 n96 [(1, none)] t96 8 := tf_of (F := f96) rfl (by kernel_rfl) (by decide)

def n102 : List Nat := [0, 1, 2, 4, 5, 6, 8, 9, 10, 11, 14, 22, 26, 40, 41]
def t102 : TC := .seq (.run 0 [.asg 6 (xl 14 7 (xf 0 1 2 (.v 1))), .asg 7 (xn 14 8 (.v 6)), .asg 8 (.c (.int .i64 0))]) (.block 0 (.loop (.seq (.run 0 [.asg 9 (xb .lss 2 10 9 (.v 8) (.v 7))])
 (.seq (.cond 9 (.skip) (.exit 0)) (.seq (.block 1 (.seq (.run 0 [.asg 10 (xl 15 13 (xi 14 8 10 (.v 6) (.v 8))), .eff none (some 4) (.alloc 15) .nil none, .asg 3 (.v 8), .eff
 none none (.store 15 (.t 5) (.t 14)) (.cons 5 (.v 4) (.cons 14 (.v 10) .nil)) none]) (.seq (.run 10 [.asg 11 (.n (.call 0 (.f 122) [(.t 18), (.t 21)]) (.cons 18 (xl 17 17 (.n
 (.iaddr 16 (.t 16) (.c (.int .i64 0))) (.cons 16 (xl 16 15 (xf 15 5 3 (.v 4))) .nil))) (.cons 21 (.n (.slice 16 (.t 20) (some (.c (.int .i64 1))) none none) (.cons 20 (xl 16
 19 (xf 15 5 3 (.v 4))) .nil)) .nil))), .eff none (some 5) (.alloc 17) .nil (some 8), .eff none none (.store 17 (.t 6) (.t 22)) (.cons 6 (.v 5) (.cons 22 (.v 11) .nil)) (some
 9)]) (.seq (.seq (.run 0 [.asg 12 (xb .lss 2 23 25 (.v 3) (xn 1 24 (xl 1 2 (.v 2))))]) (.cond 12 (.run 9 [.eff none none (.store 17 (.t 6) (.t 34)) (.cons 6 (.v 5) (.cons 34
 (xl 17 33 (xi 16 28 32 (xl 16 27 (xf 15 5 3 (.v 4))) (xl 2 31 (xi 1 29 30 (xl 1 2 (.v 2)) (.v 3))))) .nil)) (some 8)]) (.skip))) (.seq (.run 0 [.eff none (some 13) (.call 2
 (.t 35) [(.t 38), (.t 39)]) (.cons 35 (.v 0) (.cons 38 (xn 6 37 (xl 6 36 (xf 15 5 2 (.v 4)))) (.cons 39 (xl 17 6 (.v 5)) .nil))) none, .asg 14 (.n (.un .not (.t 40)) (.cons
 40 (.v 13) .nil))]) (.cond 14 (.ret) (.skip))))))) (.run 0 [.asg 8 (xk .add 2 10 (.int .i64 1) (.v 8))]))))))
theorem c102 : TF E 102 n102 [] t102 43 := tf_of (F := f102) rfl (by kernel_rfl) (by decide)

def n103 : List Nat := [0, 1, 2, 4, 5, 11, 15, 36]
def t103 : TC := .seq (.run 0 [.eff none (some 2) (.box 0 (.t 0)) (.cons 0 (.v 0) .nil) none, .asg 3 (.c (.bool false))]) (.seq (.seq (.run 0 [.asg 5 (xb .gtr 2 7 10 (xn 1 6 (.v 1)) (xn 14
 9 (xl 14 8 (xf 0 2 2 (.v 2)))))]) (.cond 5 (.seq (.run 0 [.asg 3 (.c (.bool false))]) (.ret)) (.skip))) (.seq (.seq (.run 0 [.asg 4 (.c (.int .i64 0))]) (.block 0 (.loop (.seq
 (.seq (.run 0 [.asg 6 (xb .lss 2 12 14 (.v 4) (xn 1 13 (.v 1)))]) (.cond 6 (.skip) (.exit 0))) (.seq (.block 1 (.seq (.run 19 [.asg 7 (.ite (xk .lss 2 21 (.int .i64 0) (xl
 2 20 (xi 1 18 19 (.v 1) (.v 4)))) (.c (.bool true)) (xb .geq 2 27 34 (xl 2 26 (xi 1 24 25 (.v 1) (.v 4))) (xn 16 33 (xl 16 32 (xf 15 31 3 (xi 14 29 30 (xl 14 28 (xf 0 2 2 (.v
 2))) (.v 4)))))))]) (.cond 7 (.seq (.run 0 [.asg 3 (.c (.bool false))]) (.ret)) (.skip)))) (.run 0 [.asg 4 (xk .add 2 16 (.int .i64 1) (.v 4))])))))) (.seq (.run 0 [.asg 3
 (.c (.bool true))]) (.ret))))
theorem c103 : TF E 103 n103 [(3, none)] t103 37 := tf_of (F := f103) rfl (by kernel_rfl) (by decide)

def n104 : List Nat := [0, 1, 2, 3, 4]
def t104 : TC := .seq (.run 0 [.eff none (some 2) (.box 0 (.t 0)) (.cons 0 (.v 0) .nil) none, .eff none (some 3) (.box 6 (.t 1)) (.cons 1 (.v 1) .nil) none, .asg 4 (.c .nilfn)]) (.seq (.run
 0 [.asg 4 (.n (.mkfn 123 [(.t 3), (.t 2)]) (.cons 3 (.v 3) (.cons 2 (.v 2) .nil)))]) (.ret))
theorem c104 : TF E 104 n104 [(4, none)] t104 6 := tf_of (F := f104) rfl (by kernel_rfl) (by decide)

def n105 : List Nat := [0, 2, 3, 5, 6, 7, 8, 9, 14]
def t105 : TC := .seq (.run 0 [.asg 1 (.c (.int .i64 0))]) (.seq (.run 0 [.asg 2 (.c (.int .i64 0))]) (.seq (.seq (.run 0 [.asg 4 (.v 0), .asg 5 (xn 6 6 (.v 4)), .asg 6 (.c (.int .i64 0))])
 (.block 0 (.loop (.seq (.run 0 [.asg 7 (xb .lss 2 8 7 (.v 6) (.v 5))]) (.seq (.cond 7 (.skip) (.exit 0)) (.seq (.block 1 (.seq (.run 0 [.asg 3 (xl 2 10 (xi 6 6 8 (.v 4) (.v
 6)))]) (.seq (.run 0 [.asg 8 (xb .neq 2 12 13 (.v 3) (.v 2))]) (.cond 8 (.seq (.run 0 [.asg 1 (.v 3)]) (.ret)) (.skip))))) (.run 0 [.asg 6 (xk .add 2 8 (.int .i64 1) (.v 6))])))))))
 (.seq (.run 0 [.asg 1 (.v 2)]) (.ret))))
theorem c105 : TF E 105 n105 [(1, none)] t105 18 := tf_of (F := f105) rfl (by kernel_rfl) (by decide)

def n106 : List Nat := [0, 1, 4, 5, 7, 8, 9, 16]
def t106 : TC := .seq (.run 0 [.asg 2 (.c (.int .i64 0))]) (.seq (.seq (.run 0 [.asg 4 (xn 6 6 (.v 0)), .asg 5 (.c (.int .i64 0))]) (.block 0 (.loop (.seq (.run 0 [.asg 6 (xb .lss 2 8 7 (.v
 5) (.v 4))]) (.seq (.cond 6 (.skip) (.exit 0)) (.seq (.block 1 (.seq (.run 0 [.asg 3 (.v 5)]) (.seq (.run 0 [.asg 7 (.n (.call 0 (.t 11) [(.t 15)]) (.cons 11 (.v 1) (.cons
 15 (xl 2 14 (xi 6 12 13 (.v 0) (.v 3))) .nil)))]) (.cond 7 (.seq (.run 0 [.asg 2 (.v 3)]) (.ret)) (.skip))))) (.run 0 [.asg 5 (xk .add 2 8 (.int .i64 1) (.v 5))]))))))) (.seq
 (.run 0 [.asg 2 (.c (.int .i64 (-1)))]) (.ret)))
theorem c106 : TF E 106 n106 [(2, none)] t106 19 := tf_of (F := f106) rfl (by kernel_rfl) (by decide)

def n107 : List Nat := [0, 2]
def t107 : TC := .seq (.run 0 [.asg 1 (.c (.bool false))]) (.seq (.run 0 [.asg 1 (xb .neq 2 3 4 (.v 0) (.v 0))]) (.ret))
theorem c107 : TF E 107 n107 [(1, none)] t107 6 := tf_of (F := f107) rfl (by kernel_rfl) (by decide)

def n108 : List Nat := [0, 1, 2, 4, 5, 10, 19]
def t108 : TC := .seq (.run 0 [.eff none (some 2) (.box 15 (.t 0)) (.cons 0 (.v 0) .nil) none, .asg 3 (.c (.bool false))]) (.seq (.seq (.run 0 [.asg 4 (.c (.int .i64 0))]) (.block 0 (.loop
 (.seq (.seq (.run 0 [.asg 5 (xb .lss 2 6 9 (.v 4) (xn 6 8 (xl 6 7 (xf 15 2 2 (.v 2)))))]) (.cond 5 (.skip) (.exit 0))) (.seq (.block 1 (.seq (.run 0 [.asg 6 (xb .eql 2 17 18
 (xl 2 16 (xi 6 14 15 (xl 6 13 (xf 15 2 2 (.v 2))) (.v 4))) (.v 1))]) (.cond 6 (.seq (.run 0 [.asg 3 (.c (.bool true))]) (.ret)) (.skip)))) (.run 0 [.asg 4 (xk .add 2 11 (.int
 .i64 1) (.v 4))])))))) (.seq (.run 0 [.asg 3 (.c (.bool false))]) (.ret)))
theorem c108 : TF E 108 n108 [(3, none)] t108 20 := tf_of (F := f108) rfl (by kernel_rfl) (by decide)

def n109 : List Nat := [0, 1, 3, 4, 5, 9, 17]
def t109 : TC := .seq (.run 0 [.eff none (some 2) (.box 20 (.t 1)) (.cons 1 (.v 1) .nil) none, .asg 3 (.c (.int .i64 0))]) (.seq (.seq (.run 0 [.asg 4 (.c (.int .i64 0))]) (.block 0 (.loop
 (.seq (.seq (.run 0 [.asg 5 (xb .lss 2 6 8 (.v 4) (xn 10 7 (.v 0)))]) (.cond 5 (.skip) (.exit 0))) (.seq (.block 1 (.seq (.run 6 [.asg 6 (xb .eql 20 15 16 (xl 20 14 (xi 10
 12 13 (.v 0) (.v 4))) (xl 20 3 (.v 2)))]) (.cond 6 (.seq (.run 0 [.asg 3 (.v 4)]) (.ret)) (.skip)))) (.run 0 [.asg 4 (xk .add 2 10 (.int .i64 1) (.v 4))])))))) (.seq (.run
 0 [.asg 3 (.c (.int .i64 (-1)))]) (.ret)))
theorem c109 : TF E 109 n109 [(3, none)] t109 19 := tf_of (F := f109) rfl (by kernel_rfl) (by decide)

def n110 : List Nat := [0, 1, 2, 4, 5, 6, 7, 8, 11, 12, 13, 14, 18, 19, 20, 21, 43, 45]
def t110 : TC := .seq (.run 0 [.asg 8 (.n (.call 0 (.f 68) [(.t 9), (.t 10)]) (.cons 9 (xl 0 1 (.v 1)) (.cons 10 (xl 6 2 (.v 2)) .nil))), .asg 9 (xn 9 11 (.v 8)), .asg 10 (.c (.int .i64 0))])
 (.block 0 (.loop (.seq (.run 0 [.asg 11 (xb .lss 2 13 12 (.v 10) (.v 9))]) (.seq (.cond 11 (.skip) (.exit 0)) (.seq (.block 1 (.seq (.run 0 [.asg 3 (.v 10), .asg 4 (xl 6 16
 (xi 9 11 13 (.v 8) (.v 10)))]) (.seq (.run 0 [.asg 12 (.v 4), .asg 13 (xn 6 18 (.v 12)), .asg 14 (.c (.int .i64 0))]) (.block 2 (.loop (.seq (.run 0 [.asg 15 (xb .lss 2 20
 19 (.v 14) (.v 13))]) (.seq (.cond 15 (.skip) (.exit 2)) (.seq (.block 3 (.seq (.run 0 [.asg 5 (.v 14), .asg 6 (xl 2 23 (xi 6 18 20 (.v 12) (.v 14)))]) (.seq (.run 0 [.asg
 7 (xb .sub 2 25 33 (.v 6) (xl 2 32 (xi 6 30 31 (xl 6 29 (xi 9 27 28 (xl 9 26 (xf 0 1 1 (.v 1))) (.v 3))) (.v 5))))]) (.seq (.run 0 [.eff (some ((xk .gtr 2 35 (.int .i64 0)
 (.v 7)), true)) (some 16) (.call 2 (.t 38) [(.t 41), (.t 42)]) (.cons 38 (.v 0) (.cons 41 (.n (.build 11 [(0, (.t 39)), (1, (.t 40))]) (.cons 39 (.v 3) (.cons 40 (.v 5) .nil)))
 (.cons 42 (.v 7) .nil))) none, .asg 17 (.ite (xk .gtr 2 35 (.int .i64 0) (.v 7)) (.n (.un .not (.t 43)) (.cons 43 (.v 16) .nil)) (.c (.bool false)))]) (.cond 17 (.ret) (.skip))))))
 (.run 0 [.asg 14 (xk .add 2 20 (.int .i64 1) (.v 14))]))))))))) (.run 0 [.asg 10 (xk .add 2 13 (.int .i64 1) (.v 10))]))))))
theorem c110 : TF E 110 n110 [] t110 48 := tf_of (F := f110) rfl (by kernel_rfl) (by decide)

def n111 : List Nat := [0, 1, 4, 5, 9, 20, 29]
def t111 : TC := .seq (.run 0 [.asg 2 (.c (.int .i64 0))]) (.seq (.seq (.run 0 [.asg 3 (.c (.int .i64 0))]) (.block 0 (.loop (.seq (.seq (.run 0 [.asg 4 (xb .lss 2 6 8 (.v 3) (xn 6 7 (.v 0)))])
 (.cond 4 (.skip) (.exit 0))) (.seq (.block 1 (.seq (.seq (.run 9 [.asg 5 (xb .lss 2 15 19 (xl 2 14 (xi 6 12 13 (.v 0) (.v 3))) (xl 2 18 (xi 6 16 17 (.v 1) (.v 3))))]) (.cond
 5 (.seq (.run 0 [.asg 2 (.c (.int .i64 (-1)))]) (.ret)) (.skip))) (.seq (.run 9 [.asg 6 (xb .gtr 2 24 28 (xl 2 23 (xi 6 21 22 (.v 0) (.v 3))) (xl 2 27 (xi 6 25 26 (.v 1) (.v
 3))))]) (.cond 6 (.seq (.run 0 [.asg 2 (.c (.int .i64 1))]) (.ret)) (.skip))))) (.run 0 [.asg 3 (xk .add 2 10 (.int .i64 1) (.v 3))])))))) (.seq (.run 0 [.asg 2 (.c (.int .i64
 0))]) (.ret)))
theorem c111 : TF E 111 n111 [(2, none)] t111 30 := tf_of (F := f111) rfl (by kernel_rfl) (by decide)

def n113 : List Nat := [0, 1, 4, 5, 7, 8, 9, 16]
def t113 : TC := .seq (.run 0 [.asg 2 (.c (.int .i64 0))]) (.seq (.seq (.run 0 [.asg 4 (xn 9 6 (.v 0)), .asg 5 (.c (.int .i64 0))]) (.block 0 (.loop (.seq (.run 0 [.asg 6 (xb .lss 2 8 7 (.v
 5) (.v 4))]) (.seq (.cond 6 (.skip) (.exit 0)) (.seq (.block 1 (.seq (.run 0 [.asg 3 (.v 5)]) (.seq (.run 0 [.asg 7 (.n (.call 0 (.t 11) [(.t 15)]) (.cons 11 (.v 1) (.cons
 15 (xl 6 14 (xi 9 12 13 (.v 0) (.v 3))) .nil)))]) (.cond 7 (.seq (.run 0 [.asg 2 (.v 3)]) (.ret)) (.skip))))) (.run 0 [.asg 5 (xk .add 2 8 (.int .i64 1) (.v 5))]))))))) (.seq
 (.run 0 [.asg 2 (.c (.int .i64 (-1)))]) (.ret)))
theorem c113 : TF E 113 n113 [(2, none)] t113 19 := tf_of (F := f113) rfl (by kernel_rfl) (by decide)

def n122 : List Nat := [0, 1, 2, 4, 6, 7, 8, 9, 10, 12]
def t122 : TC := .seq (.run 0 [.eff none (some 2) (.box 17 (.t 0)) (.cons 0 (.v 0) .nil) none, .eff none (some 3) (.alloc 17) .nil none]) (.seq (.seq (.run 0 [.asg 5 (.v 1), .asg 6 (xn 16 7
 (.v 5)), .asg 7 (.c (.int .i64 0))]) (.block 0 (.loop (.seq (.run 0 [.asg 8 (xb .lss 2 9 8 (.v 7) (.v 6))]) (.seq (.cond 8 (.skip) (.exit 0)) (.seq (.block 1 (.seq (.run 0
 [.asg 9 (xl 17 11 (xi 16 7 9 (.v 5) (.v 7))), .eff none (some 4) (.alloc 17) .nil none, .eff none none (.store 17 (.t 6) (.t 12)) (.cons 6 (.v 4) (.cons 12 (.v 9) .nil)) none])
 (.seq (.run 0 [.eff none none (.store 2 (.t 18) (.t 17)) (.cons 18 (xf 17 2 0 (.v 2)) (.cons 17 (.n (.mini [(.t 14), (.t 16)]) (.cons 14 (xl 2 13 (xf 17 2 0 (.v 2))) (.cons
 16 (xl 2 15 (xf 17 6 0 (.v 4))) .nil))) .nil)) none]) (.seq (.run 0 [.eff none none (.store 2 (.t 24) (.t 23)) (.cons 24 (xf 17 2 1 (.v 2)) (.cons 23 (.n (.mini [(.t 20), (.t
 22)]) (.cons 20 (xl 2 19 (xf 17 2 1 (.v 2))) (.cons 22 (xl 2 21 (xf 17 6 1 (.v 4))) .nil))) .nil)) none]) (.run 0 [.eff none none (.store 2 (.t 30) (.t 29)) (.cons 30 (xf 17
 2 2 (.v 2)) (.cons 29 (.n (.mini [(.t 26), (.t 28)]) (.cons 26 (xl 2 25 (xf 17 2 2 (.v 2))) (.cons 28 (xl 2 27 (xf 17 6 2 (.v 4))) .nil))) .nil)) none]))))) (.run 0 [.asg 7
 (xk .add 2 9 (.int .i64 1) (.v 7))]))))))) (.seq (.run 0 [.eff none none (.store 17 (.t 4) (.t 32)) (.cons 4 (.v 3) (.cons 32 (xl 17 2 (.v 2)) .nil)) none]) (.ret)))
theorem c122 : TF E 122 n122 [(3, some 17)] t122 33 := tf_of (F := f122) rfl (by kernel_rfl) (by decide)

def n123 : List Nat := [0, 1, 2, 4, 5, 7, 9, 10, 11, 12, 13, 22, 23, 24, 25, 37, 38, 39, 40, 42, 46, 47]
def t123 : TC := .seq (.run 0 [.asg 7 (xl 6 1 (.v 1)), .asg 8 (xn 6 10 (.v 7)), .asg 9 (.c (.int .i64 0))]) (.block 0 (.loop (.seq (.run 0 [.asg 10 (xb .lss 2 12 11 (.v 9) (.v 8))]) (.seq (.cond
 10 (.skip) (.exit 0)) (.seq (.block 1 (.seq (.run 0 [.asg 3 (.v 9), .asg 4 (xl 2 15 (xi 6 10 12 (.v 7) (.v 9)))]) (.seq (.run 0 [.asg 11 (xl 6 21 (xf 15 20 2 (xi 14 18 19 (xl
 14 17 (xf 0 2 2 (.v 2))) (.v 3)))), .asg 12 (xn 6 22 (.v 11)), .asg 13 (.c (.int .i64 0))]) (.block 2 (.loop (.seq (.run 0 [.asg 14 (xb .lss 2 24 23 (.v 13) (.v 12))]) (.seq
 (.cond 14 (.skip) (.exit 2)) (.seq (.block 3 (.seq (.run 0 [.asg 5 (xl 2 26 (xi 6 22 24 (.v 11) (.v 13)))]) (.seq (.run 0 [.asg 15 (xl 18 36 (xf 17 35 3 (xi 16 33 34 (xl 16
 32 (xf 15 31 3 (xi 14 29 30 (xl 14 28 (xf 0 2 2 (.v 2))) (.v 3)))) (.v 4)))), .asg 16 (xn 18 37 (.v 15)), .asg 17 (.c (.int .i64 0))]) (.block 4 (.loop (.seq (.run 0 [.asg
 18 (xb .lss 2 39 38 (.v 17) (.v 16))]) (.seq (.cond 18 (.skip) (.exit 4)) (.seq (.block 5 (.seq (.run 0 [.asg 19 (xl 19 41 (xi 18 37 39 (.v 15) (.v 17))), .eff none (some 6)
 (.alloc 19) .nil none, .eff none none (.store 19 (.t 9) (.t 42)) (.cons 9 (.v 6) (.cons 42 (.v 19) .nil)) none]) (.seq (.run 0 [.eff none (some 20) (.call 2 (.t 43) [(.t 44),
 (.t 45)]) (.cons 43 (.v 0) (.cons 44 (.v 5) (.cons 45 (xl 19 9 (.v 6)) .nil))) none, .asg 21 (.n (.un .not (.t 46)) (.cons 46 (.v 20) .nil))]) (.cond 21 (.ret) (.skip)))))
 (.run 0 [.asg 17 (xk .add 2 39 (.int .i64 1) (.v 17))]))))))))) (.run 0 [.asg 13 (xk .add 2 24 (.int .i64 1) (.v 13))]))))))))) (.run 0 [.asg 9 (xk .add 2 12 (.int .i64 1)
 (.v 9))]))))))
theorem c123 : TF E 123 n123 [] t123 51 := tf_of (F := f123) rfl (by kernel_rfl) (by decide)

def n129 : List Nat := [0, 1, 2]
def t129 : TC := .seq (.run 0 [.eff none (some 1) (.box 0 (.t 0)) (.cons 0 (.v 0) .nil) none, .asg 2 (.c (.bool false))]) (.seq (.run 0 [.asg 2 (.ite (.n (.call 0 (.f 2) [(.t 3)]) (.cons 3
 (xl 0 1 (.v 1)) .nil)) (xk .leq 2 7 (.int .i64 300) (.n (.call 0 (.f 61) [(.t 6), (.c (.int .i64 400))]) (.cons 6 (xl 0 1 (.v 1)) .nil))) (.c (.bool false)))]) (.ret))
theorem c129 : TF E 129 n129 [(2, none)] t129 10 := tf_of (F := f129) rfl (by kernel_rfl) (by decide)

def n131 : List Nat := [0, 1, 2, 3, 4, 5, 11, 18]
def t131 : TC := .seq (.run 0 [.eff none (some 1) (.box 0 (.t 0)) (.cons 0 (.v 0) .nil) none, .eff none (some 2) (.alloc 29) .nil none, .asg 3 (.c (.int .i64 0))]) (.seq (.run 0 [.asg 5 (.n
 (.call 0 (.f 139) [(.t 6)]) (.cons 6 (xl 0 1 (.v 1)) .nil)), .eff none (some 4) (.alloc 28) .nil none, .eff none none (.store 28 (.t 4) (.t 8)) (.cons 4 (.v 4) (.cons 8 (xe
 5 0 (.v 5)) .nil)) none, .asg 3 (xe 5 1 (.v 5))]) (.seq (.seq (.run 0 [.asg 6 (xk .neq 3 10 (.int .i64 0) (.v 3))]) (.cond 6 (.seq (.run 0 [.eff none none (.store 29 (.t 2)
 (.t 12)) (.cons 2 (.v 2) (.cons 12 (xl 29 2 (.v 2)) .nil)) none, .asg 3 (.v 3)]) (.ret)) (.skip))) (.seq (.run 9 [.asg 7 (.n (.call 0 (.f 133) [(.t 14), (.t 17)]) (.cons 14
 (xl 0 1 (.v 1)) (.cons 17 (.n (.call 0 (.f 150) [(.t 15), (.t 16), (.f 151)]) (.cons 15 (xl 0 1 (.v 1)) (.cons 16 (xl 28 4 (.v 4)) .nil))) .nil))), .eff none none (.store 29
 (.t 2) (.t 19)) (.cons 2 (.v 2) (.cons 19 (xe 18 0 (.v 7)) .nil)) (some 7), .asg 3 (xe 18 1 (.v 7))]) (.ret))))
theorem c131 : TF E 131 n131 [(2, some 29), (3, none)] t131 21 := tf_of (F := f131) rfl (by kernel_rfl) (by decide)

def n132 : List Nat := [0, 1, 2, 3, 4, 5, 6, 12, 17, 23]
def t132 : TC := .seq (.run 0 [.eff none (some 1) (.box 0 (.t 0)) (.cons 0 (.v 0) .nil) none, .eff none (some 2) (.alloc 29) .nil none, .asg 3 (.c (.int .i64 0))]) (.seq (.run 0 [.asg 6 (.n
 (.call 0 (.f 152) [(.t 7)]) (.cons 7 (xl 0 1 (.v 1)) .nil)), .eff none (some 4) (.alloc 28) .nil none, .eff none none (.store 28 (.t 4) (.t 9)) (.cons 4 (.v 4) (.cons 9 (xe
 6 0 (.v 6)) .nil)) none, .asg 5 (xe 6 1 (.v 6))]) (.seq (.seq (.run 0 [.asg 7 (xk .neq 3 11 (.int .i64 0) (.v 5))]) (.cond 7 (.seq (.run 0 [.eff none none (.store 29 (.t 2)
 (.t 13)) (.cons 2 (.v 2) (.cons 13 (.n (.build 29 []) .nil) .nil)) none, .asg 3 (.v 5)]) (.ret)) (.skip))) (.seq (.block 0 (.loop (.seq (.seq (.run 0 [.asg 8 (.n (.un .not
 (.t 16)) (.cons 16 (.n (.call 0 (.f 153) [(.t 15)]) (.cons 15 (xl 28 4 (.v 4)) .nil)) .nil))]) (.cond 8 (.skip) (.exit 0))) (.block 1 (.run 0 [.eff none none (.store 28 (.t
 4) (.t 20)) (.cons 4 (.v 4) (.cons 20 (.n (.call 0 (.f 154) [(.t 18), (.t 19)]) (.cons 18 (xl 0 1 (.v 1)) (.cons 19 (xl 28 4 (.v 4)) .nil))) .nil)) none]))))) (.seq (.run 0
 [.asg 9 (.n (.call 0 (.f 134) [(.t 21), (.t 22)]) (.cons 21 (xl 0 1 (.v 1)) (.cons 22 (xl 28 4 (.v 4)) .nil))), .eff none none (.store 29 (.t 2) (.t 24)) (.cons 2 (.v 2) (.cons
 24 (xe 23 0 (.v 9)) .nil)) none, .asg 3 (xe 23 1 (.v 9))]) (.ret)))))
theorem c132 : TF E 132 n132 [(2, some 29), (3, none)] t132 26 := tf_of (F := f132) rfl (by kernel_rfl) (by decide)

def n133 : List Nat := [0, 1, 2, 3, 4, 5, 6, 11, 22]
def t133 : TC := .seq (.run 0 [.eff none (some 2) (.box 0 (.t 0)) (.cons 0 (.v 0) .nil) none, .eff none (some 3) (.box 28 (.t 1)) (.cons 1 (.v 1) .nil) none, .eff none (some 4) (.alloc 29)
 .nil none, .asg 5 (.c (.int .i64 0))]) (.seq (.seq (.run 0 [.asg 6 (.n (.call 0 (.f 142) [(.t 7), (.t 8)]) (.cons 7 (xl 0 2 (.v 2)) (.cons 8 (xl 28 3 (.v 3)) .nil)))]) (.seq
 (.run 0 [.asg 7 (xk .neq 3 10 (.int .i64 0) (.v 6))]) (.cond 7 (.seq (.run 0 [.eff none none (.store 29 (.t 4) (.t 12)) (.cons 4 (.v 4) (.cons 12 (xl 29 4 (.v 4)) .nil)) none,
 .asg 5 (.v 6)]) (.ret)) (.skip)))) (.seq (.seq (.run 0 [.asg 8 (.ite (.n (.un .not (.t 15)) (.cons 15 (.n (.call 0 (.f 140) [(.t 14)]) (.cons 14 (xl 28 3 (.v 3)) .nil)) .nil))
 (.c (.bool true)) (xk .eql 2 20 (.int .i64 0) (xn 6 19 (xl 6 18 (xf 28 3 2 (.v 3))))))]) (.cond 8 (.seq (.run 0 [.eff none none (.store 29 (.t 4) (.t 23)) (.cons 4 (.v 4) (.cons
 23 (xl 29 4 (.v 4)) .nil)) none, .asg 5 (.c (.int .i64 300))]) (.ret)) (.skip))) (.seq (.run 0 [.eff none none (.store 29 (.t 4) (.t 30)) (.cons 4 (.v 4) (.cons 30 (.n (.build
 29 [(0, (.t 25)), (1, (.t 27)), (2, (.t 29))]) (.cons 25 (xl 6 24 (xf 28 3 1 (.v 3))) (.cons 27 (xl 6 26 (xf 28 3 2 (.v 3))) (.cons 29 (xl 31 28 (xf 28 3 3 (.v 3))) .nil))))
 .nil)) none, .asg 5 (.c (.int .i64 0))]) (.ret))))
theorem c133 : TF E 133 n133 [(4, some 29), (5, none)] t133 31 := tf_of (F := f133) rfl (by kernel_rfl) (by decide)

def n134 : List Nat := [0, 1, 2, 3, 4, 5, 6, 11, 22]
def t134 : TC := .seq (.run 0 [.eff none (some 2) (.box 0 (.t 0)) (.cons 0 (.v 0) .nil) none, .eff none (some 3) (.box 28 (.t 1)) (.cons 1 (.v 1) .nil) none, .eff none (some 4) (.alloc 29)
 .nil none, .asg 5 (.c (.int .i64 0))]) (.seq (.run 0 [.asg 6 (.n (.call 0 (.f 155) [(.t 7), (.t 8)]) (.cons 7 (xl 0 2 (.v 2)) (.cons 8 (xl 28 3 (.v 3)) .nil)))]) (.seq (.seq
 (.run 0 [.asg 7 (xk .neq 3 10 (.int .i64 0) (.v 6))]) (.cond 7 (.seq (.run 0 [.eff none none (.store 29 (.t 4) (.t 12)) (.cons 4 (.v 4) (.cons 12 (.n (.build 29 []) .nil) .nil))
 none, .asg 5 (.v 6)]) (.ret)) (.skip))) (.seq (.seq (.run 0 [.asg 8 (.ite (.n (.un .not (.t 15)) (.cons 15 (.n (.call 0 (.f 153) [(.t 14)]) (.cons 14 (xl 28 3 (.v 3)) .nil))
 .nil)) (.c (.bool true)) (xk .eql 2 20 (.int .i64 0) (xn 6 19 (xl 6 18 (xf 28 3 2 (.v 3))))))]) (.cond 8 (.seq (.run 0 [.eff none none (.store 29 (.t 4) (.t 23)) (.cons 4 (.v
 4) (.cons 23 (.n (.build 29 []) .nil) .nil)) none, .asg 5 (.c (.int .i64 300))]) (.ret)) (.skip))) (.seq (.run 0 [.eff none none (.store 29 (.t 4) (.t 30)) (.cons 4 (.v 4)
 (.cons 30 (.n (.build 29 [(0, (.t 25)), (1, (.t 27)), (2, (.t 29))]) (.cons 25 (xl 6 24 (xf 28 3 1 (.v 3))) (.cons 27 (xl 6 26 (xf 28 3 2 (.v 3))) (.cons 29 (xl 31 28 (xf 28
 3 3 (.v 3))) .nil)))) .nil)) none, .asg 5 (.c (.int .i64 0))]) (.ret)))))
theorem c134 : TF E 134 n134 [(4, some 29), (5, none)] t134 31 := tf_of (F := f134) rfl (by kernel_rfl) (by decide)

def n139 : List Nat := [0, 1, 2, 3, 4, 8]
def t139 : TC := .seq (.run 0 [.eff none (some 1) (.box 0 (.t 0)) (.cons 0 (.v 0) .nil) none, .eff none (some 2) (.alloc 28) .nil none, .asg 3 (.c (.int .i64 0))]) (.seq (.seq (.run 0 [.asg
 4 (.n (.call 0 (.f 15) [(.t 5)]) (.cons 5 (xl 0 1 (.v 1)) .nil))]) (.seq (.run 0 [.asg 5 (xk .neq 3 7 (.int .i64 0) (.v 4))]) (.cond 5 (.seq (.run 0 [.eff none none (.store
 28 (.t 2) (.t 9)) (.cons 2 (.v 2) (.cons 9 (xl 28 2 (.v 2)) .nil)) none, .asg 3 (.v 4)]) (.ret)) (.skip)))) (.seq (.run 0 [.eff none none (.store 28 (.t 2) (.t 13)) (.cons
 2 (.v 2) (.cons 13 (.n (.build 28 [(0, (.t 12))]) (.cons 12 (.n (.bslice false 4 1 [(0, (.t 11))]) (.cons 11 (.n (.bslice false 1 0 []) .nil) .nil)) .nil)) .nil)) none, .asg
 3 (.c (.int .i64 0))]) (.ret)))
theorem c139 : TF E 139 n139 [(2, some 28), (3, none)] t139 14 := tf_of (F := f139) rfl (by kernel_rfl) (by decide)

def n140 : List Nat := [0, 1, 2]
def t140 : TC := .seq (.run 0 [.eff none (some 1) (.box 28 (.t 0)) (.cons 0 (.v 0) .nil) none, .asg 2 (.c (.bool false))]) (.seq (.run 0 [.asg 2 (xk .eql 2 5 (.int .i64 0) (xn 4 4 (xl 4 3 (xf
 28 1 0 (.v 1)))))]) (.ret))
theorem c140 : TF E 140 n140 [(2, none)] t140 7 := tf_of (F := f140) rfl (by kernel_rfl) (by decide)

def n142 : List Nat := [0, 1, 2, 3, 4, 5, 6, 7, 8, 12, 18, 23, 24, 34, 35, 50]
def t142 : TC := .seq (.run 0 [.eff none (some 2) (.box 0 (.t 0)) (.cons 0 (.v 0) .nil) none, .eff none (some 3) (.box 28 (.t 1)) (.cons 1 (.v 1) .nil) none, .asg 4 (.c (.int .i64 0))]) (.seq
 (.seq (.run 0 [.asg 5 (.n (.call 0 (.f 15) [(.t 9)]) (.cons 9 (xl 0 2 (.v 2)) .nil))]) (.seq (.run 0 [.asg 9 (xk .neq 3 11 (.int .i64 0) (.v 5))]) (.cond 9 (.seq (.run 0 [.asg
 4 (.v 5)]) (.ret)) (.skip)))) (.seq (.run 0 [.eff none (some 6) (.alloc 33) .nil none, .eff none none (.store 33 (.t 6) (.t 14)) (.cons 6 (.v 6) (.cons 14 (.n (.mkfn 157 [(.t
 2)]) (.cons 2 (.v 2) .nil)) .nil)) none]) (.seq (.seq (.run 0 [.eff none (some 10) (.call 3 (.f 159) [(.t 16), (.t 17)]) (.cons 16 (xl 4 15 (xf 28 3 0 (.v 3))) (.cons 17 (.n
 (.mkfn 158 [(.t 2)]) (.cons 2 (.v 2) .nil)) .nil)) none, .eff (some ((.v 10), false)) (some 11) (.call 3 (.f 161) [(.t 21), (.t 22)]) (.cons 21 (xl 31 20 (xf 28 3 3 (.v 3)))
 (.cons 22 (.n (.mkfn 160 [(.t 6)]) (.cons 6 (.v 6) .nil)) .nil)) none, .asg 12 (.ite (.v 10) (.c (.bool true)) (.v 11))]) (.cond 12 (.seq (.run 0 [.asg 4 (.c (.int .i64 300))])
 (.ret)) (.skip))) (.seq (.seq (.run 0 [.asg 13 (.ite (xk .eql 2 27 (.int .i64 0) (xn 6 26 (xl 6 25 (xf 28 3 2 (.v 3))))) (xk .eql 2 32 (.int .i64 0) (xn 6 31 (xl 6 30 (xf 28
 3 1 (.v 3))))) (.c (.bool false)))]) (.cond 13 (.seq (.run 0 [.asg 4 (.c (.int .i64 0))]) (.ret)) (.skip))) (.seq (.seq (.run 0 [.asg 14 (.n (.call 0 (.f 22) [(.t 36), (.t
 38)]) (.cons 36 (xl 0 2 (.v 2)) (.cons 38 (xl 6 37 (xf 28 3 1 (.v 3))) .nil))), .asg 7 (xe 35 0 (.v 14)), .asg 8 (xe 35 1 (.v 14))]) (.seq (.run 0 [.asg 15 (.ite (xk .neq 3
 42 (.int .i64 0) (.v 8)) (.c (.bool true)) (.n (.un .not (.t 48)) (.cons 48 (.n (.call 0 (.f 162) [(.t 45), (.t 47)]) (.cons 45 (.v 7) (.cons 47 (xl 6 46 (xf 28 3 2 (.v 3)))
 .nil))) .nil)))]) (.cond 15 (.seq (.run 0 [.asg 4 (.c (.int .i64 300))]) (.ret)) (.skip)))) (.seq (.run 0 [.asg 4 (.c (.int .i64 0))]) (.ret)))))))
theorem c142 : TF E 142 n142 [(4, none)] t142 51 := tf_of (F := f142) rfl (by kernel_rfl) (by decide)

def n145 : List Nat := [0, 1, 4]
def t145 : TC := .seq (.run 0 [.asg 2 (.c (.bool false))]) (.seq (.run 0 [.asg 2 (.ite (xb .eql 2 6 8 (xn 6 5 (.v 0)) (xn 6 7 (.v 1))) (xk .eql 2 13 (.int .i64 0) (.n (.call 0 (.f 111) [(.t
 11), (.t 12)]) (.cons 11 (.v 0) (.cons 12 (.v 1) .nil)))) (.c (.bool false)))]) (.ret))
theorem c145 : TF E 145 n145 [(2, none)] t145 16 := tf_of (F := f145) rfl (by kernel_rfl) (by decide)

def n150 : List Nat := [0, 1, 2, 3, 4, 6, 7, 8, 9, 10, 12, 14, 16, 19, 28, 30, 31, 32, 42, 43, 48, 59, 66, 67, 72, 83, 86, 87, 92, 94, 95, 99]
def t150 : TC := .seq (.run 0 [.eff none (some 3) (.box 0 (.t 0)) (.cons 0 (.v 0) .nil) none, .eff none (some 4) (.box 28 (.t 1)) (.cons 1 (.v 1) .nil) none, .eff none (some 5) (.alloc 28)
 .nil none]) (.seq (.run 0 [.asg 13 (.n (.call 0 (.f 165) [(.t 18)]) (.cons 18 (xl 4 17 (xf 28 4 0 (.v 4))) .nil)), .eff none (some 6) (.alloc 35) .nil none, .eff none none
 (.store 35 (.t 7) (.t 19)) (.cons 7 (.v 6) (.cons 19 (.v 13) .nil)) none]) (.seq (.run 0 [.eff none none (.store 31 (.t 23) (.t 22)) (.cons 23 (xf 28 4 3 (.v 4)) (.cons 22
 (.n (.call 0 (.f 166) [(.t 21)]) (.cons 21 (xl 31 20 (xf 28 4 3 (.v 4))) .nil)) .nil)) none]) (.seq (.run 0 [.asg 7 (.n (.mkfn 167 [(.t 4)]) (.cons 4 (.v 4) .nil))]) (.seq
 (.block 0 (.loop (.seq (.seq (.run 0 [.asg 14 (xk .gtr 2 26 (.int .i64 0) (xn 35 25 (xl 35 7 (.v 6)))), .eff (some ((.v 14), true)) (some 15) (.call 2 (.t 29) []) (.cons 29
 (.v 2) .nil) none, .asg 16 (.ite (.v 14) (.v 15) (.c (.bool false)))]) (.cond 16 (.skip) (.exit 0))) (.block 1 (.seq (.run 0 [.asg 8 (.c (.imm .exact []))]) (.seq (.run 0 [.asg
 17 (.n (.call 0 (.f 168) [(.t 33)]) (.cons 33 (xl 35 7 (.v 6)) .nil)), .asg 8 (xe 32 0 (.v 17)), .eff none none (.store 35 (.t 7) (.t 36)) (.cons 7 (.v 6) (.cons 36 (xe 32
 1 (.v 17)) .nil)) none]) (.seq (.seq (.run 0 [.asg 18 (xb .eql 2 38 41 (xn 1 37 (.v 8)) (xn 14 40 (xl 14 39 (xf 0 3 2 (.v 3)))))]) (.cond 18 (.seq (.run 0 [.asg 19 (.n (.call
 0 (.f 22) [(.t 44), (.t 45)]) (.cons 44 (xl 0 3 (.v 3)) (.cons 45 (.v 8) .nil))), .asg 20 (xe 43 1 (.v 19)), .asg 9 (xe 43 0 (.v 19))]) (.seq (.seq (.run 0 [.asg 21 (.ite (xk
 .eql 2 51 (.int .i64 0) (xn 6 50 (xl 6 49 (xf 28 4 2 (.v 4))))) (.c (.bool true)) (xk .lss 2 57 (.int .i64 0) (.n (.call 0 (.f 87) [(.t 54), (.t 56)]) (.cons 54 (.v 9) (.cons
 56 (xl 6 55 (xf 28 4 2 (.v 4))) .nil)))))]) (.cond 21 (.run 0 [.eff none none (.store 6 (.t 62) (.t 60)) (.cons 62 (xf 28 4 1 (.v 4)) (.cons 60 (.v 8) .nil)) none, .eff none
 none (.store 6 (.t 63) (.t 61)) (.cons 63 (xf 28 4 2 (.v 4)) (.cons 61 (.v 9) .nil)) none]) (.skip))) (.seq (.run 0 [.eff none (some 22) (.call 2 (.t 64) [(.t 65), (.c (.int
 .i64 1))]) (.cons 64 (.v 7) (.cons 65 (.v 8) .nil)) none]) (.exit 1)))) (.skip))) (.seq (.seq (.run 0 [.asg 23 (.n (.call 0 (.f 3) [(.t 68), (.t 69)]) (.cons 68 (xl 0 3 (.v
 3)) (.cons 69 (.v 8) .nil))), .asg 24 (xe 67 1 (.v 23)), .asg 10 (xe 67 0 (.v 23))]) (.seq (.run 0 [.asg 25 (.ite (xk .gtr 2 75 (.int .i64 0) (xn 6 74 (xl 6 73 (xf 28 4 2 (.v
 4))))) (xk .geq 2 81 (.int .i64 0) (.n (.call 0 (.f 87) [(.t 78), (.t 80)]) (.cons 78 (.v 10) (.cons 80 (xl 6 79 (xf 28 4 2 (.v 4))) .nil)))) (.c (.bool false)))]) (.cond 25
 (.seq (.run 0 [.eff none (some 26) (.call 2 (.t 84) [(.t 85), (.c (.int .i64 2))]) (.cons 84 (.v 7) (.cons 85 (.v 8) .nil)) none]) (.exit 1)) (.skip)))) (.seq (.run 0 [.asg
 27 (.n (.call 0 (.f 7) [(.t 88), (.t 89)]) (.cons 88 (xl 0 3 (.v 3)) (.cons 89 (.v 8) .nil))), .asg 28 (xe 87 1 (.v 27)), .asg 11 (xe 87 0 (.v 27))]) (.seq (.run 0 [.asg 29
 (.n (.call 0 (.f 169) [(.t 93)]) (.cons 93 (.v 11) .nil))]) (.block 2 (.rfunc 29 [30] (.run 0 [.asg 12 (.v 30)]) (.block 3 (.run 0 [.eff none (some 31) (.append 0 35 35 (.t
 96) (.t 98)) (.cons 96 (xl 35 7 (.v 6)) (.cons 98 (.n (.bslice false 35 1 [(0, (.t 97))]) (.cons 97 (.v 12) .nil)) .nil)) none, .eff none none (.store 35 (.t 7) (.t 99)) (.cons
 7 (.v 6) (.cons 99 (.v 31) .nil)) none])))))))))))))) (.seq (.run 0 [.eff none none (.store 4 (.t 101) (.t 100)) (.cons 101 (xf 28 4 0 (.v 4)) (.cons 100 (xl 35 7 (.v 6)) .nil))
 none]) (.seq (.run 0 [.eff none none (.store 28 (.t 6) (.t 102)) (.cons 6 (.v 5) (.cons 102 (xl 28 4 (.v 4)) .nil)) none]) (.ret)))))))
theorem c150 : TF E 150 n150 [(5, some 28)] t150 103 := tf_of (F := f150) rfl (by kernel_rfl) (by decide)

def n151 : List Nat := [0]
def t151 : TC := .seq (.run 0 [.asg 0 (.c (.bool false))]) (.seq (.run 0 [.asg 0 (.c (.bool true))]) (.ret))
theorem c151 : TF E 151 n151 [(0, none)] t151 1 := tf_of (F := f151) rfl (by kernel_rfl) (by decide)

def n152 : List Nat := [0, 1, 2, 3, 4, 8]
def t152 : TC := .seq (.run 0 [.eff none (some 1) (.box 0 (.t 0)) (.cons 0 (.v 0) .nil) none, .eff none (some 2) (.alloc 28) .nil none, .asg 3 (.c (.int .i64 0))]) (.seq (.run 0 [.asg 4 (.n
 (.call 0 (.f 19) [(.t 5)]) (.cons 5 (xl 0 1 (.v 1)) .nil))]) (.seq (.seq (.run 0 [.asg 5 (xk .neq 3 7 (.int .i64 0) (.v 4))]) (.cond 5 (.seq (.run 0 [.eff none none (.store
 28 (.t 2) (.t 9)) (.cons 2 (.v 2) (.cons 9 (.n (.build 28 []) .nil) .nil)) none, .asg 3 (.v 4)]) (.ret)) (.skip))) (.seq (.run 0 [.eff none none (.store 28 (.t 2) (.t 13))
 (.cons 2 (.v 2) (.cons 13 (.n (.build 28 [(0, (.t 12))]) (.cons 12 (.n (.bslice false 4 1 [(0, (.t 11))]) (.cons 11 (.n (.bslice false 1 0 []) .nil) .nil)) .nil)) .nil)) none,
 .asg 3 (.c (.int .i64 0))]) (.ret))))
theorem c152 : TF E 152 n152 [(2, some 28), (3, none)] t152 14 := tf_of (F := f152) rfl (by kernel_rfl) (by decide)

def n153 : List Nat := [0, 1, 2]
def t153 : TC := .seq (.run 0 [.eff none (some 1) (.box 28 (.t 0)) (.cons 0 (.v 0) .nil) none, .asg 2 (.c (.bool false))]) (.seq (.run 0 [.asg 2 (xk .eql 2 5 (.int .i64 0) (xn 4 4 (xl 4 3 (xf
 28 1 0 (.v 1)))))]) (.ret))
theorem c153 : TF E 153 n153 [(2, none)] t153 7 := tf_of (F := f153) rfl (by kernel_rfl) (by decide)

def n154 : List Nat := [0, 1, 2, 3, 4, 5, 6, 7, 9, 11, 13, 28, 35, 36, 41, 52, 60, 64, 67, 72, 83, 87, 91, 94, 99, 104, 114]
def t154 : TC := .seq (.run 0 [.eff none (some 2) (.box 0 (.t 0)) (.cons 0 (.v 0) .nil) none, .eff none (some 3) (.box 28 (.t 1)) (.cons 1 (.v 1) .nil) none, .eff none (some 4) (.alloc 28)
 .nil none]) (.seq (.run 0 [.asg 5 (xk .sub 2 16 (.int .i64 1) (xn 4 15 (xl 4 14 (xf 28 3 0 (.v 3)))))]) (.seq (.run 0 [.asg 6 (xl 1 21 (xi 4 19 20 (xl 4 18 (xf 28 3 0 (.v 3)))
 (.v 5)))]) (.seq (.run 0 [.eff none (some 11) (.append 0 4 4 (.t 23) (.t 27)) (.cons 23 (.n (.bslice false 4 0 []) .nil) (.cons 27 (.n (.slice 4 (.t 25) none (some (.t 26))
 none) (.cons 25 (xl 4 24 (xf 28 3 0 (.v 3))) (.cons 26 (.v 5) .nil))) .nil)) none, .eff none none (.store 4 (.t 29) (.t 28)) (.cons 29 (xf 28 3 0 (.v 3)) (.cons 28 (.v 11)
 .nil)) none]) (.seq (.seq (.run 0 [.asg 12 (xb .eql 2 31 34 (xn 1 30 (.v 6)) (xn 14 33 (xl 14 32 (xf 0 2 2 (.v 2)))))]) (.cond 12 (.seq (.run 0 [.asg 13 (.n (.call 0 (.f 23)
 [(.t 37), (.t 38)]) (.cons 37 (xl 0 2 (.v 2)) (.cons 38 (.v 6) .nil))), .asg 14 (xe 36 1 (.v 13)), .asg 7 (xe 36 0 (.v 13))]) (.seq (.seq (.run 0 [.asg 15 (.ite (xk .eql 2
 44 (.int .i64 0) (xn 6 43 (xl 6 42 (xf 28 3 2 (.v 3))))) (.c (.bool true)) (xk .lss 2 50 (.int .i64 0) (.n (.call 0 (.f 111) [(.t 47), (.t 49)]) (.cons 47 (.v 7) (.cons 49
 (xl 6 48 (xf 28 3 2 (.v 3))) .nil)))))]) (.cond 15 (.seq (.run 0 [.eff none none (.store 6 (.t 54) (.t 53)) (.cons 54 (xf 28 3 1 (.v 3)) (.cons 53 (.v 6) .nil)) none]) (.run
 0 [.eff none none (.store 6 (.t 56) (.t 55)) (.cons 56 (xf 28 3 2 (.v 3)) (.cons 55 (.v 7) .nil)) none])) (.skip))) (.seq (.run 0 [.eff none (some 16) (.append 0 31 31 (.t
 57) (.t 59)) (.cons 57 (.n (.bslice false 31 0 []) .nil) (.cons 59 (xl 31 58 (xf 28 3 3 (.v 3))) .nil)) none, .eff none (some 17) (.append 0 31 31 (.t 60) (.t 63)) (.cons 60
 (.v 16) (.cons 63 (.n (.bslice false 31 1 [(0, (.t 62))]) (.cons 62 (.n (.build 32 [(0, (.t 61)), (1, (.c (.int .i64 1)))]) (.cons 61 (.v 6) .nil)) .nil)) .nil)) none, .eff
 none none (.store 31 (.t 65) (.t 64)) (.cons 65 (xf 28 3 3 (.v 3)) (.cons 64 (.v 17) .nil)) none]) (.seq (.run 0 [.eff none none (.store 28 (.t 4) (.t 66)) (.cons 4 (.v 4)
 (.cons 66 (xl 28 3 (.v 3)) .nil)) none]) (.ret))))) (.skip))) (.seq (.run 0 [.asg 18 (.n (.call 0 (.f 4) [(.t 68), (.t 69)]) (.cons 68 (xl 0 2 (.v 2)) (.cons 69 (.v 6) .nil))),
 .asg 19 (xe 67 1 (.v 18)), .asg 8 (xe 67 0 (.v 18))]) (.seq (.seq (.run 0 [.asg 20 (.ite (xk .gtr 2 75 (.int .i64 0) (xn 6 74 (xl 6 73 (xf 28 3 2 (.v 3))))) (xk .geq 2 81 (.int
 .i64 0) (.n (.call 0 (.f 111) [(.t 78), (.t 80)]) (.cons 78 (.v 8) (.cons 80 (xl 6 79 (xf 28 3 2 (.v 3))) .nil)))) (.c (.bool false)))]) (.cond 20 (.seq (.run 0 [.eff none
 (some 21) (.append 0 31 31 (.t 84) (.t 86)) (.cons 84 (.n (.bslice false 31 0 []) .nil) (.cons 86 (xl 31 85 (xf 28 3 3 (.v 3))) .nil)) none, .eff none (some 22) (.append 0
 31 31 (.t 87) (.t 90)) (.cons 87 (.v 21) (.cons 90 (.n (.bslice false 31 1 [(0, (.t 89))]) (.cons 89 (.n (.build 32 [(0, (.t 88)), (1, (.c (.int .i64 2)))]) (.cons 88 (.v 6)
 .nil)) .nil)) .nil)) none, .eff none none (.store 31 (.t 92) (.t 91)) (.cons 92 (xf 28 3 3 (.v 3)) (.cons 91 (.v 22) .nil)) none]) (.seq (.run 0 [.eff none none (.store 28
 (.t 4) (.t 93)) (.cons 4 (.v 4) (.cons 93 (xl 28 3 (.v 3)) .nil)) none]) (.ret))) (.skip))) (.seq (.run 0 [.asg 23 (.n (.call 0 (.f 8) [(.t 95), (.t 96)]) (.cons 95 (xl 0 2
 (.v 2)) (.cons 96 (.v 6) .nil))), .asg 24 (xe 94 1 (.v 23)), .asg 9 (xe 94 0 (.v 23))]) (.seq (.seq (.run 0 [.asg 10 (xk .sub 2 101 (.int .i64 1) (xn 4 100 (.v 9)))]) (.block
 0 (.loop (.seq (.seq (.run 0 [.asg 25 (xk .geq 2 103 (.int .i64 0) (.v 10))]) (.cond 25 (.skip) (.exit 0))) (.seq (.block 1 (.run 10 [.eff none (some 26) (.append 0 4 4 (.t
 108) (.t 113)) (.cons 108 (xl 4 107 (xf 28 3 0 (.v 3))) (.cons 113 (.n (.bslice false 4 1 [(0, (.t 112))]) (.cons 112 (xl 1 111 (xi 4 109 110 (.v 9) (.v 10))) .nil)) .nil))
 (some 7), .eff none none (.store 4 (.t 115) (.t 114)) (.cons 115 (xf 28 3 0 (.v 3)) (.cons 114 (.v 26) .nil)) (some 9)])) (.run 0 [.asg 10 (xk .sub 2 105 (.int .i64 1) (.v
 10))])))))) (.seq (.run 0 [.eff none none (.store 28 (.t 4) (.t 116)) (.cons 4 (.v 4) (.cons 116 (xl 28 3 (.v 3)) .nil)) none]) (.ret))))))))))
theorem c154 : TF E 154 n154 [(4, some 28)] t154 117 := tf_of (F := f154) rfl (by kernel_rfl) (by decide)

def n155 : List Nat := [0, 1, 2, 3, 4, 5, 6, 7, 11, 17, 27, 32, 42, 46]
def t155 : TC := .seq (.run 0 [.eff none (some 2) (.box 0 (.t 0)) (.cons 0 (.v 0) .nil) none, .eff none (some 3) (.box 28 (.t 1)) (.cons 1 (.v 1) .nil) none, .asg 4 (.c (.int .i64 0))]) (.seq
 (.run 0 [.asg 5 (.n (.call 0 (.f 19) [(.t 8)]) (.cons 8 (xl 0 2 (.v 2)) .nil))]) (.seq (.seq (.run 0 [.asg 8 (xk .neq 3 10 (.int .i64 0) (.v 5))]) (.cond 8 (.seq (.run 0 [.asg
 4 (.v 5)]) (.ret)) (.skip))) (.seq (.seq (.run 0 [.asg 6 (.c (.int .i64 0))]) (.block 0 (.loop (.seq (.seq (.run 0 [.asg 9 (xb .lss 2 13 16 (.v 6) (xn 4 15 (xl 4 14 (xf 28
 3 0 (.v 3)))))]) (.cond 9 (.skip) (.exit 0))) (.seq (.block 1 (.seq (.run 8 [.asg 10 (.n (.un .not (.t 26)) (.cons 26 (.n (.call 0 (.f 78) [(.t 20), (.t 25)]) (.cons 20 (xl
 0 2 (.v 2)) (.cons 25 (xl 1 24 (xi 4 22 23 (xl 4 21 (xf 28 3 0 (.v 3))) (.v 6))) .nil))) .nil))]) (.cond 10 (.seq (.run 0 [.asg 4 (.c (.int .i64 300))]) (.ret)) (.skip))))
 (.run 0 [.asg 6 (xk .add 2 18 (.int .i64 1) (.v 6))])))))) (.seq (.seq (.run 0 [.asg 7 (.c (.int .i64 0))]) (.block 2 (.loop (.seq (.seq (.run 0 [.asg 11 (xb .lss 2 28 31 (.v
 7) (xn 31 30 (xl 31 29 (xf 28 3 3 (.v 3)))))]) (.cond 11 (.skip) (.exit 2))) (.seq (.block 3 (.seq (.run 8 [.asg 12 (.n (.un .not (.t 41)) (.cons 41 (.n (.call 0 (.f 170) [(.t
 35), (.t 40)]) (.cons 35 (xl 0 2 (.v 2)) (.cons 40 (xl 32 39 (xi 31 37 38 (xl 31 36 (xf 28 3 3 (.v 3))) (.v 7))) .nil))) .nil))]) (.cond 12 (.seq (.run 0 [.asg 4 (.c (.int
 .i64 300))]) (.ret)) (.skip)))) (.run 0 [.asg 7 (xk .add 2 33 (.int .i64 1) (.v 7))])))))) (.seq (.seq (.run 0 [.asg 13 (.n (.un .not (.t 45)) (.cons 45 (.n (.call 0 (.f 171)
 [(.t 43), (.t 44)]) (.cons 43 (xl 0 2 (.v 2)) (.cons 44 (xl 28 3 (.v 3)) .nil))) .nil))]) (.cond 13 (.seq (.run 0 [.asg 4 (.c (.int .i64 300))]) (.ret)) (.skip))) (.seq (.run
 0 [.asg 4 (.c (.int .i64 0))]) (.ret)))))))
theorem c155 : TF E 155 n155 [(4, none)] t155 47 := tf_of (F := f155) rfl (by kernel_rfl) (by decide)

def n157 : List Nat := [0, 1, 2, 3, 4]
def t157 : TC := .seq (.run 0 [.eff none (some 2) (.box 32 (.t 0)) (.cons 0 (.v 0) .nil) none, .asg 3 (.c (.bool false))]) (.seq (.run 0 [.asg 4 (.ite (xk .eql 2 6 (.int .i64 1) (xl 2 5 (xf
 32 2 1 (.v 2)))) (xb .eql 2 11 14 (xn 1 10 (xl 1 9 (xf 32 2 0 (.v 2)))) (xn 14 13 (xl 14 12 (xf 0 1 2 (.v 1))))) (.c (.bool false)))]) (.seq (.run 0 [.asg 3 (.ite (.ite (.n
 (.call 0 (.f 172) [(.t 17), (.t 19)]) (.cons 17 (xl 0 1 (.v 1)) (.cons 19 (xl 1 18 (xf 32 2 0 (.v 2))) .nil))) (xk .eql 2 24 (.int .i64 0) (xn 9 23 (xl 9 22 (xf 32 2 2 (.v
 2))))) (.c (.bool false))) (.ite (.v 4) (.c (.bool true)) (xk .eql 2 31 (.int .i64 2) (xl 2 30 (xf 32 2 1 (.v 2))))) (.c (.bool false)))]) (.ret)))
theorem c157 : TF E 157 n157 [(3, none)] t157 35 := tf_of (F := f157) rfl (by kernel_rfl) (by decide)

def n158 : List Nat := [0, 1, 3]
def t158 : TC := .seq (.run 0 [.asg 2 (.c (.bool false))]) (.seq (.run 0 [.asg 2 (.n (.un .not (.t 6)) (.cons 6 (.n (.call 0 (.f 172) [(.t 4), (.t 5)]) (.cons 4 (xl 0 1 (.v 1)) (.cons 5 (.v
 0) .nil))) .nil))]) (.ret))
theorem c158 : TF E 158 n158 [(2, none)] t158 8 := tf_of (F := f158) rfl (by kernel_rfl) (by decide)

def n159 : List Nat := [0, 1, 4]
def t159 : TC := .seq (.run 0 [.asg 2 (.c (.bool false))]) (.seq (.run 0 [.asg 2 (xk .geq 2 7 (.int .i64 0) (.n (.call 0 (.f 173) [(.t 5), (.t 6)]) (.cons 5 (.v 0) (.cons 6 (.v 1) .nil))))])
 (.ret))
theorem c159 : TF E 159 n159 [(2, none)] t159 9 := tf_of (F := f159) rfl (by kernel_rfl) (by decide)

def n160 : List Nat := [0, 1, 2, 3]
def t160 : TC := .seq (.run 0 [.eff none (some 2) (.box 32 (.t 0)) (.cons 0 (.v 0) .nil) none, .asg 3 (.c (.bool false))]) (.seq (.run 0 [.asg 3 (.n (.un .not (.t 6)) (.cons 6 (.n (.call 0
 (.t 4) [(.t 5)]) (.cons 4 (xl 33 1 (.v 1)) (.cons 5 (xl 32 2 (.v 2)) .nil))) .nil))]) (.ret))
theorem c160 : TF E 160 n160 [(3, none)] t160 8 := tf_of (F := f160) rfl (by kernel_rfl) (by decide)

def n161 : List Nat := [0, 1, 4]
def t161 : TC := .seq (.run 0 [.asg 2 (.c (.bool false))]) (.seq (.run 0 [.asg 2 (xk .geq 2 7 (.int .i64 0) (.n (.call 0 (.f 174) [(.t 5), (.t 6)]) (.cons 5 (.v 0) (.cons 6 (.v 1) .nil))))])
 (.ret))
theorem c161 : TF E 161 n161 [(2, none)] t161 9 := tf_of (F := f161) rfl (by kernel_rfl) (by decide)

def n162 : List Nat := [0, 1, 4, 5, 10, 12, 13, 14, 24]
def t162 : TC := .seq (.run 0 [.asg 2 (.c (.bool false))]) (.seq (.seq (.run 0 [.asg 4 (xb .neq 2 7 9 (xn 6 6 (.v 0)) (xn 6 8 (.v 1)))]) (.cond 4 (.seq (.run 0 [.asg 2 (.c (.bool false))])
 (.ret)) (.skip))) (.seq (.seq (.run 0 [.asg 5 (xn 6 11 (.v 0)), .asg 6 (.c (.int .i64 0))]) (.block 0 (.loop (.seq (.run 0 [.asg 7 (xb .lss 2 13 12 (.v 6) (.v 5))]) (.seq (.cond
 7 (.skip) (.exit 0)) (.seq (.block 1 (.seq (.run 0 [.asg 3 (.v 6)]) (.seq (.run 9 [.asg 8 (xb .neq 2 19 23 (xl 2 18 (xi 6 16 17 (.v 0) (.v 3))) (xl 2 22 (xi 6 20 21 (.v 1)
 (.v 3))))]) (.cond 8 (.seq (.run 0 [.asg 2 (.c (.bool false))]) (.ret)) (.skip))))) (.run 0 [.asg 6 (xk .add 2 13 (.int .i64 1) (.v 6))]))))))) (.seq (.run 0 [.asg 2 (.c (.bool
 true))]) (.ret))))
theorem c162 : TF E 162 n162 [(2, none)] t162 26 := tf_of (F := f162) rfl (by kernel_rfl) (by decide)

def n165 : List Nat := [0, 2, 7]
def t165 : TC := .seq (.run 0 [.asg 1 (.c (.imm .exact []))]) (.seq (.run 0 [.eff none (some 2) (.append 1 4 4 (.t 5) (.t 6)) (.cons 5 (.n (.bslice false 4 0 []) .nil) (.cons 6 (.v 0) .nil))
 none, .asg 1 (.v 2)]) (.ret))
theorem c165 : TF E 165 n165 [(1, none)] t165 8 := tf_of (F := f165) rfl (by kernel_rfl) (by decide)

def n166 : List Nat := [0, 2]
def t166 : TC := .seq (.run 0 [.asg 1 (.c (.imm .exact []))]) (.seq (.run 0 [.asg 1 (.n (.slice 31 (.t 3) none (some (.t 5)) (some (.t 7))) (.cons 3 (.v 0) (.cons 5 (xn 31 4 (.v 0)) (.cons
 7 (xn 31 6 (.v 0)) .nil))))]) (.ret))
theorem c166 : TF E 166 n166 [(1, none)] t166 9 := tf_of (F := f166) rfl (by kernel_rfl) (by decide)

def n167 : List Nat := [0, 1, 2, 11]
def t167 : TC := .run 0 [.eff none (some 3) (.append 0 31 31 (.t 6) (.t 10)) (.cons 6 (xl 31 5 (xf 28 2 3 (.v 2))) (.cons 10 (.n (.bslice false 31 1 [(0, (.t 9))]) (.cons 9 (.n (.build 32 [(0,
 (.t 7)), (1, (.t 8))]) (.cons 7 (.v 0) (.cons 8 (.v 1) .nil))) .nil)) .nil)) none, .eff none none (.store 31 (.t 12) (.t 11)) (.cons 12 (xf 28 2 3 (.v 2)) (.cons 11 (.v 3)
 .nil)) none]
theorem c167 : TF E 167 n167 [] t167 13 := tf_of (F := f167) rfl (by kernel_rfl) (by decide)

def n168 : List Nat := [0, 2, 3, 4]
def t168 : TC := .seq (.run 0 [.asg 1 (.c (.imm .exact [])), .asg 2 (.c (.imm .exact []))]) (.seq (.run 0 [.asg 3 (xk .sub 2 6 (.int .i64 1) (xn 35 5 (.v 0)))]) (.seq (.run 10 [.asg 1 (xl 1
 10 (xi 35 8 9 (.v 0) (.v 3))), .asg 2 (.n (.call 0 (.f 175) [(.t 14)]) (.cons 14 (.n (.slice 35 (.t 12) none (some (.t 13)) none) (.cons 12 (.v 0) (.cons 13 (.v 3) .nil)))
 .nil))]) (.ret)))
theorem c168 : TF E 168 n168 [(1, none), (2, none)] t168 16 := tf_of (F := f168) rfl (by kernel_rfl) (by decide)

def n169 : List Nat := [0, 1, 2]
def t169 : TC := .seq (.run 0 [.eff none (some 1) (.box 4 (.t 0)) (.cons 0 (.v 0) .nil) none, .asg 2 (.c .nilfn)]) (.seq (.run 0 [.asg 2 (.n (.mkfn 176 [(.t 1)]) (.cons 1 (.v 1) .nil))]) (.ret))
theorem c169 : TF E 169 n169 [(2, none)] t169 4 := tf_of (F := f169) rfl (by kernel_rfl) (by decide)

def n170 : List Nat := [0, 1, 2, 3, 4, 15]
def t170 : TC := .seq (.run 0 [.eff none (some 2) (.box 0 (.t 0)) (.cons 0 (.v 0) .nil) none, .eff none (some 3) (.box 32 (.t 1)) (.cons 1 (.v 1) .nil) none, .asg 4 (.c (.bool false))]) (.seq
 (.seq (.run 0 [.asg 5 (.ite (.n (.un .not (.t 8)) (.cons 8 (.n (.call 0 (.f 78) [(.t 5), (.t 7)]) (.cons 5 (xl 0 2 (.v 2)) (.cons 7 (xl 1 6 (xf 32 3 0 (.v 3))) .nil))) .nil))
 (.c (.bool true)) (xk .gtr 2 13 (.int .i64 0) (xn 9 12 (xl 9 11 (xf 32 3 2 (.v 3))))))]) (.cond 5 (.seq (.run 0 [.asg 4 (.c (.bool false))]) (.ret)) (.skip))) (.seq (.run 0
 [.asg 4 (.ite (.ite (xk .eql 2 17 (.int .i64 1) (xl 2 16 (xf 32 3 1 (.v 3)))) (xb .eql 2 22 25 (xn 1 21 (xl 1 20 (xf 32 3 0 (.v 3)))) (xn 14 24 (xl 14 23 (xf 0 2 2 (.v 2)))))
 (.c (.bool false))) (.c (.bool true)) (xk .eql 2 30 (.int .i64 2) (xl 2 29 (xf 32 3 1 (.v 3)))))]) (.ret)))
theorem c170 : TF E 170 n170 [(4, none)] t170 33 := tf_of (F := f170) rfl (by kernel_rfl) (by decide)

def n171 : List Nat := [0, 1, 2, 3, 4, 5, 6, 10, 15]
def t171 : TC := .seq (.run 0 [.eff none (some 2) (.box 0 (.t 0)) (.cons 0 (.v 0) .nil) none, .eff none (some 3) (.box 28 (.t 1)) (.cons 1 (.v 1) .nil) none, .asg 4 (.c (.bool false))]) (.seq
 (.seq (.run 0 [.asg 7 (xk .eql 2 9 (.int .i64 0) (xn 6 8 (xl 6 7 (xf 28 3 2 (.v 3)))))]) (.cond 7 (.seq (.run 0 [.asg 4 (xk .eql 2 13 (.int .i64 0) (xn 6 12 (xl 6 11 (xf 28
 3 1 (.v 3)))))]) (.ret)) (.skip))) (.seq (.run 0 [.asg 8 (.n (.call 0 (.f 23) [(.t 16), (.t 18)]) (.cons 16 (xl 0 2 (.v 2)) (.cons 18 (xl 6 17 (xf 28 3 1 (.v 3))) .nil))),
 .asg 5 (xe 15 0 (.v 8)), .asg 6 (xe 15 1 (.v 8))]) (.seq (.run 0 [.asg 4 (.ite (xk .eql 3 22 (.int .i64 0) (.v 6)) (.n (.call 0 (.f 145) [(.t 25), (.t 27)]) (.cons 25 (.v 5)
 (.cons 27 (xl 6 26 (xf 28 3 2 (.v 3))) .nil))) (.c (.bool false)))]) (.ret))))
theorem c171 : TF E 171 n171 [(4, none)] t171 30 := tf_of (F := f171) rfl (by kernel_rfl) (by decide)

def n172 : List Nat := [0, 1, 2, 4, 5, 6, 12, 13, 14, 15, 16, 32]
def t172 : TC := .seq (.run 0 [.eff none (some 2) (.box 0 (.t 0)) (.cons 0 (.v 0) .nil) none, .asg 3 (.c (.bool false))]) (.seq (.seq (.run 0 [.asg 6 (xb .gtr 2 8 11 (xn 1 7 (.v 1)) (xn 14
 10 (xl 14 9 (xf 0 2 2 (.v 2)))))]) (.cond 6 (.seq (.run 0 [.asg 3 (.c (.bool false))]) (.ret)) (.skip))) (.seq (.seq (.run 0 [.asg 7 (.v 1), .asg 8 (xn 1 13 (.v 7)), .asg 9
 (.c (.int .i64 0))]) (.block 0 (.loop (.seq (.run 0 [.asg 10 (xb .lss 2 15 14 (.v 9) (.v 8))]) (.seq (.cond 10 (.skip) (.exit 0)) (.seq (.block 1 (.seq (.run 0 [.asg 4 (.v
 9), .asg 5 (xl 2 18 (xi 1 13 15 (.v 7) (.v 9)))]) (.seq (.run 0 [.asg 11 (.ite (xk .lss 2 20 (.int .i64 0) (.v 5)) (.c (.bool true)) (xb .geq 2 23 30 (.v 5) (xn 16 29 (xl 16
 28 (xf 15 27 3 (xi 14 25 26 (xl 14 24 (xf 0 2 2 (.v 2))) (.v 4)))))))]) (.cond 11 (.seq (.run 0 [.asg 3 (.c (.bool false))]) (.ret)) (.skip))))) (.run 0 [.asg 9 (xk .add 2
 15 (.int .i64 1) (.v 9))]))))))) (.seq (.run 0 [.asg 3 (.c (.bool true))]) (.ret))))
theorem c172 : TF E 172 n172 [(3, none)] t172 34 := tf_of (F := f172) rfl (by kernel_rfl) (by decide)

def n173 : List Nat := [0, 1, 4, 5, 7, 8, 9, 16]
def t173 : TC := .seq (.run 0 [.asg 2 (.c (.int .i64 0))]) (.seq (.seq (.run 0 [.asg 4 (xn 4 6 (.v 0)), .asg 5 (.c (.int .i64 0))]) (.block 0 (.loop (.seq (.run 0 [.asg 6 (xb .lss 2 8 7 (.v
 5) (.v 4))]) (.seq (.cond 6 (.skip) (.exit 0)) (.seq (.block 1 (.seq (.run 0 [.asg 3 (.v 5)]) (.seq (.run 0 [.asg 7 (.n (.call 0 (.t 11) [(.t 15)]) (.cons 11 (.v 1) (.cons
 15 (xl 1 14 (xi 4 12 13 (.v 0) (.v 3))) .nil)))]) (.cond 7 (.seq (.run 0 [.asg 2 (.v 3)]) (.ret)) (.skip))))) (.run 0 [.asg 5 (xk .add 2 8 (.int .i64 1) (.v 5))]))))))) (.seq
 (.run 0 [.asg 2 (.c (.int .i64 (-1)))]) (.ret)))
theorem c173 : TF E 173 n173 [(2, none)] t173 19 := tf_of (F := f173) rfl (by kernel_rfl) (by decide)

def n174 : List Nat := [0, 1, 4, 5, 7, 8, 9, 16]
def t174 : TC := .seq (.run 0 [.asg 2 (.c (.int .i64 0))]) (.seq (.seq (.run 0 [.asg 4 (xn 31 6 (.v 0)), .asg 5 (.c (.int .i64 0))]) (.block 0 (.loop (.seq (.run 0 [.asg 6 (xb .lss 2 8 7 (.v
 5) (.v 4))]) (.seq (.cond 6 (.skip) (.exit 0)) (.seq (.block 1 (.seq (.run 0 [.asg 3 (.v 5)]) (.seq (.run 0 [.asg 7 (.n (.call 0 (.t 11) [(.t 15)]) (.cons 11 (.v 1) (.cons
 15 (xl 32 14 (xi 31 12 13 (.v 0) (.v 3))) .nil)))]) (.cond 7 (.seq (.run 0 [.asg 2 (.v 3)]) (.ret)) (.skip))))) (.run 0 [.asg 5 (xk .add 2 8 (.int .i64 1) (.v 5))]))))))) (.seq
 (.run 0 [.asg 2 (.c (.int .i64 (-1)))]) (.ret)))
theorem c174 : TF E 174 n174 [(2, none)] t174 19 := tf_of (F := f174) rfl (by kernel_rfl) (by decide)

def n175 : List Nat := [0, 2]
def t175 : TC := .seq (.run 0 [.asg 1 (.c (.imm .exact []))]) (.seq (.run 0 [.asg 1 (.n (.slice 35 (.t 3) none (some (.t 5)) (some (.t 7))) (.cons 3 (.v 0) (.cons 5 (xn 35 4 (.v 0)) (.cons
 7 (xn 35 6 (.v 0)) .nil))))]) (.ret))
theorem c175 : TF E 175 n175 [(1, none)] t175 9 := tf_of (F := f175) rfl (by kernel_rfl) (by decide)

def n176 : List Nat := [0, 1, 3, 8, 16, 17]
def t176 : TC := .seq (.run 0 [.asg 2 (xk .sub 2 5 (.int .i64 1) (xn 4 4 (xl 4 1 (.v 1))))]) (.block 0 (.loop (.seq (.seq (.run 0 [.asg 3 (xk .geq 2 7 (.int .i64 0) (.v 2))]) (.cond 3 (.skip)
 (.exit 0))) (.seq (.block 1 (.seq (.run 0 [.eff none (some 4) (.call 2 (.t 11) [(.t 15)]) (.cons 11 (.v 0) (.cons 15 (xl 1 14 (xi 4 12 13 (xl 4 1 (.v 1)) (.v 2))) .nil)) none,
 .asg 5 (.n (.un .not (.t 16)) (.cons 16 (.v 4) .nil))]) (.cond 5 (.ret) (.skip)))) (.run 0 [.asg 2 (xk .sub 2 9 (.int .i64 1) (.v 2))])))))
theorem c176 : TF E 176 n176 [] t176 18 := tf_of (F := f176) rfl (by kernel_rfl) (by decide)

def n178 : List Nat := [0, 1, 2, 3, 4, 5, 6, 7, 8, 9, 10, 11, 12, 13, 14, 15, 16, 18, 19, 20, 21, 22, 26, 31, 37, 42, 47, 53, 59, 64, 67, 69]
def t178 : TC := .seq (.run 0 [.asg 0 (.c (.bool false))]) (.seq (.run 0 [.asg 21 (.n (.call 0 (.f 190) []) .nil), .eff none (some 1) (.alloc 0) .nil none, .eff none none (.store 0 (.t 1) (.t
 24)) (.cons 1 (.v 1) (.cons 24 (xe 22 0 (.v 21)) .nil)) none, .asg 2 (xe 22 1 (.v 21))]) (.seq (.run 0 [.asg 22 (.n (.call 0 (.f 184) [(.t 27)]) (.cons 27 (xl 0 1 (.v 1)) .nil)),
 .asg 3 (xe 26 0 (.v 22)), .asg 4 (xe 26 1 (.v 22))]) (.seq (.run 0 [.asg 23 (.n (.call 0 (.f 183) [(.t 32), (.t 33), (.c (.int .i64 0))]) (.cons 32 (xl 0 1 (.v 1)) (.cons 33
 (.v 2) .nil))), .eff none (some 5) (.alloc 0) .nil none, .eff none none (.store 0 (.t 5) (.t 35)) (.cons 5 (.v 5) (.cons 35 (xe 31 0 (.v 23)) .nil)) none, .asg 6 (xe 31 1 (.v
 23))]) (.seq (.run 0 [.asg 24 (.n (.call 0 (.f 184) [(.t 38)]) (.cons 38 (xl 0 5 (.v 5)) .nil)), .asg 7 (xe 37 0 (.v 24)), .asg 8 (xe 37 1 (.v 24))]) (.seq (.run 0 [.asg 25
 (.n (.call 0 (.f 183) [(.t 43), (.c (.imm .exact [])), (.c (.int .i64 0))]) (.cons 43 (xl 0 1 (.v 1)) .nil)), .eff none (some 9) (.alloc 0) .nil none, .eff none none (.store
 0 (.t 9) (.t 45)) (.cons 9 (.v 9) (.cons 45 (xe 42 0 (.v 25)) .nil)) none, .asg 10 (xe 42 1 (.v 25))]) (.seq (.run 0 [.asg 26 (.n (.call 0 (.f 183) [(.t 48), (.t 49), (.c (.int
 .i64 (-1)))]) (.cons 48 (xl 0 1 (.v 1)) (.cons 49 (.v 2) .nil))), .eff none (some 11) (.alloc 0) .nil none, .eff none none (.store 0 (.t 11) (.t 51)) (.cons 11 (.v 11) (.cons
 51 (xe 47 0 (.v 26)) .nil)) none, .asg 12 (xe 47 1 (.v 26))]) (.seq (.run 0 [.asg 27 (.n (.call 0 (.f 180) [(.t 54), (.t 55)]) (.cons 54 (xl 0 1 (.v 1)) (.cons 55 (.v 2) .nil))),
 .asg 13 (xe 53 0 (.v 27)), .asg 14 (xe 53 1 (.v 27))]) (.seq (.run 0 [.asg 28 (.n (.call 0 (.f 180) [(.t 60), (.c (.imm .exact []))]) (.cons 60 (xl 0 1 (.v 1)) .nil)), .asg
 15 (xe 59 0 (.v 28)), .asg 16 (xe 59 1 (.v 28))]) (.seq (.run 0 [.asg 29 (.n (.call 0 (.f 180) [(.t 65), (.c (.imm .exact []))]) (.cons 65 (.n (.build 0 []) .nil) .nil)), .asg
 30 (xe 64 0 (.v 29)), .asg 17 (xe 64 1 (.v 29))]) (.seq (.run 0 [.asg 31 (.n (.call 0 (.f 184) [(.t 71)]) (.cons 71 (.n (.build 0 [(1, (.t 70))]) (.cons 70 (.n (.bslice false
 9 1 [(0, (.c (.imm .exact [])))]) .nil) .nil)) .nil)), .asg 18 (xe 69 0 (.v 31)), .asg 19 (xe 69 1 (.v 31))]) (.seq (.run 0 [.asg 20 (.n (.bslice false 38 1 [(0, (.t 77))])
 (.cons 77 (.n (.build 39 [(1, (.t 76))]) (.cons 76 (.n (.bslice false 9 1 [(0, (.t 75))]) (.cons 75 (.n (.bslice false 6 1 [(0, (.c (.int .i64 1)))]) .nil) .nil)) .nil)) .nil))])
 (.seq (.run 0 [.asg 0 (.ite (.ite (.ite (.ite (.ite (.ite (.ite (.ite (.ite (.ite (.ite (.ite (.ite (.ite (.ite (.ite (.ite (xk .eql 3 79 (.int .i64 0) (.v 4)) (.n (.call 0
 (.f 20) [(.t 82), (.t 83)]) (.cons 82 (.v 3) (.cons 83 (.n (.bslice false 6 2 [(0, (.c (.int .i64 0))), (1, (.c (.int .i64 10)))]) .nil) .nil))) (.c (.bool false))) (xk .eql
 3 87 (.int .i64 0) (.v 6)) (.c (.bool false))) (xk .eql 2 96 (.int .i64 2) (xl 2 95 (.n (.iaddr 6 (.t 94) (.c (.int .i64 0))) (.cons 94 (xl 6 93 (.n (.iaddr 9 (.t 92) (.c (.int
 .i64 0))) (.cons 92 (xl 9 91 (xf 0 5 1 (.v 5))) .nil))) .nil)))) (.c (.bool false))) (xk .eql 3 100 (.int .i64 0) (.v 8)) (.c (.bool false))) (.n (.call 0 (.f 20) [(.t 104),
 (.t 105)]) (.cons 104 (.v 7) (.cons 105 (.n (.bslice false 6 2 [(0, (.c (.int .i64 0))), (1, (.c (.int .i64 0)))]) .nil) .nil))) (.c (.bool false))) (xk .eql 3 109 (.int .i64
 0) (.v 10)) (.c (.bool false))) (.n (.call 0 (.f 188) [(.t 113), (.t 114)]) (.cons 113 (xl 0 9 (.v 9)) (.cons 114 (xl 0 1 (.v 1)) .nil))) (.c (.bool false))) (xk .eql 3 118
 (.int .i64 1) (.v 12)) (.c (.bool false))) (xk .eql 3 122 (.int .i64 0) (.v 14)) (.c (.bool false))) (.n (.call 0 (.f 187) [(.t 126), (.t 128)]) (.cons 126 (.v 13) (.cons 128
 (.n (.bslice false 36 1 [(0, (.t 127))]) (.cons 127 (.n (.build 37 [(0, (.c (.int .i64 0))), (1, (.c (.int .i64 1))), (2, (.c (.int .i64 10)))]) .nil) .nil)) .nil))) (.c (.bool
 false))) (xk .eql 3 132 (.int .i64 0) (.v 16)) (.c (.bool false))) (.n (.call 0 (.f 187) [(.t 136), (.t 138)]) (.cons 136 (.v 15) (.cons 138 (.n (.bslice false 36 1 [(0, (.t
 137))]) (.cons 137 (.n (.build 37 [(0, (.c (.int .i64 (-1)))), (1, (.c (.int .i64 1))), (2, (.c (.int .i64 10)))]) .nil) .nil)) .nil))) (.c (.bool false))) (xk .eql 3 142 (.int
 .i64 270) (.v 17)) (.c (.bool false))) (xk .eql 3 146 (.int .i64 0) (.v 19)) (.c (.bool false))) (xk .eql 2 151 (.int .i64 0) (xn 6 150 (.v 18))) (.c (.bool false))) (xk .eql
 3 156 (.int .i64 0) (.n (.call 0 (.f 181) [(.t 155), (.c (.imm .exact []))]) (.cons 155 (xl 0 1 (.v 1)) .nil))) (.c (.bool false))) (xk .eql 3 162 (.int .i64 420) (.n (.call
 0 (.f 181) [(.t 160), (.t 161)]) (.cons 160 (xl 0 1 (.v 1)) (.cons 161 (.v 20) .nil)))) (.c (.bool false)))]) (.ret)))))))))))))
theorem c178 : TF E 178 n178 [(0, none)] t178 165 := tf_of (F := f178) rfl (by kernel_rfl) (by decide)

def n179 : List Nat := [0, 1, 2, 4, 5, 6, 10, 20, 36]
def t179 : TC := .seq (.run 0 [.eff none (some 2) (.box 0 (.t 0)) (.cons 0 (.v 0) .nil) none, .asg 3 (.c (.bool false))]) (.seq (.seq (.run 0 [.asg 4 (.c (.int .i64 0))]) (.block 0 (.loop (.seq
 (.seq (.run 0 [.asg 6 (xb .lss 2 7 9 (.v 4) (xn 38 8 (.v 1)))]) (.cond 6 (.skip) (.exit 0))) (.seq (.block 1 (.seq (.run 0 [.asg 5 (.c (.int .i64 0))]) (.block 2 (.loop (.seq
 (.seq (.run 0 [.asg 7 (xb .lss 2 13 19 (.v 5) (xn 9 18 (xl 9 17 (xf 39 16 1 (xi 38 14 15 (.v 1) (.v 4))))))]) (.cond 7 (.skip) (.exit 2))) (.seq (.block 3 (.seq (.run 0 [.asg
 8 (.ite (xk .geq 2 23 (.int .i64 8) (.v 5)) (.c (.bool true)) (xk .gtr 2 34 (.int .i64 20) (xn 6 33 (xl 6 32 (xi 9 30 31 (xl 9 29 (xf 39 28 1 (xi 38 26 27 (.v 1) (.v 4))))
 (.v 5))))))]) (.cond 8 (.seq (.run 0 [.asg 3 (.c (.bool false))]) (.ret)) (.skip)))) (.run 0 [.asg 5 (xk .add 2 21 (.int .i64 1) (.v 5))]))))))) (.run 0 [.asg 4 (xk .add 2
 11 (.int .i64 1) (.v 4))])))))) (.seq (.run 0 [.asg 3 (.ite (.n (.call 0 (.f 129) [(.t 37)]) (.cons 37 (xl 0 2 (.v 2)) .nil)) (xk .leq 2 41 (.int .i64 4) (xn 38 40 (.v 1)))
 (.c (.bool false)))]) (.ret)))
theorem c179 : TF E 179 n179 [(3, none)] t179 44 := tf_of (F := f179) rfl (by kernel_rfl) (by decide)

def n180 : List Nat := [0, 1, 2, 4, 5, 6, 7, 8, 9, 10, 11, 12, 17, 21, 26, 27, 28, 29, 35, 40]
def t180 : TC := .seq (.run 0 [.eff none (some 2) (.box 0 (.t 0)) (.cons 0 (.v 0) .nil) none, .eff none (some 3) (.alloc 36) .nil none, .eff none (some 4) (.alloc 3) .nil none]) (.seq (.seq
 (.run 0 [.asg 5 (.n (.call 0 (.f 181) [(.t 13), (.t 14)]) (.cons 13 (xl 0 2 (.v 2)) (.cons 14 (.v 1) .nil)))]) (.seq (.run 0 [.asg 12 (xk .neq 3 16 (.int .i64 0) (.v 5))])
 (.cond 12 (.seq (.run 0 [.eff none none (.store 36 (.t 4) (.c (.imm .exact []))) (.cons 4 (.v 3) .nil) none, .eff none none (.store 3 (.t 5) (.t 18)) (.cons 5 (.v 4) (.cons
 18 (.v 5) .nil)) none]) (.ret)) (.skip)))) (.seq (.run 0 [.asg 13 (xn 14 20 (xl 14 19 (xf 0 2 2 (.v 2)))), .eff none (some 6) (.alloc 6) .nil none, .eff none none (.store 6
 (.t 7) (.t 22)) (.cons 7 (.v 6) (.cons 22 (.n (.mkslice false 6 (.t 21) (.t 21)) (.cons 21 (.v 13) (.cons 21 (.v 13) .nil))) .nil)) none]) (.seq (.run 0 [.eff none (some 7)
 (.alloc 40) .nil none, .eff none none (.store 40 (.t 8) (.t 23)) (.cons 8 (.v 7) (.cons 23 (.n (.mkfn 191 [(.t 7), (.t 4)]) (.cons 7 (.v 6) (.cons 4 (.v 3) .nil))) .nil)) none])
 (.seq (.seq (.run 0 [.asg 14 (.n (.call 0 (.f 192) [(.t 24), (.t 25)]) (.cons 24 (xl 0 2 (.v 2)) (.cons 25 (.v 1) .nil)))]) (.block 0 (.rfunc 14 [15, 16] (.seq (.run 0 [.asg
 8 (.v 15)]) (.run 0 [.eff none (some 9) (.alloc 0) .nil none, .eff none none (.store 0 (.t 10) (.t 28)) (.cons 10 (.v 9) (.cons 28 (.v 16) .nil)) none])) (.block 1 (.seq (.run
 0 [.asg 17 (.n (.call 0 (.f 184) [(.t 30)]) (.cons 30 (xl 0 10 (.v 9)) .nil)), .asg 10 (xe 29 0 (.v 17)), .asg 11 (xe 29 1 (.v 17))]) (.seq (.seq (.run 0 [.asg 18 (xk .neq
 3 34 (.int .i64 0) (.v 11))]) (.cond 18 (.seq (.run 0 [.eff none none (.store 36 (.t 4) (.c (.imm .exact []))) (.cons 4 (.v 3) .nil) none, .eff none none (.store 3 (.t 5) (.t
 36)) (.cons 5 (.v 4) (.cons 36 (.v 11) .nil)) none]) (.ret)) (.skip))) (.run 0 [.eff none (some 19) (.call 2 (.t 37) [(.t 38), (.t 39)]) (.cons 37 (xl 40 8 (.v 7)) (.cons 38
 (.v 8) (.cons 39 (.v 10) .nil))) none]))))))) (.seq (.run 0 [.eff none none (.store 36 (.t 4) (.t 41)) (.cons 4 (.v 3) (.cons 41 (xl 36 4 (.v 3)) .nil)) none, .eff none none
 (.store 3 (.t 5) (.c (.int .i64 0))) (.cons 5 (.v 4) .nil) none]) (.ret))))))
theorem c180 : TF E 180 n180 [(3, some 36), (4, some 3)] t180 42 := tf_of (F := f180) rfl (by kernel_rfl) (by decide)

def n181 : List Nat := [0, 1, 2, 4, 5, 6, 10, 16, 19, 20]
def t181 : TC := .seq (.run 0 [.eff none (some 2) (.box 0 (.t 0)) (.cons 0 (.v 0) .nil) none, .asg 3 (.c (.int .i64 0))]) (.seq (.seq (.run 0 [.asg 4 (.n (.call 0 (.f 15) [(.t 7)]) (.cons 7
 (xl 0 2 (.v 2)) .nil))]) (.seq (.run 0 [.asg 6 (xk .neq 3 9 (.int .i64 0) (.v 4))]) (.cond 6 (.seq (.run 0 [.asg 3 (.v 4)]) (.ret)) (.skip)))) (.seq (.run 0 [.asg 5 (.n (.mkfn
 193 [(.t 2)]) (.cons 2 (.v 2) .nil))]) (.seq (.seq (.run 0 [.asg 7 (xk .gtr 2 14 (.int .i64 8) (xn 38 13 (.v 1))), .eff (some ((.v 7), false)) (some 8) (.call 3 (.f 194) [(.t
 17), (.t 18)]) (.cons 17 (.v 1) (.cons 18 (.v 5) .nil)) none, .asg 9 (.ite (.v 7) (.c (.bool true)) (.v 8))]) (.cond 9 (.seq (.run 0 [.asg 3 (.c (.int .i64 420))]) (.ret))
 (.skip))) (.seq (.run 0 [.asg 3 (.c (.int .i64 0))]) (.ret)))))
theorem c181 : TF E 181 n181 [(3, none)] t181 21 := tf_of (F := f181) rfl (by kernel_rfl) (by decide)

def n184 : List Nat := [0, 1, 2, 3, 4, 5, 6, 7, 13, 16, 17, 18, 19, 35]
def t184 : TC := .seq (.run 0 [.eff none (some 1) (.box 0 (.t 0)) (.cons 0 (.v 0) .nil) none, .asg 2 (.c (.imm .exact [])), .asg 3 (.c (.int .i64 0))]) (.seq (.run 0 [.asg 7 (.n (.call 0 (.f
 131) [(.t 8)]) (.cons 8 (xl 0 1 (.v 1)) .nil)), .eff none (some 4) (.alloc 29) .nil none, .eff none none (.store 29 (.t 4) (.t 10)) (.cons 4 (.v 4) (.cons 10 (xe 7 0 (.v 7))
 .nil)) none, .asg 3 (xe 7 1 (.v 7))]) (.seq (.seq (.run 0 [.asg 8 (xk .neq 3 12 (.int .i64 0) (.v 3))]) (.cond 8 (.seq (.run 0 [.asg 2 (.c (.imm .exact [])), .asg 3 (.v 3)])
 (.ret)) (.skip))) (.seq (.seq (.run 0 [.asg 9 (xl 6 15 (xf 29 4 0 (.v 4))), .asg 10 (xn 6 16 (.v 9)), .asg 11 (.c (.int .i64 0))]) (.block 0 (.loop (.seq (.run 0 [.asg 12 (xb
 .lss 2 18 17 (.v 11) (.v 10))]) (.seq (.cond 12 (.skip) (.exit 0)) (.seq (.block 1 (.seq (.run 0 [.asg 5 (.v 11), .asg 6 (xl 2 21 (xi 6 16 18 (.v 9) (.v 11)))]) (.run 0 [.eff
 none (some 13) (.append 0 6 6 (.t 23) (.t 34)) (.cons 23 (.v 2) (.cons 34 (.n (.bslice false 6 1 [(0, (.t 33))]) (.cons 33 (xl 2 32 (xf 17 31 0 (xi 16 29 30 (xl 16 28 (xf 15
 27 3 (xi 14 25 26 (xl 14 24 (xf 0 1 2 (.v 1))) (.v 5)))) (.v 6)))) .nil)) .nil)) none, .asg 2 (.v 13)]))) (.run 0 [.asg 11 (xk .add 2 18 (.int .i64 1) (.v 11))]))))))) (.seq
 (.run 0 [.asg 2 (.v 2), .asg 3 (.c (.int .i64 0))]) (.ret)))))
theorem c184 : TF E 184 n184 [(2, none), (3, none)] t184 38 := tf_of (F := f184) rfl (by kernel_rfl) (by decide)

def n187 : List Nat := [0, 1, 4, 5, 10, 14, 25]
def t187 : TC := .seq (.run 0 [.asg 2 (.c (.bool false))]) (.seq (.seq (.run 0 [.asg 4 (xb .neq 2 7 9 (xn 36 6 (.v 0)) (xn 36 8 (.v 1)))]) (.cond 4 (.seq (.run 0 [.asg 2 (.c (.bool false))])
 (.ret)) (.skip))) (.seq (.seq (.run 0 [.asg 3 (.c (.int .i64 0))]) (.block 0 (.loop (.seq (.seq (.run 0 [.asg 5 (xb .lss 2 11 13 (.v 3) (xn 36 12 (.v 0)))]) (.cond 5 (.skip)
 (.exit 0))) (.seq (.block 1 (.seq (.run 9 [.asg 6 (xb .neq 37 20 24 (xl 37 19 (xi 36 17 18 (.v 0) (.v 3))) (xl 37 23 (xi 36 21 22 (.v 1) (.v 3))))]) (.cond 6 (.seq (.run 0
 [.asg 2 (.c (.bool false))]) (.ret)) (.skip)))) (.run 0 [.asg 3 (xk .add 2 15 (.int .i64 1) (.v 3))])))))) (.seq (.run 0 [.asg 2 (.c (.bool true))]) (.ret))))
theorem c187 : TF E 187 n187 [(2, none)] t187 26 := tf_of (F := f187) rfl (by kernel_rfl) (by decide)

def n188 : List Nat := [0, 1, 2, 3, 4, 5, 6, 7, 32, 37, 50, 55, 69, 74, 88]
def t188 : TC := .seq (.run 0 [.eff none (some 2) (.box 0 (.t 0)) (.cons 0 (.v 0) .nil) none, .eff none (some 3) (.box 0 (.t 1)) (.cons 1 (.v 1) .nil) none, .asg 4 (.c (.bool false))]) (.seq
 (.seq (.run 0 [.asg 8 (.ite (.ite (xb .neq 2 10 13 (xn 10 9 (xl 10 8 (xf 0 2 0 (.v 2)))) (xn 10 12 (xl 10 11 (xf 0 3 0 (.v 3))))) (.c (.bool true)) (xb .neq 2 18 21 (xn 9 17
 (xl 9 16 (xf 0 2 1 (.v 2)))) (xn 9 20 (xl 9 19 (xf 0 3 1 (.v 3)))))) (.c (.bool true)) (xb .neq 2 27 30 (xn 14 26 (xl 14 25 (xf 0 2 2 (.v 2)))) (xn 14 29 (xl 14 28 (xf 0 3
 2 (.v 3))))))]) (.cond 8 (.seq (.run 0 [.asg 4 (.c (.bool false))]) (.ret)) (.skip))) (.seq (.seq (.run 0 [.asg 5 (.c (.int .i64 0))]) (.block 0 (.loop (.seq (.seq (.run 0
 [.asg 9 (xb .lss 2 33 36 (.v 5) (xn 10 35 (xl 10 34 (xf 0 2 0 (.v 2)))))]) (.cond 9 (.skip) (.exit 0))) (.seq (.block 1 (.seq (.run 11 [.asg 10 (xb .neq 20 44 49 (xl 20 43
 (xi 10 41 42 (xl 10 40 (xf 0 2 0 (.v 2))) (.v 5))) (xl 20 48 (xi 10 46 47 (xl 10 45 (xf 0 3 0 (.v 3))) (.v 5))))]) (.cond 10 (.seq (.run 0 [.asg 4 (.c (.bool false))]) (.ret))
 (.skip)))) (.run 0 [.asg 5 (xk .add 2 38 (.int .i64 1) (.v 5))])))))) (.seq (.seq (.run 0 [.asg 6 (.c (.int .i64 0))]) (.block 2 (.loop (.seq (.seq (.run 0 [.asg 11 (xb .lss
 2 51 54 (.v 6) (xn 9 53 (xl 9 52 (xf 0 2 1 (.v 2)))))]) (.cond 11 (.skip) (.exit 2))) (.seq (.block 3 (.seq (.run 12 [.asg 12 (.n (.un .not (.t 68)) (.cons 68 (.n (.call 0
 (.f 20) [(.t 62), (.t 67)]) (.cons 62 (xl 6 61 (xi 9 59 60 (xl 9 58 (xf 0 2 1 (.v 2))) (.v 6))) (.cons 67 (xl 6 66 (xi 9 64 65 (xl 9 63 (xf 0 3 1 (.v 3))) (.v 6))) .nil)))
 .nil))]) (.cond 12 (.seq (.run 0 [.asg 4 (.c (.bool false))]) (.ret)) (.skip)))) (.run 0 [.asg 6 (xk .add 2 56 (.int .i64 1) (.v 6))])))))) (.seq (.seq (.run 0 [.asg 7 (.c
 (.int .i64 0))]) (.block 4 (.loop (.seq (.seq (.run 0 [.asg 13 (xb .lss 2 70 73 (.v 7) (xn 14 72 (xl 14 71 (xf 0 2 2 (.v 2)))))]) (.cond 13 (.skip) (.exit 4))) (.seq (.block
 5 (.seq (.run 12 [.asg 14 (.n (.un .not (.t 87)) (.cons 87 (.n (.call 0 (.f 196) [(.t 81), (.t 86)]) (.cons 81 (xl 15 80 (xi 14 78 79 (xl 14 77 (xf 0 2 2 (.v 2))) (.v 7)))
 (.cons 86 (xl 15 85 (xi 14 83 84 (xl 14 82 (xf 0 3 2 (.v 3))) (.v 7))) .nil))) .nil))]) (.cond 14 (.seq (.run 0 [.asg 4 (.c (.bool false))]) (.ret)) (.skip)))) (.run 0 [.asg
 7 (xk .add 2 75 (.int .i64 1) (.v 7))])))))) (.seq (.run 0 [.asg 4 (.c (.bool true))]) (.ret))))))
theorem c188 : TF E 188 n188 [(4, none)] t188 89 := tf_of (F := f188) rfl (by kernel_rfl) (by decide)

def n191 : List Nat := [0, 1, 2, 3, 6, 7, 8, 9, 10, 11, 20, 32]
def t191 : TC := .seq (.seq (.run 0 [.asg 6 (.v 1), .asg 7 (xn 6 8 (.v 6)), .asg 8 (.c (.int .i64 0))]) (.block 0 (.loop (.seq (.run 0 [.asg 9 (xb .lss 2 10 9 (.v 8) (.v 7))]) (.seq (.cond
 9 (.skip) (.exit 0)) (.seq (.block 1 (.seq (.run 0 [.asg 4 (.v 8), .asg 5 (xl 2 13 (xi 6 8 10 (.v 6) (.v 8)))]) (.seq (.run 0 [.asg 10 (xb .neq 2 15 19 (.v 5) (xl 2 18 (xi
 6 16 17 (xl 6 2 (.v 2)) (.v 4))))]) (.cond 10 (.run 13 [.eff none (some 11) (.append 0 36 36 (.t 21) (.t 31)) (.cons 21 (xl 36 3 (.v 3)) (.cons 31 (.n (.bslice false 36 1 [(0,
 (.t 30))]) (.cons 30 (.n (.build 37 [(0, (.t 22)), (1, (.t 23)), (2, (.t 29))]) (.cons 22 (.v 0) (.cons 23 (.v 4) (.cons 29 (xb .sub 2 24 28 (.v 5) (xl 2 27 (xi 6 25 26 (xl
 6 2 (.v 2)) (.v 4)))) .nil)))) .nil)) .nil)) (some 11), .eff none none (.store 36 (.t 3) (.t 32)) (.cons 3 (.v 3) (.cons 32 (.v 11) .nil)) (some 12)]) (.skip))))) (.run 0 [.asg
 8 (xk .add 2 10 (.int .i64 1) (.v 8))]))))))) (.run 0 [.eff none none (.store 6 (.t 2) (.t 34)) (.cons 2 (.v 2) (.cons 34 (.v 1) .nil)) none])
theorem c191 : TF E 191 n191 [] t191 35 := tf_of (F := f191) rfl (by kernel_rfl) (by decide)

def n192 : List Nat := [0, 1, 2, 3, 4]
def t192 : TC := .seq (.run 0 [.eff none (some 2) (.box 0 (.t 0)) (.cons 0 (.v 0) .nil) none, .eff none (some 3) (.box 38 (.t 1)) (.cons 1 (.v 1) .nil) none, .asg 4 (.c .nilfn)]) (.seq (.run
 0 [.asg 4 (.n (.mkfn 198 [(.t 3), (.t 2)]) (.cons 3 (.v 3) (.cons 2 (.v 2) .nil)))]) (.ret))
theorem c192 : TF E 192 n192 [(4, none)] t192 6 := tf_of (F := f192) rfl (by kernel_rfl) (by decide)

def n193 : List Nat := [0, 1, 2, 3]
def t193 : TC := .seq (.run 0 [.eff none (some 2) (.box 39 (.t 0)) (.cons 0 (.v 0) .nil) none, .asg 3 (.c (.bool false))]) (.seq (.run 0 [.asg 3 (.ite (.ite (.ite (xk .lss 2 5 (.int .i64 0)
 (xl 2 4 (xf 39 2 0 (.v 2)))) (.c (.bool true)) (xk .gtr 2 9 (.int .i64 1048576) (xl 2 8 (xf 39 2 0 (.v 2))))) (.c (.bool true)) (xb .neq 2 15 18 (xn 9 14 (xl 9 13 (xf 39 2
 1 (.v 2)))) (xn 9 17 (xl 9 16 (xf 0 1 1 (.v 1)))))) (.c (.bool true)) (.n (.call 0 (.f 94) [(.t 23), (.t 24)]) (.cons 23 (xl 9 22 (xf 39 2 1 (.v 2))) (.cons 24 (.n (.mkfn 199
 [(.t 1)]) (.cons 1 (.v 1) .nil)) .nil))))]) (.ret))
theorem c193 : TF E 193 n193 [(3, none)] t193 27 := tf_of (F := f193) rfl (by kernel_rfl) (by decide)

def n194 : List Nat := [0, 1, 4]
def t194 : TC := .seq (.run 0 [.asg 2 (.c (.bool false))]) (.seq (.run 0 [.asg 2 (xk .geq 2 7 (.int .i64 0) (.n (.call 0 (.f 201) [(.t 5), (.t 6)]) (.cons 5 (.v 0) (.cons 6 (.v 1) .nil))))])
 (.ret))
theorem c194 : TF E 194 n194 [(2, none)] t194 9 := tf_of (F := f194) rfl (by kernel_rfl) (by decide)

def n195 : List Nat := [0, 1, 2, 3, 6, 7, 8, 9, 10, 12, 17, 19, 20, 21, 22, 30, 31, 32, 33, 35, 43, 50]
def t195 : TC := .seq (.run 0 [.eff none (some 3) (.box 0 (.t 0)) (.cons 0 (.v 0) .nil) none, .eff none (some 4) (.alloc 0) .nil none]) (.seq (.run 0 [.asg 10 (.n (.build 0 [(0, (.t 14)), (2,
 (.t 16))]) (.cons 14 (xl 10 13 (xf 0 3 0 (.v 3))) (.cons 16 (xl 14 15 (xf 0 3 2 (.v 3))) .nil))), .eff none (some 5) (.alloc 0) .nil none, .eff none none (.store 0 (.t 7) (.t
 17)) (.cons 7 (.v 5) (.cons 17 (.v 10) .nil)) none]) (.seq (.seq (.run 0 [.asg 11 (xl 9 18 (xf 0 3 1 (.v 3))), .asg 12 (xn 9 19 (.v 11)), .asg 13 (.c (.int .i64 0))]) (.block
 0 (.loop (.seq (.run 0 [.asg 14 (xb .lss 2 21 20 (.v 13) (.v 12))]) (.seq (.cond 14 (.skip) (.exit 0)) (.seq (.block 1 (.seq (.run 0 [.asg 6 (.v 13), .asg 7 (xl 6 24 (xi 9
 19 21 (.v 11) (.v 13)))]) (.seq (.run 0 [.asg 8 (.n (.bslice false 9 1 [(0, (.t 26))]) (.cons 26 (.v 7) .nil))]) (.seq (.seq (.run 0 [.asg 15 (.n (.slice 38 (.t 28) (some (.t
 29)) none none) (.cons 28 (.v 1) (.cons 29 (.v 2) .nil))), .asg 16 (xn 38 30 (.v 15)), .asg 17 (.c (.int .i64 0))]) (.block 2 (.loop (.seq (.run 0 [.asg 18 (xb .lss 2 32 31
 (.v 17) (.v 16))]) (.seq (.cond 18 (.skip) (.exit 2)) (.seq (.block 3 (.seq (.run 0 [.asg 19 (xl 39 34 (xi 38 30 32 (.v 15) (.v 17))), .eff none (some 9) (.alloc 39) .nil none,
 .eff none none (.store 39 (.t 12) (.t 35)) (.cons 12 (.v 9) (.cons 35 (.v 19) .nil)) none]) (.run 0 [.eff none (some 20) (.append 0 9 9 (.t 36) (.t 42)) (.cons 36 (.v 8) (.cons
 42 (.n (.bslice false 9 1 [(0, (.t 41))]) (.cons 41 (xl 6 40 (xi 9 38 39 (xl 9 37 (xf 39 12 1 (.v 9))) (.v 6))) .nil)) .nil)) none, .asg 8 (.v 20)]))) (.run 0 [.asg 17 (xk
 .add 2 32 (.int .i64 1) (.v 17))]))))))) (.run 8 [.eff none (some 21) (.append 0 9 9 (.t 46) (.t 49)) (.cons 46 (xl 9 45 (xf 0 7 1 (.v 5))) (.cons 49 (.n (.bslice false 9 1
 [(0, (.t 48))]) (.cons 48 (.n (.call 0 (.f 202) [(.t 47)]) (.cons 47 (.v 8) .nil)) .nil)) .nil)) (some 5), .eff none none (.store 9 (.t 51) (.t 50)) (.cons 51 (xf 0 7 1 (.v
 5)) (.cons 50 (.v 21) .nil)) (some 7)]))))) (.run 0 [.asg 13 (xk .add 2 21 (.int .i64 1) (.v 13))]))))))) (.seq (.run 0 [.eff none none (.store 0 (.t 6) (.t 53)) (.cons 6 (.v
 4) (.cons 53 (xl 0 7 (.v 5)) .nil)) none]) (.ret))))
theorem c195 : TF E 195 n195 [(4, some 0)] t195 54 := tf_of (F := f195) rfl (by kernel_rfl) (by decide)

def n196 : List Nat := [0, 1, 2, 3, 4, 5, 6, 7, 8, 37, 42, 49, 54, 82, 87, 100]
def t196 : TC := .seq (.run 0 [.eff none (some 2) (.box 15 (.t 0)) (.cons 0 (.v 0) .nil) none, .eff none (some 3) (.box 15 (.t 1)) (.cons 1 (.v 1) .nil) none, .asg 4 (.c (.bool false))]) (.seq
 (.seq (.run 0 [.asg 9 (.ite (.ite (.ite (xb .neq 2 10 12 (xl 2 9 (xf 15 2 0 (.v 2))) (xl 2 11 (xf 15 3 0 (.v 3)))) (.c (.bool true)) (xb .neq 2 16 18 (xl 2 15 (xf 15 2 1 (.v
 2))) (xl 2 17 (xf 15 3 1 (.v 3))))) (.c (.bool true)) (.n (.un .not (.t 26)) (.cons 26 (.n (.call 0 (.f 20) [(.t 23), (.t 25)]) (.cons 23 (xl 6 22 (xf 15 2 2 (.v 2))) (.cons
 25 (xl 6 24 (xf 15 3 2 (.v 3))) .nil))) .nil))) (.c (.bool true)) (xb .neq 2 32 35 (xn 16 31 (xl 16 30 (xf 15 2 3 (.v 2)))) (xn 16 34 (xl 16 33 (xf 15 3 3 (.v 3))))))]) (.cond
 9 (.seq (.run 0 [.asg 4 (.c (.bool false))]) (.ret)) (.skip))) (.seq (.seq (.run 0 [.asg 5 (.c (.int .i64 0))]) (.block 0 (.loop (.seq (.seq (.run 0 [.asg 10 (xb .lss 2 38
 41 (.v 5) (xn 16 40 (xl 16 39 (xf 15 2 3 (.v 2)))))]) (.cond 10 (.skip) (.exit 0))) (.seq (.block 1 (.seq (.run 0 [.asg 11 (xl 17 48 (xi 16 46 47 (xl 16 45 (xf 15 2 3 (.v 2)))
 (.v 5))), .eff none (some 6) (.alloc 17) .nil none, .eff none none (.store 17 (.t 6) (.t 49)) (.cons 6 (.v 6) (.cons 49 (.v 11) .nil)) none]) (.seq (.run 0 [.asg 12 (xl 17
 53 (xi 16 51 52 (xl 16 50 (xf 15 3 3 (.v 3))) (.v 5))), .eff none (some 7) (.alloc 17) .nil none, .eff none none (.store 17 (.t 7) (.t 54)) (.cons 7 (.v 7) (.cons 54 (.v 12)
 .nil)) none]) (.seq (.seq (.run 0 [.asg 13 (.ite (.ite (.ite (xb .neq 2 56 58 (xl 2 55 (xf 17 6 0 (.v 6))) (xl 2 57 (xf 17 7 0 (.v 7)))) (.c (.bool true)) (xb .neq 2 62 64
 (xl 2 61 (xf 17 6 1 (.v 6))) (xl 2 63 (xf 17 7 1 (.v 7))))) (.c (.bool true)) (xb .neq 2 69 71 (xl 2 68 (xf 17 6 2 (.v 6))) (xl 2 70 (xf 17 7 2 (.v 7))))) (.c (.bool true))
 (xb .neq 2 77 80 (xn 18 76 (xl 18 75 (xf 17 6 3 (.v 6)))) (xn 18 79 (xl 18 78 (xf 17 7 3 (.v 7))))))]) (.cond 13 (.seq (.run 0 [.asg 4 (.c (.bool false))]) (.ret)) (.skip)))
 (.seq (.run 0 [.asg 8 (.c (.int .i64 0))]) (.block 2 (.loop (.seq (.seq (.run 0 [.asg 14 (xb .lss 2 83 86 (.v 8) (xn 18 85 (xl 18 84 (xf 17 6 3 (.v 6)))))]) (.cond 14 (.skip)
 (.exit 2))) (.seq (.block 3 (.seq (.run 11 [.asg 15 (xb .neq 19 94 99 (xl 19 93 (xi 18 91 92 (xl 18 90 (xf 17 6 3 (.v 6))) (.v 8))) (xl 19 98 (xi 18 96 97 (xl 18 95 (xf 17
 7 3 (.v 7))) (.v 8))))]) (.cond 15 (.seq (.run 0 [.asg 4 (.c (.bool false))]) (.ret)) (.skip)))) (.run 0 [.asg 8 (xk .add 2 88 (.int .i64 1) (.v 8))])))))))))) (.run 0 [.asg
 5 (xk .add 2 43 (.int .i64 1) (.v 5))])))))) (.seq (.run 0 [.asg 4 (.c (.bool true))]) (.ret))))
theorem c196 : TF E 196 n196 [(4, none)] t196 101 := tf_of (F := f196) rfl (by kernel_rfl) (by decide)

def n198 : List Nat := [0, 1, 2, 4, 7, 8, 9, 18, 19]
def t198 : TC := .seq (.run 0 [.asg 4 (xk .add 2 6 (.int .i64 1) (xn 38 5 (xl 38 1 (.v 1)))), .asg 5 (.c (.int .i64 0))]) (.block 0 (.loop (.seq (.run 0 [.asg 6 (xb .lss 2 8 7 (.v 5) (.v 4))])
 (.seq (.cond 6 (.skip) (.exit 0)) (.seq (.block 1 (.seq (.run 0 [.asg 3 (.v 5)]) (.seq (.run 0 [.eff none (some 7) (.call 2 (.t 11) [(.t 13), (.t 17)]) (.cons 11 (.v 0) (.cons
 13 (xk .sub 2 12 (.int .i64 1) (.v 3)) (.cons 17 (.n (.call 0 (.f 195) [(.t 14), (.t 15), (.t 16)]) (.cons 14 (xl 0 2 (.v 2)) (.cons 15 (xl 38 1 (.v 1)) (.cons 16 (.v 3) .nil))))
 .nil))) none, .asg 8 (.n (.un .not (.t 18)) (.cons 18 (.v 7) .nil))]) (.cond 8 (.ret) (.skip))))) (.run 0 [.asg 5 (xk .add 2 8 (.int .i64 1) (.v 5))]))))))
theorem c198 : TF E 198 n198 [] t198 21 := tf_of (F := f198) rfl (by kernel_rfl) (by decide)

def n199 : List Nat := [0, 1, 3]
def t199 : TC := .seq (.run 0 [.asg 2 (.c (.bool false))]) (.seq (.run 0 [.asg 2 (.ite (xb .neq 2 5 8 (xn 6 4 (.v 0)) (xn 10 7 (xl 10 6 (xf 0 1 0 (.v 1))))) (.c (.bool true)) (.n (.call 0 (.f
 71) [(.t 11), (.f 200)]) (.cons 11 (.v 0) .nil)))]) (.ret))
theorem c199 : TF E 199 n199 [(2, none)] t199 14 := tf_of (F := f199) rfl (by kernel_rfl) (by decide)

def n200 : List Nat := [0, 2]
def t200 : TC := .seq (.run 0 [.asg 1 (.c (.bool false))]) (.seq (.run 0 [.asg 1 (.ite (xk .lss 2 3 (.int .i64 0) (.v 0)) (.c (.bool true)) (xk .gtr 2 6 (.int .i64 4096) (.v 0)))]) (.ret))
theorem c200 : TF E 200 n200 [(1, none)] t200 9 := tf_of (F := f200) rfl (by kernel_rfl) (by decide)

def n201 : List Nat := [0, 1, 4, 5, 7, 8, 9, 16]
def t201 : TC := .seq (.run 0 [.asg 2 (.c (.int .i64 0))]) (.seq (.seq (.run 0 [.asg 4 (xn 38 6 (.v 0)), .asg 5 (.c (.int .i64 0))]) (.block 0 (.loop (.seq (.run 0 [.asg 6 (xb .lss 2 8 7 (.v
 5) (.v 4))]) (.seq (.cond 6 (.skip) (.exit 0)) (.seq (.block 1 (.seq (.run 0 [.asg 3 (.v 5)]) (.seq (.run 0 [.asg 7 (.n (.call 0 (.t 11) [(.t 15)]) (.cons 11 (.v 1) (.cons
 15 (xl 39 14 (xi 38 12 13 (.v 0) (.v 3))) .nil)))]) (.cond 7 (.seq (.run 0 [.asg 2 (.v 3)]) (.ret)) (.skip))))) (.run 0 [.asg 5 (xk .add 2 8 (.int .i64 1) (.v 5))]))))))) (.seq
 (.run 0 [.asg 2 (.c (.int .i64 (-1)))]) (.ret)))
theorem c201 : TF E 201 n201 [(2, none)] t201 19 := tf_of (F := f201) rfl (by kernel_rfl) (by decide)

def n202 : List Nat := [0, 2, 3, 5, 6, 7, 11, 13, 14, 15, 16, 19, 20, 21, 22]
def t202 : TC := .seq (.run 0 [.asg 1 (.c (.imm .exact []))]) (.seq (.run 0 [.eff none (some 6) (.call 2 (.f 96) [(.t 10)]) (.cons 10 (xl 6 9 (.n (.iaddr 9 (.t 8) (.c (.int .i64 0))) (.cons
 8 (.v 0) .nil))) .nil) none, .asg 2 (.v 6)]) (.seq (.seq (.run 0 [.asg 7 (.n (.slice 9 (.t 12) (some (.c (.int .i64 1))) none none) (.cons 12 (.v 0) .nil)), .asg 8 (xn 9 13
 (.v 7)), .asg 9 (.c (.int .i64 0))]) (.block 0 (.loop (.seq (.run 0 [.asg 10 (xb .lss 2 15 14 (.v 9) (.v 8))]) (.seq (.cond 10 (.skip) (.exit 0)) (.seq (.block 1 (.seq (.run
 0 [.asg 3 (xl 6 17 (xi 9 13 15 (.v 7) (.v 9)))]) (.seq (.run 0 [.asg 11 (.v 3), .asg 12 (xn 6 19 (.v 11)), .asg 13 (.c (.int .i64 0))]) (.block 2 (.loop (.seq (.run 0 [.asg
 14 (xb .lss 2 21 20 (.v 13) (.v 12))]) (.seq (.cond 14 (.skip) (.exit 2)) (.seq (.block 3 (.seq (.run 0 [.asg 4 (.v 13), .asg 5 (xl 2 24 (xi 6 19 21 (.v 11) (.v 13)))]) (.run
 0 [.eff none none (.store 2 (.t 35) (.t 34)) (.cons 35 (xi 6 26 27 (.v 2) (.v 4)) (.cons 34 (.n (.mini [(.t 33), (.c (.int .i64 4096))]) (.cons 33 (xb .add 2 31 32 (xl 2 30
 (xi 6 28 29 (.v 2) (.v 4))) (.v 5)) .nil)) .nil)) none]))) (.run 0 [.asg 13 (xk .add 2 21 (.int .i64 1) (.v 13))]))))))))) (.run 0 [.asg 9 (xk .add 2 15 (.int .i64 1) (.v 9))])))))))
 (.seq (.run 0 [.asg 1 (.v 2)]) (.ret))))
theorem c202 : TF E 202 n202 [(1, none)] t202 39 := tf_of (F := f202) rfl (by kernel_rfl) (by decide)

def n203 : List Nat := [0, 1, 2, 4, 5, 6, 7, 8, 9, 10, 11, 12, 14, 18, 19, 24, 29, 35]
def t203 : TC := .seq (.run 0 [.eff none (some 2) (.box 0 (.t 0)) (.cons 0 (.v 0) .nil) none, .asg 3 (.c (.bool false))]) (.seq (.seq (.run 0 [.asg 12 (.n (.un .not (.t 13)) (.cons 13 (.n (.call
 0 (.f 178) []) .nil) .nil))]) (.cond 12 (.seq (.run 0 [.asg 3 (.c (.bool false))]) (.ret)) (.skip))) (.seq (.seq (.run 0 [.asg 13 (.n (.un .not (.t 17)) (.cons 17 (.n (.call
 0 (.f 179) [(.t 15), (.t 16)]) (.cons 15 (xl 0 2 (.v 2)) (.cons 16 (.v 1) .nil))) .nil))]) (.cond 13 (.seq (.run 0 [.asg 3 (.c (.bool true))]) (.ret)) (.skip))) (.seq (.run
 0 [.asg 14 (.n (.call 0 (.f 184) [(.t 20)]) (.cons 20 (xl 0 2 (.v 2)) .nil)), .asg 4 (xe 19 0 (.v 14)), .asg 5 (xe 19 1 (.v 14))]) (.seq (.run 0 [.asg 15 (.n (.call 0 (.f 204)
 [(.t 25)]) (.cons 25 (xl 0 2 (.v 2)) .nil)), .asg 6 (xe 24 0 (.v 15)), .asg 7 (xe 24 1 (.v 15))]) (.seq (.run 0 [.asg 16 (.n (.call 0 (.f 180) [(.t 30), (.t 31)]) (.cons 30
 (xl 0 2 (.v 2)) (.cons 31 (.v 1) .nil))), .asg 8 (xe 29 0 (.v 16)), .asg 9 (xe 29 1 (.v 16))]) (.seq (.run 0 [.asg 17 (.n (.call 0 (.f 205) [(.t 36), (.t 37)]) (.cons 36 (xl
 0 2 (.v 2)) (.cons 37 (.v 1) .nil))), .asg 10 (xe 35 0 (.v 17)), .asg 11 (xe 35 1 (.v 17))]) (.seq (.run 0 [.asg 3 (.ite (.ite (.ite (.n (.call 0 (.f 20) [(.t 41), (.t 42)])
 (.cons 41 (.v 4) (.cons 42 (.v 6) .nil))) (xb .eql 3 45 46 (.v 5) (.v 7)) (.c (.bool false))) (.n (.call 0 (.f 187) [(.t 50), (.t 51)]) (.cons 50 (.v 8) (.cons 51 (.v 10) .nil)))
 (.c (.bool false))) (xb .eql 3 55 56 (.v 9) (.v 11)) (.c (.bool false)))]) (.ret))))))))
theorem c203 : TF E 203 n203 [(3, none)] t203 59 := tf_of (F := f203) rfl (by kernel_rfl) (by decide)

def n204 : List Nat := [0, 1, 2, 3, 4, 5, 6, 7, 8, 14, 21, 40]
def t204 : TC := .seq (.run 0 [.eff none (some 1) (.box 0 (.t 0)) (.cons 0 (.v 0) .nil) none, .asg 2 (.c (.imm .exact [])), .asg 3 (.c (.int .i64 0))]) (.seq (.run 0 [.asg 8 (.n (.call 0 (.f
 132) [(.t 9)]) (.cons 9 (xl 0 1 (.v 1)) .nil)), .eff none (some 4) (.alloc 29) .nil none, .eff none none (.store 29 (.t 4) (.t 11)) (.cons 4 (.v 4) (.cons 11 (xe 8 0 (.v 8))
 .nil)) none, .asg 5 (xe 8 1 (.v 8))]) (.seq (.seq (.run 0 [.asg 9 (xk .neq 3 13 (.int .i64 0) (.v 5))]) (.cond 9 (.seq (.run 0 [.asg 2 (.c (.imm .exact [])), .asg 3 (.v 5)])
 (.ret)) (.skip))) (.seq (.run 0 [.asg 6 (.n (.bslice false 6 0 []) .nil)]) (.seq (.seq (.run 0 [.asg 7 (.c (.int .i64 0))]) (.block 0 (.loop (.seq (.seq (.run 0 [.asg 10 (xb
 .lss 2 17 20 (.v 7) (xn 6 19 (xl 6 18 (xf 29 4 0 (.v 4)))))]) (.cond 10 (.skip) (.exit 0))) (.seq (.block 1 (.run 18 [.eff none (some 11) (.append 0 6 6 (.t 24) (.t 39)) (.cons
 24 (.v 6) (.cons 39 (.n (.bslice false 6 1 [(0, (.t 38))]) (.cons 38 (xl 2 37 (xf 17 36 0 (xi 16 30 35 (xl 16 29 (xf 15 28 3 (xi 14 26 27 (xl 14 25 (xf 0 1 2 (.v 1))) (.v 7))))
 (xl 2 34 (xi 6 32 33 (xl 6 31 (xf 29 4 0 (.v 4))) (.v 7)))))) .nil)) .nil)) (some 16), .asg 6 (.v 11)])) (.run 0 [.asg 7 (xk .add 2 22 (.int .i64 1) (.v 7))])))))) (.seq (.run
 0 [.asg 2 (.v 6), .asg 3 (.c (.int .i64 0))]) (.ret))))))
theorem c204 : TF E 204 n204 [(2, none), (3, none)] t204 42 := tf_of (F := f204) rfl (by kernel_rfl) (by decide)

def n205 : List Nat := [0, 1, 2, 4, 5, 6, 7, 8, 9, 10, 11, 16, 21, 26, 36, 47, 63]
def t205 : TC := .seq (.run 0 [.eff none (some 2) (.box 0 (.t 0)) (.cons 0 (.v 0) .nil) none, .asg 3 (.c (.imm .exact [])), .asg 4 (.c (.int .i64 0))]) (.seq (.run 0 [.asg 5 (.n (.call 0 (.f
 206) [(.t 12), (.t 13)]) (.cons 12 (xl 0 2 (.v 2)) (.cons 13 (.v 1) .nil)))]) (.seq (.seq (.run 0 [.asg 11 (xk .neq 3 15 (.int .i64 0) (.v 5))]) (.cond 11 (.seq (.run 0 [.asg
 3 (.c (.imm .exact [])), .asg 4 (.v 5)]) (.ret)) (.skip))) (.seq (.run 0 [.asg 6 (.n (.bslice false 36 0 []) .nil)]) (.seq (.run 0 [.asg 12 (xn 14 20 (xl 14 19 (xf 0 2 2 (.v
 2)))), .asg 7 (.n (.mkslice false 6 (.t 21) (.t 21)) (.cons 21 (.v 12) (.cons 21 (.v 12) .nil)))]) (.seq (.seq (.run 0 [.asg 8 (.c (.int .i64 0))]) (.block 0 (.loop (.seq (.seq
 (.run 0 [.asg 13 (xb .leq 2 23 25 (.v 8) (xn 38 24 (.v 1)))]) (.cond 13 (.skip) (.exit 0))) (.seq (.block 1 (.seq (.run 0 [.asg 9 (.n (.call 0 (.f 207) [(.t 29), (.t 30), (.t
 31)]) (.cons 29 (xl 0 2 (.v 2)) (.cons 30 (.v 1) (.cons 31 (.v 8) .nil))))]) (.seq (.seq (.run 0 [.asg 10 (.c (.int .i64 0))]) (.block 2 (.loop (.seq (.seq (.run 0 [.asg 14
 (xb .lss 2 33 35 (.v 10) (xn 6 34 (.v 9)))]) (.cond 14 (.skip) (.exit 2))) (.seq (.block 3 (.seq (.run 9 [.asg 15 (xb .neq 2 42 46 (xl 2 41 (xi 6 39 40 (.v 9) (.v 10))) (xl
 2 45 (xi 6 43 44 (.v 7) (.v 10))))]) (.cond 15 (.run 17 [.eff none (some 16) (.append 0 36 36 (.t 48) (.t 62)) (.cons 48 (.v 6) (.cons 62 (.n (.bslice false 36 1 [(0, (.t 61))])
 (.cons 61 (.n (.build 37 [(0, (.t 50)), (1, (.t 51)), (2, (.t 60))]) (.cons 50 (xk .sub 2 49 (.int .i64 1) (.v 8)) (.cons 51 (.v 10) (.cons 60 (xb .sub 2 55 59 (xl 2 54 (xi
 6 52 53 (.v 9) (.v 10))) (xl 2 58 (xi 6 56 57 (.v 7) (.v 10)))) .nil)))) .nil)) .nil)) (some 15), .asg 6 (.v 16)]) (.skip)))) (.run 0 [.asg 10 (xk .add 2 37 (.int .i64 1) (.v
 10))])))))) (.run 0 [.asg 7 (.v 9)])))) (.run 0 [.asg 8 (xk .add 2 27 (.int .i64 1) (.v 8))])))))) (.seq (.run 0 [.asg 3 (.v 6), .asg 4 (.c (.int .i64 0))]) (.ret)))))))
theorem c205 : TF E 205 n205 [(3, none), (4, none)] t205 66 := tf_of (F := f205) rfl (by kernel_rfl) (by decide)

def n206 : List Nat := [0, 1, 2, 4, 5, 6, 10, 14, 18, 27]
def t206 : TC := .seq (.run 0 [.eff none (some 2) (.box 0 (.t 0)) (.cons 0 (.v 0) .nil) none, .asg 3 (.c (.int .i64 0))]) (.seq (.run 0 [.asg 4 (.n (.call 0 (.f 19) [(.t 7)]) (.cons 7 (xl 0
 2 (.v 2)) .nil))]) (.seq (.seq (.run 0 [.asg 6 (xk .neq 3 9 (.int .i64 0) (.v 4))]) (.cond 6 (.seq (.run 0 [.asg 3 (.v 4)]) (.ret)) (.skip))) (.seq (.seq (.run 0 [.asg 7 (xk
 .gtr 2 13 (.int .i64 8) (xn 38 12 (.v 1)))]) (.cond 7 (.seq (.run 0 [.asg 3 (.c (.int .i64 420))]) (.ret)) (.skip))) (.seq (.seq (.run 0 [.asg 5 (.c (.int .i64 0))]) (.block
 0 (.loop (.seq (.seq (.run 0 [.asg 8 (xb .lss 2 15 17 (.v 5) (xn 38 16 (.v 1)))]) (.cond 8 (.skip) (.exit 0))) (.seq (.block 1 (.seq (.run 7 [.asg 9 (.n (.un .not (.t 26))
 (.cons 26 (.n (.call 0 (.f 208) [(.t 21), (.t 25)]) (.cons 21 (xl 0 2 (.v 2)) (.cons 25 (xl 39 24 (xi 38 22 23 (.v 1) (.v 5))) .nil))) .nil))]) (.cond 9 (.seq (.run 0 [.asg
 3 (.c (.int .i64 420))]) (.ret)) (.skip)))) (.run 0 [.asg 5 (xk .add 2 19 (.int .i64 1) (.v 5))])))))) (.seq (.run 0 [.asg 3 (.c (.int .i64 0))]) (.ret))))))
theorem c206 : TF E 206 n206 [(3, none)] t206 28 := tf_of (F := f206) rfl (by kernel_rfl) (by decide)

def n207 : List Nat := [0, 1, 2, 3, 6, 7, 9, 11, 17, 18, 22]
def t207 : TC := .seq (.run 0 [.eff none (some 3) (.box 0 (.t 0)) (.cons 0 (.v 0) .nil) none, .asg 4 (.c (.imm .exact []))]) (.seq (.run 0 [.asg 7 (.n (.call 0 (.f 209) [(.t 12), (.t 13), (.t
 14)]) (.cons 12 (xl 0 3 (.v 3)) (.cons 13 (.v 1) (.cons 14 (.v 2) .nil)))), .asg 8 (xe 11 1 (.v 7)), .eff none (some 5) (.alloc 0) .nil none, .eff none none (.store 0 (.t 7)
 (.t 16)) (.cons 7 (.v 5) (.cons 16 (xe 11 0 (.v 7)) .nil)) none]) (.seq (.run 0 [.asg 9 (.n (.call 0 (.f 204) [(.t 19)]) (.cons 19 (xl 0 7 (.v 5)) .nil)), .asg 10 (xe 18 1
 (.v 9)), .asg 6 (xe 18 0 (.v 9))]) (.seq (.run 0 [.asg 4 (.v 6)]) (.ret))))
theorem c207 : TF E 207 n207 [(4, none)] t207 24 := tf_of (F := f207) rfl (by kernel_rfl) (by decide)

def n208 : List Nat := [0, 1, 2, 3, 4, 5, 6, 19, 24, 36, 44, 56]
def t208 : TC := .seq (.run 0 [.eff none (some 2) (.box 0 (.t 0)) (.cons 0 (.v 0) .nil) none, .eff none (some 3) (.box 39 (.t 1)) (.cons 1 (.v 1) .nil) none, .asg 4 (.c (.bool false))]) (.seq
 (.seq (.run 0 [.asg 7 (.ite (.n (.un .not (.t 9)) (.cons 9 (.n (.call 0 (.f 210) [(.t 8), (.c (.int .i64 0)), (.c (.int .i64 1048576))]) (.cons 8 (xl 2 7 (xf 39 3 0 (.v 3)))
 .nil)) .nil)) (.c (.bool true)) (xb .neq 2 14 17 (xn 9 13 (xl 9 12 (xf 39 3 1 (.v 3)))) (xn 9 16 (xl 9 15 (xf 0 2 1 (.v 2))))))]) (.cond 7 (.seq (.run 0 [.asg 4 (.c (.bool
 false))]) (.ret)) (.skip))) (.seq (.seq (.run 0 [.asg 5 (.c (.int .i64 0))]) (.block 0 (.loop (.seq (.seq (.run 0 [.asg 8 (xb .lss 2 20 23 (.v 5) (xn 9 22 (xl 9 21 (xf 39 3
 1 (.v 3)))))]) (.cond 8 (.skip) (.exit 0))) (.seq (.block 1 (.seq (.seq (.run 10 [.asg 9 (xb .neq 2 32 35 (xn 6 31 (xl 6 30 (xi 9 28 29 (xl 9 27 (xf 39 3 1 (.v 3))) (.v 5))))
 (xn 10 34 (xl 10 33 (xf 0 2 0 (.v 2)))))]) (.cond 9 (.seq (.run 0 [.asg 4 (.c (.bool false))]) (.ret)) (.skip))) (.seq (.run 0 [.asg 6 (.c (.int .i64 0))]) (.block 2 (.loop
 (.seq (.seq (.run 0 [.asg 10 (xb .lss 2 37 43 (.v 6) (xn 6 42 (xl 6 41 (xi 9 39 40 (xl 9 38 (xf 39 3 1 (.v 3))) (.v 5)))))]) (.cond 10 (.skip) (.exit 2))) (.seq (.block 3 (.seq
 (.run 0 [.asg 11 (.n (.un .not (.t 55)) (.cons 55 (.n (.call 0 (.f 210) [(.t 54), (.c (.int .i64 0)), (.c (.int .i64 4096))]) (.cons 54 (xl 2 53 (xi 6 51 52 (xl 6 50 (xi 9
 48 49 (xl 9 47 (xf 39 3 1 (.v 3))) (.v 5))) (.v 6))) .nil)) .nil))]) (.cond 11 (.seq (.run 0 [.asg 4 (.c (.bool false))]) (.ret)) (.skip)))) (.run 0 [.asg 6 (xk .add 2 45 (.int
 .i64 1) (.v 6))])))))))) (.run 0 [.asg 5 (xk .add 2 25 (.int .i64 1) (.v 5))])))))) (.seq (.run 0 [.asg 4 (.c (.bool true))]) (.ret))))
theorem c208 : TF E 208 n208 [(4, none)] t208 57 := tf_of (F := f208) rfl (by kernel_rfl) (by decide)

def n209 : List Nat := [0, 1, 2, 3, 6, 7, 8, 9, 10, 11, 12, 13, 14, 19, 26, 32, 37, 45, 60, 80, 85]
def t209 : TC := .seq (.run 0 [.eff none (some 3) (.box 0 (.t 0)) (.cons 0 (.v 0) .nil) none, .eff none (some 4) (.alloc 0) .nil none, .asg 5 (.c (.int .i64 0))]) (.seq (.run 0 [.asg 6 (.n
 (.call 0 (.f 206) [(.t 15), (.t 16)]) (.cons 15 (xl 0 3 (.v 3)) (.cons 16 (.v 1) .nil)))]) (.seq (.seq (.run 0 [.asg 13 (xk .neq 3 18 (.int .i64 0) (.v 6))]) (.cond 13 (.seq
 (.run 0 [.eff none none (.store 0 (.t 6) (.t 20)) (.cons 6 (.v 4) (.cons 20 (.n (.build 0 []) .nil) .nil)) none, .asg 5 (.v 6)]) (.ret)) (.skip))) (.seq (.seq (.run 0 [.asg
 14 (.n (.un .not (.t 25)) (.cons 25 (.n (.call 0 (.f 210) [(.t 22), (.c (.int .i64 0)), (.t 24)]) (.cons 22 (.v 2) (.cons 24 (xn 38 23 (.v 1)) .nil))) .nil))]) (.cond 14 (.seq
 (.run 0 [.eff none none (.store 0 (.t 6) (.t 27)) (.cons 6 (.v 4) (.cons 27 (.n (.build 0 []) .nil) .nil)) none, .asg 5 (.c (.int .i64 1))]) (.ret)) (.skip))) (.seq (.run 0
 [.asg 15 (.n (.build 0 [(0, (.t 29)), (2, (.t 31))]) (.cons 29 (xl 10 28 (xf 0 3 0 (.v 3))) (.cons 31 (xl 14 30 (xf 0 3 2 (.v 3))) .nil))), .eff none (some 7) (.alloc 0) .nil
 none, .eff none none (.store 0 (.t 9) (.t 32)) (.cons 9 (.v 7) (.cons 32 (.v 15) .nil)) none]) (.seq (.seq (.run 0 [.asg 8 (.c (.int .i64 0))]) (.block 0 (.loop (.seq (.seq
 (.run 0 [.asg 16 (xb .lss 2 33 36 (.v 8) (xn 9 35 (xl 9 34 (xf 0 3 1 (.v 3)))))]) (.cond 16 (.skip) (.exit 0))) (.seq (.block 1 (.seq (.run 0 [.asg 9 (.n (.bslice false 6 0
 []) .nil)]) (.seq (.seq (.run 0 [.asg 10 (.c (.int .i64 0))]) (.block 2 (.loop (.seq (.seq (.run 0 [.asg 17 (xb .lss 2 41 44 (.v 10) (xn 10 43 (xl 10 42 (xf 0 3 0 (.v 3)))))])
 (.cond 17 (.skip) (.exit 2))) (.seq (.block 3 (.seq (.run 0 [.asg 11 (xl 2 54 (xi 6 52 53 (xl 6 51 (xi 9 49 50 (xl 9 48 (xf 0 3 1 (.v 3))) (.v 8))) (.v 10)))]) (.seq (.seq
 (.run 0 [.asg 12 (.v 2)]) (.block 4 (.loop (.seq (.seq (.run 0 [.asg 18 (xb .lss 2 57 59 (.v 12) (xn 38 58 (.v 1)))]) (.cond 18 (.skip) (.exit 4))) (.seq (.block 5 (.run 0
 [.asg 11 (xb .add 2 63 74 (.v 11) (xl 2 73 (xi 6 71 72 (xl 6 70 (xi 9 68 69 (xl 9 67 (xf 39 66 1 (xi 38 64 65 (.v 1) (.v 12)))) (.v 8))) (.v 10))))])) (.run 0 [.asg 12 (xk
 .add 2 61 (.int .i64 1) (.v 12))])))))) (.run 0 [.eff none (some 19) (.append 0 6 6 (.t 76) (.t 79)) (.cons 76 (.v 9) (.cons 79 (.n (.bslice false 6 1 [(0, (.t 78))]) (.cons
 78 (.n (.mini [(.t 77), (.c (.int .i64 4096))]) (.cons 77 (.v 11) .nil)) .nil)) .nil)) none, .asg 9 (.v 19)])))) (.run 0 [.asg 10 (xk .add 2 46 (.int .i64 1) (.v 10))]))))))
 (.run 0 [.eff none (some 20) (.append 0 9 9 (.t 82) (.t 84)) (.cons 82 (xl 9 81 (xf 0 9 1 (.v 7))) (.cons 84 (.n (.bslice false 9 1 [(0, (.t 83))]) (.cons 83 (.v 9) .nil))
 .nil)) none, .eff none none (.store 9 (.t 86) (.t 85)) (.cons 86 (xf 0 9 1 (.v 7)) (.cons 85 (.v 20) .nil)) none])))) (.run 0 [.asg 8 (xk .add 2 38 (.int .i64 1) (.v 8))]))))))
 (.seq (.run 0 [.eff none none (.store 0 (.t 6) (.t 87)) (.cons 6 (.v 4) (.cons 87 (xl 0 9 (.v 7)) .nil)) none, .asg 5 (.c (.int .i64 0))]) (.ret)))))))
theorem c209 : TF E 209 n209 [(4, some 0), (5, none)] t209 88 := tf_of (F := f209) rfl (by kernel_rfl) (by decide)

def n210 : List Nat := [0, 1, 2, 6]
def t210 : TC := .seq (.run 0 [.asg 3 (.c (.bool false))]) (.seq (.run 0 [.asg 3 (.ite (xb .geq 2 7 8 (.v 0) (.v 1)) (xb .leq 2 11 12 (.v 0) (.v 2)) (.c (.bool false)))]) (.ret))
theorem c210 : TF E 210 n210 [(3, none)] t210 15 := tf_of (F := f210) rfl (by kernel_rfl) (by decide)

theorem ty_0 : E.ty 0 = ⟨.struct [(0, 10), (1, 9), (2, 14)], 3, 72, [(.imm .exact []), (.imm .exact []), (.imm .exact [])], false⟩ := rfl
theorem ty_1 : E.ty 1 = ⟨.slice 2, 1, 24, [(.imm .exact [])], false⟩ := rfl
theorem ty_2 : E.ty 2 = ⟨.int .i64, 1, 8, [(.int .i64 0)], false⟩ := rfl
theorem ty_3 : E.ty 3 = ⟨.int .i64, 1, 8, [(.int .i64 0)], false⟩ := rfl
theorem ty_4 : E.ty 4 = ⟨.slice 1, 1, 24, [(.imm .exact [])], false⟩ := rfl
theorem ty_6 : E.ty 6 = ⟨.slice 2, 1, 24, [(.imm .exact [])], false⟩ := rfl
theorem ty_7 : E.ty 7 = ⟨.bool, 1, 1, [(.bool false)], false⟩ := rfl
theorem ty_9 : E.ty 9 = ⟨.slice 6, 1, 24, [(.imm .exact [])], false⟩ := rfl
theorem ty_10 : E.ty 10 = ⟨.slice 20, 1, 24, [(.imm .exact [])], false⟩ := rfl
theorem ty_11 : E.ty 11 = ⟨.struct [(0, 2), (1, 2)], 2, 16, [(.int .i64 0), (.int .i64 0)], true⟩ := rfl
theorem ty_14 : E.ty 14 = ⟨.slice 15, 1, 24, [(.imm .exact [])], false⟩ := rfl
theorem ty_15 : E.ty 15 = ⟨.struct [(0, 2), (1, 2), (2, 6), (3, 16)], 4, 64, [(.int .i64 0), (.int .i64 0), (.imm .exact []), (.imm .exact [])], false⟩ := rfl
theorem ty_16 : E.ty 16 = ⟨.slice 17, 1, 24, [(.imm .exact [])], false⟩ := rfl
theorem ty_17 : E.ty 17 = ⟨.struct [(0, 2), (1, 2), (2, 2), (3, 18)], 4, 48, [(.int .i64 0), (.int .i64 0), (.int .i64 0), (.imm .exact [])], false⟩ := rfl
theorem ty_18 : E.ty 18 = ⟨.slice 19, 1, 24, [(.imm .exact [])], false⟩ := rfl
theorem ty_19 : E.ty 19 = ⟨.struct [(0, 20), (3, 2)], 4, 32, [(.bool false), (.int .i64 0), (.int .i64 0), (.int .i64 0)], true⟩ := rfl
theorem ty_20 : E.ty 20 = ⟨.struct [(0, 7), (1, 2), (2, 2)], 3, 24, [(.bool false), (.int .i64 0), (.int .i64 0)], true⟩ := rfl
theorem ty_21 : E.ty 21 = ⟨.map 20 7, 1, 8, [(.map none)], false⟩ := rfl
theorem ty_22 : E.ty 22 = ⟨.arr 4 2, 4, 32, [(.int .i64 0), (.int .i64 0), (.int .i64 0), (.int .i64 0)], true⟩ := rfl
theorem ty_26 : E.ty 26 = ⟨.map 20 2, 1, 8, [(.map none)], false⟩ := rfl
theorem ty_28 : E.ty 28 = ⟨.struct [(0, 4), (1, 6), (2, 6), (3, 31)], 4, 96, [(.imm .exact []), (.imm .exact []), (.imm .exact []), (.imm .exact [])], false⟩ := rfl
theorem ty_29 : E.ty 29 = ⟨.struct [(0, 6), (1, 6), (2, 31)], 3, 72, [(.imm .exact []), (.imm .exact []), (.imm .exact [])], false⟩ := rfl
theorem ty_31 : E.ty 31 = ⟨.slice 32, 1, 24, [(.imm .exact [])], false⟩ := rfl
theorem ty_32 : E.ty 32 = ⟨.struct [(0, 1), (1, 2), (2, 9)], 3, 56, [(.imm .exact []), (.int .i64 0), (.imm .exact [])], false⟩ := rfl
theorem ty_33 : E.ty 33 = ⟨.func, 1, 8, [.nilfn], false⟩ := rfl
theorem ty_35 : E.ty 35 = ⟨.slice 1, 1, 24, [(.imm .exact [])], false⟩ := rfl
theorem ty_36 : E.ty 36 = ⟨.slice 37, 1, 24, [(.imm .exact [])], false⟩ := rfl
theorem ty_37 : E.ty 37 = ⟨.struct [(0, 2), (1, 2), (2, 2)], 3, 24, [(.int .i64 0), (.int .i64 0), (.int .i64 0)], true⟩ := rfl
theorem ty_38 : E.ty 38 = ⟨.slice 39, 1, 24, [(.imm .exact [])], false⟩ := rfl
theorem ty_39 : E.ty 39 = ⟨.struct [(0, 2), (1, 9)], 2, 32, [(.int .i64 0), (.imm .exact [])], false⟩ := rfl
theorem ty_40 : E.ty 40 = ⟨.func, 1, 8, [.nilfn], false⟩ := rfl

end Dv
