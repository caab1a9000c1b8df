/- Texts that a proof of this claim uses, joined: Lw.TCode. -/
import Derived.Test.YtfagnjchgplecaaDoorLwa
import Derived.Test.YtfagnjchgplecaaDoorCode
import Derived.KernelRfl
set_option linter.all false
namespace Dv
open Go (IntKind BinOp UnOp)

abbrev u9A (i : Nat) (k : Int) : TS := .asg i (.c (.int .i64 k))
abbrev u9E (i : Nat) (o : DOp) (k : Xs) (r : Option Nat) : TS := .eff none (some i) o k r
abbrev xl (t a : Nat) (x : Xp) : Xp := .n (.load t (.t a)) (.cons a x .nil)
abbrev xn (t a : Nat) (x : Xp) : Xp := .n (.len t (.t a)) (.cons a x .nil)
abbrev xf (t a k : Nat) (x : Xp) : Xp := .n (.faddr t (.t a) k) (.cons a x .nil)
abbrev xe (a k : Nat) (x : Xp) : Xp := .n (.extract (.t a) k) (.cons a x .nil)
abbrev xi (t a b : Nat) (x y : Xp) : Xp := .n (.iaddr t (.t a) (.t b)) (.cons a x (.cons b y .nil))
abbrev xb (o : BinOp) (t a b : Nat) (x y : Xp) : Xp := .n (.bin o t (.t a) (.t b)) (.cons a x (.cons b y .nil))
abbrev xk (o : BinOp) (t a : Nat) (c : D) (x : Xp) : Xp := .n (.bin o t (.t a) (.c c)) (.cons a x .nil)

def n74 : List Nat := [0,1,4,5,6,11,12,13,16,19]
def t74 : TC := .seq (.run 0 [u9A 2 0]) (.seq (.run 0 [.asg 3 (.n (.call 0 (.f 107) [(.t 7)]) (.cons 7 (.v 0) .nil))]) (.seq (.run 0 [.asg 4 (.n (.call 0 (.f 107) [(.t 9)])
 (.cons 9 (.v 1) .nil))]) (.seq (.seq (.run 0 [.asg 5 (.v 3)]) (.cond 5 (.seq (.seq (.run 0 [.asg 6 (.v 4)]) (.cond 6 (.seq (.run 0 [u9A 2 0]) (.ret)) (.skip)))
 (.seq (.run 0 [.asg 2 (.c (.int .i64 (-1)))]) (.ret))) (.skip))) (.seq (.seq (.run 0 [.asg 7 (.v 4)]) (.cond 7 (.seq (.run 0 [u9A 2 1]) (.ret)) (.skip)))
 (.seq (.seq (.run 0 [.asg 8 (xb .lss 2 14 15 (.v 0) (.v 1))]) (.cond 8 (.seq (.run 0 [.asg 2 (.c (.int .i64 (-1)))]) (.ret)) (.skip))) (.seq (.seq (.run 0 [.asg 9 (xb .gtr
 2 17 18 (.v 0) (.v 1))]) (.cond 9 (.seq (.run 0 [u9A 2 1]) (.ret)) (.skip))) (.seq (.run 0 [u9A 2 0]) (.ret))))))))
theorem c74 : TF E 74 n74 [(2,none)] t74 20 := z10 (F := f74) rfl (by kernel_rfl) (by decide)

def n105 : List Nat := [0,2,3,5,6,7,8,9,14]
def t105 : TC := .seq (.run 0 [u9A 1 0]) (.seq (.run 0 [u9A 2 0]) (.seq (.seq (.run 0 [.asg 4 (.v 0),.asg 5 (xn 6 6 (.v 4)),u9A 6 0])
 (.block 0 (.loop (.seq (.run 0 [.asg 7 (xb .lss 2 8 7 (.v 6) (.v 5))]) (.seq (.cond 7 (.skip) (.exit 0)) (.seq (.block 1 (.seq (.run 0 [.asg 3 (xl 2 10 (xi 6 6 8 (.v 4) (.v
 6)))]) (.seq (.run 0 [.asg 8 (xb .neq 2 12 13 (.v 3) (.v 2))]) (.cond 8 (.seq (.run 0 [.asg 1 (.v 3)]) (.ret)) (.skip))))) (.run 0 [.asg 6 (xk .add 2 8 (.int .i64 1) (.v 6))])))))))
 (.seq (.run 0 [.asg 1 (.v 2)]) (.ret))))
theorem c105 : TF E 105 n105 [(1,none)] t105 18 := z10 (F := f105) rfl (by kernel_rfl) (by decide)

def n107 : List Nat := [0,2]
def t107 : TC := .seq (.run 0 [.asg 1 (.c (.bool false))]) (.seq (.run 0 [.asg 1 (xb .neq 2 3 4 (.v 0) (.v 0))]) (.ret))
theorem c107 : TF E 107 n107 [(1,none)] t107 6 := z10 (F := f107) rfl (by kernel_rfl) (by decide)

def n264 : List Nat := [0,1,2,3,4,8,10,18]
def t264 : TC := .seq (.run 0 [.asg 1 (.n (.ibox 55 (.t 0)) (.cons 0 (.v 0) .nil)),.asg 2 (.c (.imm .exact [])),u9A 3 0]) (.seq (.seq (.run 0 [.asg 4 (.n (.call 0 (.f 281)
 [(.t 5)]) (.cons 5 (.n (.iload 55 (.t 1)) (.cons 1 (.v 1) .nil)) .nil))]) (.seq (.run 0 [.asg 5 (xk .neq 3 7 (.int .i64 0) (.v 4))]) (.cond 5 (.seq (.run 0 [.asg 2 (.c (.imm
 .exact [])),.asg 3 (.v 4)]) (.ret)) (.skip)))) (.seq (.run 11 [u9E 6 (.call 4 (.f 282) []) .nil (some 0),u9E 7 (.call 2 (.t 16) [(.c (.imm .exact
 [])),(.t 17)]) (.cons 16 (xl 59 15 (xf 58 14 0 (xi 57 13 12 (.n (.nilc (.t 10)) (.cons 10 (.v 6) .nil)) (.n (.iload 2 (.t 11)) (.cons 11 (xf 55 1 0 (.v 1)) .nil))))) (.cons
 17 (.n (.iload 55 (.t 1)) (.cons 1 (.v 1) .nil)) .nil)) (some 8),.asg 2 (.v 7),u9A 3 0]) (.ret)))
theorem c264 : TF E 264 n264 [(2,none),(3,none)] t264 19 := z10 (F := f264) rfl (by kernel_rfl) (by decide)

def n281 : List Nat := [0,1,2,3,4,5,10,13]
def t281 : TC := .seq (.run 0 [.asg 1 (.n (.ibox 55 (.t 0)) (.cons 0 (.v 0) .nil)),u9A 2 0]) (.seq (.run 0 [.asg 5 (.n (.call 0 (.f 297) [(.t 6)]) (.cons 6 (.n (.iload 55
 (.t 1)) (.cons 1 (.v 1) .nil)) .nil)),.asg 3 (xe 5 0 (.v 5)),.asg 4 (xe 5 1 (.v 5))]) (.seq (.block 0 (.seq (.run 0 [.asg 6 (.n (.un .not (.t 11)) (.cons 11 (.v 4) .nil))])
 (.cond 6 (.seq (.run 0 [u9A 2 1]) (.ret)) (.seq (.run 0 [.asg 7 (xk .gtr 2 14 (.int .i64 16) (.v 3))]) (.cond 7 (.seq (.run 0 [u9A 2 2])
 (.ret)) (.skip)))))) (.seq (.run 0 [u9A 2 0]) (.ret))))
theorem c281 : TF E 281 n281 [(2,none)] t281 16 := z10 (F := f281) rfl (by kernel_rfl) (by decide)

def n282 : List Nat := [0,1,3]
def t282 : TC := .seq (.run 0 [.asg 0 (.c .nilp)]) (.seq (.run 0 [u9E 2 (.box 57 (.t 2)) (.cons 2 (.n (.build 57 []) .nil) .nil) none,u9E 1 (.alloc 62) .nil none,
 .eff none none (.store 62 (.t 1) (.t 3)) (.cons 1 (.v 1) (.cons 3 (.v 2) .nil)) none]) (.seq (.run 0 [.eff none none (.store 59 (.t 7) (.f 298)) (.cons 7 (xf 58 6 0 (.n (.iaddr
 57 (.t 5) (.c (.int .i64 1))) (.cons 5 (.n (.nilc (.t 4)) (.cons 4 (xl 62 1 (.v 1)) .nil)) .nil))) .nil) none]) (.seq (.run 0 [.eff none none (.store 59 (.t 11) (.f 299)) (.cons
 11 (xf 58 10 0 (.n (.iaddr 57 (.t 9) (.c (.int .i64 2))) (.cons 9 (.n (.nilc (.t 8)) (.cons 8 (xl 62 1 (.v 1)) .nil)) .nil))) .nil) none]) (.seq (.run 0 [.eff none none (.store
 59 (.t 16) (.t 13)) (.cons 16 (xf 58 15 0 (.n (.iaddr 57 (.t 14) (.c (.int .i64 3))) (.cons 14 (.n (.nilc (.t 12)) (.cons 12 (xl 62 1 (.v 1)) .nil)) .nil))) (.cons 13 (.n (.mkfn
 300 [(.t 1)]) (.cons 1 (.v 1) .nil)) .nil)) none]) (.seq (.run 0 [.asg 0 (xl 62 1 (.v 1))]) (.ret))))))
theorem c282 : TF E 282 n282 [(0,none)] t282 18 := z10 (F := f282) rfl (by kernel_rfl) (by decide)

def n297 : List Nat := [0,1,2,3,4,6,7,8,35,50,53,55,56,57,58,60,61,67]
def t297 : TC := .seq (.run 0 [.asg 1 (.n (.ibox 55 (.t 0)) (.cons 0 (.v 0) .nil)),u9A 2 0,.asg 3 (.c (.bool false))]) (.seq (.run 0 [.asg 8 (.n (.build 64 [(1,(.t 17)),
 (2,(.t 26)),(3,(.t 34))]) (.cons 17 (.ite (xk .eql 53 10 (.str []) (.n (.iload 53 (.t 9)) (.cons 9 (xf 55 1 2 (.v 1)) .nil))) (xk .eql 2 15 (.int .i64 0) (xn 56 14 (.n (.iload
 56 (.t 13)) (.cons 13 (xf 55 1 3 (.v 1)) .nil)))) (.c (.bool false))) (.cons 26 (.ite (xk .eql 2 19 (.int .i64 0) (.n (.iload 2 (.t 18)) (.cons 18 (xf 55 1 1 (.v 1)) .nil)))
 (xk .eql 2 24 (.int .i64 0) (xn 56 23 (.n (.iload 56 (.t 22)) (.cons 22 (xf 55 1 3 (.v 1)) .nil)))) (.c (.bool false))) (.cons 34 (.ite (xk .eql 2 28 (.int .i64 0) (.n (.iload
 2 (.t 27)) (.cons 27 (xf 55 1 1 (.v 1)) .nil))) (xk .eql 53 32 (.str []) (.n (.iload 53 (.t 31)) (.cons 31 (xf 55 1 2 (.v 1)) .nil))) (.c (.bool false))) .nil)))),u9E 4 (.alloc 64) .nil none,.eff none none (.store 64 (.t 4) (.t 35)) (.cons 4 (.v 4) (.cons 35 (.v 8) .nil)) none]) (.seq (.seq (.run 0 [.asg 9 (.ite (.ite (xk .lss 2
 37 (.int .i64 1) (.n (.iload 2 (.t 36)) (.cons 36 (xf 55 1 0 (.v 1)) .nil))) (.c (.bool true)) (xk .gtr 2 41 (.int .i64 3) (.n (.iload 2 (.t 40)) (.cons 40 (xf 55 1 0 (.v 1))
 .nil)))) (.c (.bool true)) (.n (.un .not (.t 48)) (.cons 48 (xl 7 47 (xi 64 4 46 (.v 4) (.n (.iload 2 (.t 45)) (.cons 45 (xf 55 1 0 (.v 1)) .nil)))) .nil)))]) (.cond 9 (.seq
 (.run 0 [u9A 2 0,.asg 3 (.c (.bool false))]) (.ret)) (.skip))) (.seq (.seq (.run 0 [.asg 10 (xk .lss 2 52 (.int .i64 3) (.n (.iload 2 (.t 51)) (.cons 51
 (xf 55 1 0 (.v 1)) .nil)))]) (.cond 10 (.seq (.run 0 [u9A 2 0,.asg 3 (.c (.bool true))]) (.ret)) (.skip))) (.seq (.seq (.run 0 [.asg 11 (.n (.iload 56 (.t
 54)) (.cons 54 (xf 55 1 3 (.v 1)) .nil)),.asg 12 (xn 56 55 (.v 11)),u9A 13 0]) (.block 0 (.loop (.seq (.run 0 [.asg 14 (xb .lss 2 57 56 (.v 13) (.v 12))])
 (.seq (.cond 14 (.skip) (.exit 0)) (.seq (.block 1 (.seq (.run 0 [.asg 15 (xl 55 59 (xi 56 55 57 (.v 11) (.v 13))),u9E 5 (.alloc 55) .nil none,.eff none none
 (.store 55 (.t 6) (.t 60)) (.cons 6 (.v 5) (.cons 60 (.v 15) .nil)) none]) (.seq (.run 0 [.asg 16 (.n (.call 0 (.f 297) [(.t 62)]) (.cons 62 (xl 55 6 (.v 5)) .nil)),.asg 6
 (xe 61 0 (.v 16)),.asg 7 (xe 61 1 (.v 16))]) (.seq (.seq (.run 0 [.asg 17 (.n (.un .not (.t 66)) (.cons 66 (.v 7) .nil))]) (.cond 17 (.seq (.run 0 [u9A 2 0,
 .asg 3 (.c (.bool false))]) (.ret)) (.skip))) (.run 0 [.asg 2 (.n (.maxi [(.t 68),(.t 69)]) (.cons 68 (.v 2) (.cons 69 (.v 6) .nil)))]))))) (.run 0 [.asg 13 (xk .add 2 57
 (.int .i64 1) (.v 13))]))))))) (.seq (.run 0 [.asg 2 (xk .add 2 72 (.int .i64 1) (.v 2)),.asg 3 (.c (.bool true))]) (.ret))))))
theorem c297 : TF E 297 n297 [(2,none),(3,none)] t297 74 := z10 (F := f297) rfl (by kernel_rfl) (by decide)

def n298 : List Nat := [0,1,3,4,7,11]
def t298 : TC := .seq (.run 0 [.asg 2 (.n (.ibox 55 (.t 1)) (.cons 1 (.v 1) .nil)),.asg 3 (.c (.imm .exact []))]) (.seq (.run 8 [u9E 4 (.append 0 30 30 (.t 5) (.t 6)) (.cons 5
 (.v 0) (.cons 6 (.n (.bslice false 30 1 [(0,(.c (.int .u8 1)))]) .nil) .nil)) (some 2),u9E 5 (.call 2 (.f 312) [(.t 7),(.t 10)]) (.cons 7 (.v 4) (.cons 10 (.n
 (.call 0 (.f 311) [(.t 9)]) (.cons 9 (.n (.iload 2 (.t 8)) (.cons 8 (xf 55 3 1 (.v 2)) .nil)) .nil)) .nil)) (some 6),.asg 3 (.v 5)]) (.ret))
theorem c298 : TF E 298 n298 [(3,none)] t298 12 := z10 (F := f298) rfl (by kernel_rfl) (by decide)

def n299 : List Nat := [0,1,3,4,7,12,15]
def t299 : TC := .seq (.run 0 [.asg 2 (.n (.ibox 55 (.t 1)) (.cons 1 (.v 1) .nil)),.asg 3 (.c (.imm .exact []))]) (.seq (.run 12 [u9E 4 (.append 0 30 30 (.t 5) (.t 6)) (.cons
 5 (.v 0) (.cons 6 (.n (.bslice false 30 1 [(0,(.c (.int .u8 2)))]) .nil) .nil)) (some 2),u9E 5 (.call 2 (.f 312) [(.t 7),(.t 11)]) (.cons 7 (.v 4) (.cons 11
 (.n (.conv 2 63 (.t 10)) (.cons 10 (xn 53 9 (.n (.iload 53 (.t 8)) (.cons 8 (xf 55 3 2 (.v 2)) .nil))) .nil)) .nil)) (some 7),u9E 6 (.append 0 30 53 (.t 12) (.t
 14)) (.cons 12 (.v 5) (.cons 14 (.n (.iload 53 (.t 13)) (.cons 13 (xf 55 3 2 (.v 2)) .nil)) .nil)) (some 10),.asg 3 (.v 6)]) (.ret))
theorem c299 : TF E 299 n299 [(3,none)] t299 16 := z10 (F := f299) rfl (by kernel_rfl) (by decide)

def n300 : List Nat := [0,1,2,4,5,7,10,15,17,18,19,20,22,32]
def t300 : TC := .seq (.run 0 [.asg 3 (.n (.ibox 55 (.t 1)) (.cons 1 (.v 1) .nil)),.asg 4 (.c (.imm .exact []))]) (.seq (.run 9 [u9E 6 (.append 0 30 30 (.t 8) (.t 9)) (.cons 8
 (.v 0) (.cons 9 (.n (.bslice false 30 1 [(0,(.c (.int .u8 3)))]) .nil) .nil)) (some 2),u9E 7 (.call 2 (.f 312) [(.t 10),(.t 14)]) (.cons 10 (.v 6) (.cons 14
 (.n (.conv 2 63 (.t 13)) (.cons 13 (xn 56 12 (.n (.iload 56 (.t 11)) (.cons 11 (xf 55 4 3 (.v 3)) .nil))) .nil)) .nil)) (some 7),.asg 0 (.v 7)]) (.seq (.seq (.run 0 [.asg
 8 (.n (.iload 56 (.t 16)) (.cons 16 (xf 55 4 3 (.v 3)) .nil)),.asg 9 (xn 56 17 (.v 8)),u9A 10 0]) (.block 0 (.loop (.seq (.run 0 [.asg 11 (xb .lss 2 19
 18 (.v 10) (.v 9))]) (.seq (.cond 11 (.skip) (.exit 0)) (.seq (.block 1 (.seq (.run 0 [.asg 12 (xl 55 21 (xi 56 17 19 (.v 8) (.v 10))),u9E 5 (.alloc 55) .nil
 none,.eff none none (.store 55 (.t 7) (.t 22)) (.cons 7 (.v 5) (.cons 22 (.v 12) .nil)) none]) (.run 11 [u9E 13 (.call 2 (.t 29) [(.t 30),(.t 31)]) (.cons 29
 (xl 59 28 (xf 58 27 0 (xi 57 26 25 (.n (.nilc (.t 23)) (.cons 23 (xl 62 2 (.v 2)) .nil)) (xl 2 24 (xf 55 7 0 (.v 5)))))) (.cons 30 (.v 0) (.cons 31 (xl 55 7 (.v 5)) .nil)))
 (some 9),.asg 0 (.v 13)]))) (.run 0 [.asg 10 (xk .add 2 19 (.int .i64 1) (.v 10))]))))))) (.seq (.run 0 [.asg 4 (.v 0)]) (.ret))))
theorem c300 : TF E 300 n300 [(4,none)] t300 35 := z10 (F := f300) rfl (by kernel_rfl) (by decide)

def n311 : List Nat := [0,2]
def t311 : TC := .seq (.run 0 [.asg 1 (.c (.int .u64 0))]) (.seq (.run 0 [.asg 1 (xb .xor 63 5 8 (xk .shl 63 4 (.int .u64 1) (.n (.conv 2 63 (.t 3)) (.cons 3 (.v 0) .nil))) (.n (.conv 2 63
 (.t 7)) (.cons 7 (xk .shr 2 6 (.int .u64 63) (.v 0)) .nil)))]) (.ret))
theorem c311 : TF E 311 n311 [(1,none)] t311 10 := z10 (F := f311) rfl (by kernel_rfl) (by decide)

def n312 : List Nat := [0,1,4,6,14,19]
def t312 : TC := .seq (.run 0 [.asg 2 (.c (.imm .exact []))]) (.seq (.block 0 (.loop (.seq (.seq (.run 0 [.asg 3 (xk .geq 63 5 (.int .u64 128) (.v 1))]) (.cond 3 (.skip) (.exit 0))) (.seq (.block
 1 (.run 0 [u9E 4 (.append 0 30 30 (.t 9) (.t 13)) (.cons 9 (.v 0) (.cons 13 (.n (.bslice false 30 1 [(0,(.t 12))]) (.cons 12 (xk .or 13 11 (.int .u8 128) (.n
 (.conv 63 13 (.t 10)) (.cons 10 (.v 1) .nil))) .nil)) .nil)) none,.asg 0 (.v 4)])) (.run 0 [.asg 1 (xk .shr 63 7 (.int .u64 7) (.v 1))]))))) (.seq (.run 0 [u9E 5 (.append 0 30 30 (.t 15) (.t 18)) (.cons 15 (.v 0) (.cons 18 (.n (.bslice false 30 1 [(0,(.t 17))]) (.cons 17 (.n (.conv 63 13 (.t 16)) (.cons 16 (.v 1) .nil)) .nil)) .nil))
 none,.asg 2 (.v 5)]) (.ret)))
theorem c312 : TF E 312 n312 [(2,none)] t312 20 := z10 (F := f312) rfl (by kernel_rfl) (by decide)

def n314 : List Nat := [0,1,2,3,4,5,7,8,10,12,13,14,15,16,17,18,20,21,22,23,24,25,27,32,38,41,43,49,50,52,56,58,64,70,75,78,80,85,135]
def t314 : TC := .seq (.run 0 [.asg 0 (.c (.bool false))]) (.seq (.run 0 [u9E 1 (.alloc 65) .nil none,.eff none none (.store 65 (.t 1) (.t 26)) (.cons 1 (.v 1) (.cons 26 (.n (.build
 65 [(0,(.c (.int .i64 1))),(1,(.c (.int .i64 3)))]) .nil) .nil)) none]) (.seq (.run 0 [.asg 22 (.n (.call 0 (.f 316) [(.c (.imm .exact [])),(.c (.int .i64 5)),(.c (.int
 .i64 (-1))),(.t 28)]) (.cons 28 (.n (.call 0 (.f 353) [(.c (.int .i64 7))]) .nil) .nil)),.asg 2 (xe 27 0 (.v 22)),.asg 3 (xe 27 1 (.v 22))]) (.seq (.run 0 [.asg 23 (.n (.call
 0 (.f 316) [(.t 33),(.c (.int .i64 9)),(.c (.int .i64 0)),(.t 34)]) (.cons 33 (.v 2) (.cons 34 (.n (.call 0 (.f 353) [(.c (.int .i64 (-2)))]) .nil) .nil))),.asg 4 (xe 32
 0 (.v 23)),.asg 5 (xe 32 1 (.v 23))]) (.seq (.run 0 [.asg 24 (.n (.call 0 (.f 316) [(.c (.imm .exact [])),(.c (.int .i64 5)),(.c (.int .i64 0)),(.t 39)]) (.cons 39 (.n
 (.call 0 (.f 353) [(.c (.int .i64 7))]) .nil) .nil)),.asg 25 (xe 38 0 (.v 24)),.asg 6 (xe 38 1 (.v 24))]) (.seq (.run 0 [u9E 26 (.call 2 (.f 353) [(.c (.int
 .i64 3))]) .nil none,.asg 7 (.v 26)]) (.seq (.run 0 [.eff none none (.store 2 (.t 46) (.c (.int .i64 (-2)))) (.cons 46 (xf 72 45 1 (.n (.iaddr 66 (.t 44) (.c (.int .i64 1)))
 (.cons 44 (.v 7) .nil))) .nil) none]) (.seq (.run 0 [u9E 27 (.call 1 (.f 316) [(.c (.imm .exact [])),(.c (.int .i64 5)),(.c (.int .i64 (-1))),(.t 48)]) (.cons
 48 (.v 7) .nil) none,.asg 28 (xe 47 0 (.v 27)),.asg 8 (xe 47 1 (.v 27))]) (.seq (.run 0 [.asg 29 (.n (.call 0 (.f 316) [(.t 53),(.c (.int .i64 4)),(.c (.int .i64 0)),(.t
 54)]) (.cons 53 (.v 2) (.cons 54 (.n (.call 0 (.f 353) [(.c (.int .i64 1))]) .nil) .nil))),.asg 30 (xe 52 0 (.v 29)),.asg 9 (xe 52 1 (.v 29))]) (.seq (.run 0 [.asg 31 (.n
 (.call 0 (.f 318) [(.t 59),(.t 60),(.c (.int .i64 8))]) (.cons 59 (.v 4) (.cons 60 (xl 65 1 (.v 1)) .nil))),.asg 10 (xe 58 0 (.v 31)),.asg 11 (xe 58 1 (.v 31))]) (.seq
 (.run 0 [.asg 32 (.n (.call 0 (.f 318) [(.t 65),(.t 66),(.c (.int .i64 9))]) (.cons 65 (.v 4) (.cons 66 (xl 65 1 (.v 1)) .nil))),.asg 12 (xe 64 0 (.v 32)),.asg 13 (xe 64
 1 (.v 32))]) (.seq (.run 0 [.asg 33 (.n (.call 0 (.f 318) [(.c (.imm .exact [])),(.t 71),(.c (.int .i64 1439))]) (.cons 71 (xl 65 1 (.v 1)) .nil)),.asg 14 (xe 70 0 (.v 33)),
 .asg 15 (xe 70 1 (.v 33))]) (.seq (.run 0 [.asg 34 (.n (.call 0 (.f 334) [(.t 76)]) (.cons 76 (.n (.build 71 []) .nil) .nil)),.asg 35 (xe 75 0 (.v 34)),.asg 16 (xe 75 1 (.v
 34))]) (.seq (.run 0 [.asg 36 (.n (.call 0 (.f 329) [(.t 81)]) (.cons 81 (.v 2) .nil)),u9E 17 (.alloc 73) .nil none,.eff none none (.store 73 (.t 21) (.t 83))
 (.cons 21 (.v 17) (.cons 83 (xe 80 0 (.v 36)) .nil)) none,.asg 18 (xe 80 1 (.v 36))]) (.seq (.run 0 [.asg 37 (.n (.call 0 (.f 329) [(.c (.imm .exact []))]) .nil),u9E 19 (.alloc 73) .nil none,.eff none none (.store 73 (.t 23) (.t 87)) (.cons 23 (.v 19) (.cons 87 (xe 85 0 (.v 37)) .nil)) none,.asg 20 (xe 85 1 (.v 37))]) (.seq (.seq
 (.run 0 [.asg 38 (.ite (.ite (.ite (.ite (.ite (.ite (.ite (.ite (.ite (.ite (.ite (xk .neq 3 89 (.int .i64 0) (.v 3)) (.c (.bool true)) (xk .neq 3 92 (.int .i64 0) (.v 5)))
 (.c (.bool true)) (xk .neq 3 96 (.int .i64 410) (.v 6))) (.c (.bool true)) (xk .neq 3 100 (.int .i64 411) (.v 8))) (.c (.bool true)) (xk .neq 3 104 (.int .i64 410) (.v 9)))
 (.c (.bool true)) (xk .neq 3 108 (.int .i64 0) (.v 11))) (.c (.bool true)) (xk .neq 3 112 (.int .i64 0) (.v 13))) (.c (.bool true)) (xk .neq 3 116 (.int .i64 0) (.v 15))) (.c
 (.bool true)) (xk .neq 3 120 (.int .i64 410) (.v 16))) (.c (.bool true)) (xk .neq 3 124 (.int .i64 0) (.v 18))) (.c (.bool true)) (xk .neq 3 128 (.int .i64 0) (.v 20))) (.c
 (.bool true)) (xk .neq 2 133 (.int .i64 2) (xn 70 132 (.v 4))))]) (.cond 38 (.seq (.run 0 [.asg 0 (.c (.bool false))]) (.ret)) (.skip))) (.seq (.run 0 [.asg 21 (.n (.call 0
 (.f 325) [(.t 136)]) (.cons 136 (.v 4) .nil))]) (.seq (.run 73 [.asg 0 (.ite (.ite (.ite (.ite (.ite (.ite (.ite (.ite (.ite (.ite (.ite (.ite (xk .eql 2 138 (.int .i64 7)
 (.v 10)) (xk .eql 2 141 (.int .i64 5) (.v 12)) (.c (.bool false))) (xk .eql 2 145 (.int .i64 0) (.v 14)) (.c (.bool false))) (xb .eql 73 152 153 (xl 73 151 (xf 71 150 4 (.n
 (.iaddr 70 (.t 149) (.c (.int .i64 1))) (.cons 149 (.v 4) .nil)))) (xl 73 21 (.v 17))) (.c (.bool false))) (xb .eql 73 160 161 (xl 73 159 (xf 71 158 4 (.n (.iaddr 70 (.t 157)
 (.c (.int .i64 0))) (.cons 157 (.v 2) .nil)))) (xl 73 23 (.v 19))) (.c (.bool false))) (xb .eql 73 165 166 (xl 73 23 (.v 19)) (.n (.call 0 (.f 331) [(.c (.str [112,111,115,
 116,105,110,103,115])),(.c (.imm .exact []))]) .nil)) (.c (.bool false))) (xk .eql 2 173 (.int .i64 0) (xl 2 172 (xf 71 171 2 (.n (.iaddr 70 (.t 170) (.c (.int .i64 1)))
 (.cons 170 (.v 4) .nil))))) (.c (.bool false))) (xk .eql 2 180 (.int .i64 1) (xl 2 179 (xf 71 178 0 (.n (.iaddr 70 (.t 177) (.c (.int .i64 1))) (.cons 177 (.v 4) .nil)))))
 (.c (.bool false))) (xk .eql 2 185 (.int .i64 2) (xn 67 184 (.v 21))) (.c (.bool false))) (xb .eql 65 191 192 (xl 65 190 (.n (.iaddr 67 (.t 189) (.c (.int .i64 0))) (.cons
 189 (.v 21) .nil))) (xl 65 1 (.v 1))) (.c (.bool false))) (xk .eql 3 197 (.int .i64 0) (.n (.call 0 (.f 324) [(.t 196)]) (.cons 196 (.v 4) .nil))) (.c (.bool false))) (xk .eql
 3 201 (.int .i64 0) (.n (.call 0 (.f 324) [(.c (.imm .exact []))]) .nil)) (.c (.bool false))) (xk .eql 3 207 (.int .i64 410) (.n (.call 0 (.f 324) [(.t 206)]) (.cons 206 (.n
 (.slice 70 (.t 205) (some (.c (.int .i64 1))) none none) (.cons 205 (.v 4) .nil)) .nil))) (.c (.bool false)))]) (.ret))))))))))))))))))
theorem c314 : TF E 314 n314 [(0,none)] t314 210 := z10 (F := f314) rfl (by kernel_rfl) (by decide)

def n316 : List Nat := [0,1,2,3,8,9,10,11,12,13,14,20,24,38,45,49,52,55]
def t316 : TC := .seq (.run 0 [.asg 4 (.c (.imm .exact [])),u9A 5 0]) (.seq (.run 0 [.asg 10 (.n (.call 0 (.f 354) [(.t 15)]) (.cons 15 (.v 0) .nil)),u9E 6
 (.alloc 73) .nil none,.eff none none (.store 73 (.t 10) (.t 17)) (.cons 10 (.v 6) (.cons 17 (xe 14 0 (.v 10)) .nil)) none,.asg 5 (xe 14 1 (.v 10))]) (.seq (.seq (.run 0 [.asg
 11 (xk .neq 3 19 (.int .i64 0) (.v 5))]) (.cond 11 (.seq (.run 0 [.asg 4 (.c (.imm .exact [])),.asg 5 (.v 5)]) (.ret)) (.skip))) (.seq (.seq (.run 0 [.asg 12 (xk .eql 2 23
 (.int .i64 65536) (xn 70 22 (.v 0)))]) (.cond 12 (.seq (.run 0 [.asg 4 (.c (.imm .exact [])),u9A 5 2]) (.ret)) (.skip))) (.seq (.seq (.run 0 [.asg 7 (xn
 70 25 (.v 0))]) (.seq (.run 0 [.asg 13 (.ite (xk .gtr 2 27 (.int .i64 0) (.v 7)) (xb .gtr 2 35 36 (xl 2 34 (xf 71 33 1 (xi 70 30 32 (.v 0) (xk .sub 2 31 (.int .i64 1) (.v 7)))))
 (.v 1)) (.c (.bool false)))]) (.cond 13 (.seq (.run 0 [.asg 4 (.c (.imm .exact [])),u9A 5 410]) (.ret)) (.skip)))) (.seq (.run 0 [.asg 14 (.n (.build 71
 [(0,(.t 40)),(1,(.t 41)),(2,(.t 42)),(3,(.t 43)),(4,(.t 44))]) (.cons 40 (xn 70 39 (.v 0)) (.cons 41 (.v 1) (.cons 42 (.v 2) (.cons 43 (.v 3) (.cons 44 (xl 73 10 (.v
 6)) .nil)))))),u9E 8 (.alloc 71) .nil none,.eff none none (.store 71 (.t 12) (.t 45)) (.cons 12 (.v 8) (.cons 45 (.v 14) .nil)) none]) (.seq (.seq (.run 0 [.asg
 9 (.n (.call 0 (.f 355) [(.t 46)]) (.cons 46 (xl 71 12 (.v 8)) .nil))]) (.seq (.run 0 [.asg 15 (xk .neq 3 48 (.int .i64 0) (.v 9))]) (.cond 15 (.seq (.run 0 [.asg 4 (.c (.imm
 .exact [])),.asg 5 (.v 9)]) (.ret)) (.skip)))) (.seq (.run 7 [u9E 16 (.mkcall (.f 356) [(.t 51)]) (.cons 51 (.v 0) .nil) (some 1),u9E 17 (.append
 2 70 70 (.t 52) (.t 54)) (.cons 52 (.v 16) (.cons 54 (.n (.bslice false 70 1 [(0,(.t 53))]) (.cons 53 (xl 71 12 (.v 8)) .nil)) .nil)) (some 4),.asg 4 (.v 17),u9A 5 0]) (.ret))))))))
theorem c316 : TF E 316 n316 [(4,none),(5,none)] t316 56 := z10 (F := f316) rfl (by kernel_rfl) (by decide)

def n318 : List Nat := [0,1,2,4,5,6,7,8,9,10,14,17,18,19,28]
def t318 : TC := .seq (.run 0 [.asg 3 (.n (.ibox 65 (.t 1)) (.cons 1 (.v 1) .nil)),.asg 4 (.n (.ibox 2 (.t 2)) (.cons 2 (.v 2) .nil)),u9E 5 (.alloc 2) .nil none,u9A 6 0]) (.seq (.seq (.run 0 [.asg 7 (.n (.call 0 (.f 324) [(.t 11)]) (.cons 11 (.v 0) .nil))]) (.seq (.run 0 [.asg 10 (xk .neq 3 13 (.int .i64 0) (.v 7))]) (.cond 10 (.seq
 (.run 0 [.eff none none (.store 2 (.t 6) (.c (.int .i64 0))) (.cons 6 (.v 5) .nil) none,.asg 6 (.v 7)]) (.ret)) (.skip)))) (.seq (.seq (.run 0 [.asg 11 (.n (.call 0 (.f 359)
 [(.t 16)]) (.cons 16 (.v 0) .nil))]) (.block 0 (.rfunc 11 [12,13] (.seq (.run 0 [.asg 8 (.v 12)]) (.run 0 [u9E 9 (.alloc 72) .nil none,.eff none none (.store
 72 (.t 10) (.t 19)) (.cons 10 (.v 9) (.cons 19 (.v 13) .nil)) none])) (.block 1 (.seq (.run 0 [.asg 14 (.ite (xb .leq 2 20 21 (.v 8) (.n (.iload 2 (.t 5)) (.cons 5 (.v 4) .nil)))
 (xb .eql 65 25 26 (xl 65 24 (xf 72 10 0 (.v 9))) (.n (.iload 65 (.t 4)) (.cons 4 (.v 3) .nil))) (.c (.bool false)))]) (.cond 14 (.run 0 [.eff none none (.store 2 (.t 6) (.t
 32)) (.cons 6 (.v 5) (.cons 32 (xb .add 2 29 31 (xl 2 6 (.v 5)) (xl 2 30 (xf 72 10 1 (.v 9)))) .nil)) none]) (.skip))))))) (.seq (.run 0 [.eff none none (.store 2 (.t 6) (.t
 33)) (.cons 6 (.v 5) (.cons 33 (xl 2 6 (.v 5)) .nil)) none,u9A 6 0]) (.ret))))
theorem c318 : TF E 318 n318 [(5,some 2),(6,none)] t318 34 := z10 (F := f318) rfl (by kernel_rfl) (by decide)

def n322 : List Nat := [0,2,4,5,6,7,8,10,14]
def t322 : TC := .seq (.run 0 [.asg 1 (.c (.bool false))]) (.seq (.seq (.run 0 [.asg 3 (.v 0),.asg 4 (xn 69 5 (.v 3)),u9A 5 0]) (.block 0 (.loop (.seq (.run 0 [.asg 6 (xb
 .lss 2 7 6 (.v 5) (.v 4))]) (.seq (.cond 6 (.skip) (.exit 0)) (.seq (.block 1 (.seq (.run 0 [.asg 7 (xl 68 9 (xi 69 5 7 (.v 3) (.v 5))),u9E 2 (.alloc 68) .nil
 none,.eff none none (.store 68 (.t 4) (.t 10)) (.cons 4 (.v 2) (.cons 10 (.v 7) .nil)) none]) (.seq (.run 0 [.asg 8 (xk .gtr 2 13 (.int .i64 12) (xn 66 12 (xl 66 11 (xf 68
 4 2 (.v 2)))))]) (.cond 8 (.seq (.run 0 [.asg 1 (.c (.bool false))]) (.ret)) (.skip))))) (.run 0 [.asg 5 (xk .add 2 7 (.int .i64 1) (.v 5))]))))))) (.seq (.run 0 [.asg 1 (xk
 .leq 2 17 (.int .i64 12) (xn 69 16 (.v 0)))]) (.ret)))
theorem c322 : TF E 322 n322 [(1,none)] t322 19 := z10 (F := f322) rfl (by kernel_rfl) (by decide)

def n323 : List Nat := [0,2,4,5,6,7,8,9,10,12,13,25]
def t323 : TC := .seq (.run 0 [.asg 1 (.c (.imm .exact []))]) (.seq (.seq (.run 0 [.asg 5 (.v 0),.asg 6 (xn 69 7 (.v 5)),u9A 7 0]) (.block 0 (.loop (.seq (.run 0 [.asg 8
 (xb .lss 2 9 8 (.v 7) (.v 6))]) (.seq (.cond 8 (.skip) (.exit 0)) (.seq (.block 1 (.seq (.run 0 [.asg 9 (xl 68 11 (xi 69 7 9 (.v 5) (.v 7))),u9E 2 (.alloc 68)
 .nil none,.eff none none (.store 68 (.t 4) (.t 12)) (.cons 4 (.v 2) (.cons 12 (.v 9) .nil)) none]) (.seq (.run 0 [.asg 10 (.n (.call 0 (.f 316) [(.t 14),(.t 16),(.t 18),
 (.t 20)]) (.cons 14 (.v 1) (.cons 16 (xl 2 15 (xf 68 4 0 (.v 2))) (.cons 18 (xl 2 17 (xf 68 4 1 (.v 2))) (.cons 20 (xl 66 19 (xf 68 4 2 (.v 2))) .nil))))),.asg 3 (xe 13 0
 (.v 10)),.asg 4 (xe 13 1 (.v 10))]) (.seq (.run 0 [.asg 11 (xk .eql 3 24 (.int .i64 0) (.v 4))]) (.cond 11 (.run 0 [.asg 1 (.v 3)]) (.skip)))))) (.run 0 [.asg 7 (xk .add 2
 9 (.int .i64 1) (.v 7))]))))))) (.seq (.run 0 [.asg 1 (.v 1)]) (.ret)))
theorem c323 : TF E 323 n323 [(1,none)] t323 29 := z10 (F := f323) rfl (by kernel_rfl) (by decide)

def n324 : List Nat := [0,2,3,6]
def t324 : TC := .seq (.run 0 [u9A 1 0]) (.seq (.run 0 [.asg 2 (.n (.call 0 (.f 354) [(.t 4)]) (.cons 4 (.v 0) .nil)),.asg 3 (xe 3 0 (.v 2)),.asg 1 (xe 3 1 (.v 2))]) (.seq
 (.run 0 [.asg 1 (.v 1)]) (.ret)))
theorem c324 : TF E 324 n324 [(1,none)] t324 9 := z10 (F := f324) rfl (by kernel_rfl) (by decide)

def n325 : List Nat := [0,2,4,6,7,8,13,15,17]
def t325 : TC := .seq (.run 0 [u9E 1 (.alloc 67) .nil none]) (.seq (.seq (.run 0 [.asg 3 (.n (.call 0 (.f 359) [(.t 5)]) (.cons 5 (.v 0) .nil))]) (.block 0 (.rfunc 3 [4,5] (.run
 0 [u9E 2 (.alloc 72) .nil none,.eff none none (.store 72 (.t 4) (.t 8)) (.cons 4 (.v 2) (.cons 8 (.v 5) .nil)) none]) (.block 1 (.run 0 [u9E 6 (.append
 2 67 67 (.t 9) (.t 12)) (.cons 9 (xl 67 2 (.v 1)) (.cons 12 (.n (.bslice false 67 1 [(0,(.t 11))]) (.cons 11 (xl 65 10 (xf 72 4 0 (.v 2))) .nil)) .nil)) none,.eff none none
 (.store 67 (.t 2) (.t 13)) (.cons 2 (.v 1) (.cons 13 (.v 6) .nil)) none]))))) (.seq (.run 0 [u9E 7 (.call 2 (.f 361) [(.t 14),(.f 362)]) (.cons 14 (xl 67 2 (.v
 1)) .nil) none]) (.seq (.run 0 [u9E 8 (.call 2 (.f 363) [(.t 16)]) (.cons 16 (xl 67 2 (.v 1)) .nil) none,.eff none none (.store 67 (.t 2) (.t 17)) (.cons 2 (.v
 1) (.cons 17 (.v 8) .nil)) none]) (.ret))))
theorem c325 : TF E 325 n325 [(1,some 67)] t325 18 := z10 (F := f325) rfl (by kernel_rfl) (by decide)

def n329 : List Nat := [0,2,3,5]
def t329 : TC := .seq (.run 0 [u9E 1 (.alloc 73) .nil none,u9A 2 0]) (.seq (.run 0 [.asg 3 (.n (.call 0 (.f 354) [(.t 4)]) (.cons 4 (.v 0) .nil)),.eff none
 none (.store 73 (.t 2) (.t 6)) (.cons 2 (.v 1) (.cons 6 (xe 5 0 (.v 3)) .nil)) none,.asg 2 (xe 5 1 (.v 3))]) (.ret))
theorem c329 : TF E 329 n329 [(1,some 73),(2,none)] t329 8 := z10 (F := f329) rfl (by kernel_rfl) (by decide)

def n331 : List Nat := [0,1,4,5,12]
def t331 : TC := .seq (.run 0 [u9E 2 (.alloc 73) .nil none]) (.seq (.run 0 [u9E 3 (.alloc 73) .nil none,.eff none none (.store 73 (.t 5) (.t 8)) (.cons 5 (.v 3) (.cons
 8 (.n (.call 0 (.f 364) [(.t 7)]) (.cons 7 (.n (.s2b 53 30 (.t 6)) (.cons 6 (.v 0) .nil)) .nil)) .nil)) none]) (.seq (.run 0 [u9E 4 (.call 1 (.f 365) [(.t 11)])
 (.cons 11 (.n (.bslice false 74 2 [(0,(.t 9)),(1,(.t 10))]) (.cons 9 (.n (.slice 73 (.t 5) none none none) (.cons 5 (.v 3) .nil)) (.cons 10 (.v 1) .nil))) .nil) none,.eff
 none none (.store 73 (.t 4) (.t 13)) (.cons 4 (.v 2) (.cons 13 (.n (.call 0 (.f 364) [(.t 12)]) (.cons 12 (.v 4) .nil)) .nil)) none]) (.ret)))
theorem c331 : TF E 331 n331 [(2,some 73)] t331 14 := z10 (F := f331) rfl (by kernel_rfl) (by decide)

def n333 : List Nat := [0,1,2,3,8,9,10,11,12,13,14,15,16,17,19,21,23,24,26,33,38,46,51,52,63,76,87,95,101,113,122,129,133,135,137,140,147,153,155,165,166,172]
def t333 : TC := .seq (.run 0 [.asg 4 (.c (.bool false))]) (.seq (.seq (.run 0 [.asg 18 (.n (.un .not (.t 25)) (.cons 25 (.n (.call 0 (.f 314) []) .nil) .nil))]) (.cond 18 (.seq (.run 0 [.asg
 4 (.c (.bool false))]) (.ret)) (.skip))) (.seq (.seq (.run 0 [.asg 19 (.ite (.n (.un .not (.t 28)) (.cons 28 (.n (.call 0 (.f 322) [(.t 27)]) (.cons 27 (.v 0) .nil)) .nil))
 (.c (.bool true)) (xk .eql 54 31 (.int .i8 0) (.v 3)))]) (.cond 19 (.seq (.run 0 [.asg 4 (.c (.bool true))]) (.ret)) (.skip))) (.seq (.run 0 [.asg 5 (.n (.call 0 (.f 323) [(.t
 34)]) (.cons 34 (.v 0) .nil))]) (.seq (.seq (.run 0 [.asg 20 (xk .eql 2 37 (.int .i64 0) (xn 70 36 (.v 5)))]) (.cond 20 (.seq (.run 0 [.asg 4 (.c (.bool true))]) (.ret)) (.skip)))
 (.seq (.run 0 [.asg 6 (xb .rem 2 40 42 (.n (.conv 13 2 (.t 39)) (.cons 39 (.v 1) .nil)) (xn 70 41 (.v 5)))]) (.seq (.run 0 [u9E 21 (.append 1 70 70 (.t 44) (.t
 45)) (.cons 44 (.n (.bslice false 70 0 []) .nil) (.cons 45 (.v 5) .nil)) none,.asg 7 (.v 21)]) (.seq (.run 0 [.asg 8 (xi 70 47 48 (.v 7) (.v 6))]) (.seq (.seq (.run 0 [.asg
 22 (xk .rem 13 50 (.int .u8 4) (.v 2))]) (.block 0 (.seq (.run 0 [.asg 23 (xk .eql 13 51 (.int .u8 0) (.v 22))]) (.cond 23 (.run 0 [.eff none none (.store 2 (.t 62) (.t 60))
 (.cons 62 (xf 71 61 0 (.n (.nilc (.t 54)) (.cons 54 (.v 8) .nil))) (.cons 60 (xb .add 2 57 59 (xl 2 56 (xf 71 55 0 (.n (.nilc (.t 54)) (.cons 54 (.v 8) .nil)))) (.n (.conv
 54 2 (.t 58)) (.cons 58 (.v 3) .nil))) .nil)) none]) (.seq (.run 0 [.asg 24 (xk .eql 13 51 (.int .u8 1) (.v 22))]) (.cond 24 (.run 12 [.eff none none (.store 13 (.t 75) (.t
 72)) (.cons 75 (.n (.iaddr 73 (.t 74) (.c (.int .i64 0))) (.cons 74 (xf 71 73 4 (.n (.nilc (.t 65)) (.cons 65 (.v 8) .nil))) .nil)) (.cons 72 (xb .add 13 69 71 (xl 13 68 (.n
 (.iaddr 73 (.t 67) (.c (.int .i64 0))) (.cons 67 (xf 71 66 4 (.n (.nilc (.t 65)) (.cons 65 (.v 8) .nil))) .nil))) (.n (.conv 54 13 (.t 70)) (.cons 70 (.v 3) .nil))) .nil))
 (some 11)]) (.seq (.run 0 [.asg 25 (xk .eql 13 51 (.int .u8 2) (.v 22))]) (.cond 25 (.run 0 [.eff none none (.store 2 (.t 86) (.t 84)) (.cons 86 (xf 71 85 1 (.n (.nilc (.t
 78)) (.cons 78 (.v 8) .nil))) (.cons 84 (xb .add 2 81 83 (xl 2 80 (xf 71 79 1 (.n (.nilc (.t 78)) (.cons 78 (.v 8) .nil)))) (.n (.conv 54 2 (.t 82)) (.cons 82 (.v 3) .nil)))
 .nil)) none]) (.seq (.run 0 [.asg 26 (xk .eql 13 51 (.int .u8 3) (.v 22))]) (.cond 26 (.seq (.run 0 [u9E 27 (.append 1 66 66 (.t 90) (.t 94)) (.cons 90 (.n (.bslice
 false 66 0 []) .nil) (.cons 94 (xl 66 93 (xf 71 92 3 (.n (.nilc (.t 91)) (.cons 91 (.v 8) .nil)))) .nil)) none,.eff none none (.store 66 (.t 97) (.t 95)) (.cons 97 (xf 71
 96 3 (.n (.nilc (.t 89)) (.cons 89 (.v 8) .nil))) (.cons 95 (.v 27) .nil)) none]) (.seq (.run 0 [.asg 28 (xl 66 100 (xf 71 99 3 (.n (.nilc (.t 98)) (.cons 98 (.v 8) .nil)))),
 .eff none none (.store 2 (.t 109) (.t 107)) (.cons 109 (xf 72 108 1 (.n (.iaddr 66 (.t 101) (.c (.int .i64 0))) (.cons 101 (.v 28) .nil))) (.cons 107 (xb .add 2 104 106 (xl
 2 103 (xf 72 102 1 (.n (.iaddr 66 (.t 101) (.c (.int .i64 0))) (.cons 101 (.v 28) .nil)))) (.n (.conv 54 2 (.t 105)) (.cons 105 (.v 3) .nil))) .nil)) none]) (.run 0 [.asg 29
 (xl 66 112 (xf 71 111 3 (.n (.nilc (.t 110)) (.cons 110 (.v 8) .nil)))),.eff none none (.store 2 (.t 121) (.t 119)) (.cons 121 (xf 72 120 1 (.n (.iaddr 66 (.t 113) (.c (.int
 .i64 1))) (.cons 113 (.v 29) .nil))) (.cons 119 (xb .sub 2 116 118 (xl 2 115 (xf 72 114 1 (.n (.iaddr 66 (.t 113) (.c (.int .i64 1))) (.cons 113 (.v 29) .nil)))) (.n (.conv
 54 2 (.t 117)) (.cons 117 (.v 3) .nil))) .nil)) none]))) (.skip))))))))))) (.seq (.run 0 [.asg 30 (.n (.call 0 (.f 329) [(.t 123)]) (.cons 123 (.v 5) .nil)),u9E 9 (.alloc 73) .nil none,.eff none none (.store 73 (.t 13) (.t 125)) (.cons 13 (.v 9) (.cons 125 (xe 122 0 (.v 30)) .nil)) none,.asg 10 (xe 122 1 (.v 30))]) (.seq (.run 0
 [u9E 31 (.call 1 (.f 329) [(.t 128)]) (.cons 128 (.v 7) .nil) none,u9E 11 (.alloc 73) .nil none,.eff none none (.store 73 (.t 15) (.t 130)) (.cons
 15 (.v 11) (.cons 130 (xe 127 0 (.v 31)) .nil)) none,.asg 12 (xe 127 1 (.v 31))]) (.seq (.seq (.run 0 [.asg 32 (xk .neq 3 132 (.int .i64 0) (.v 10))]) (.cond 32 (.seq (.run
 0 [.asg 4 (.c (.bool false))]) (.ret)) (.skip))) (.seq (.seq (.run 0 [.asg 33 (xk .neq 3 134 (.int .i64 0) (.v 12))]) (.cond 33 (.seq (.run 0 [u9E 34 (.call 1
 (.f 324) [(.t 136)]) (.cons 136 (.v 7) .nil) none,.asg 4 (xb .eql 3 137 138 (.v 34) (.v 12))]) (.ret)) (.skip))) (.seq (.run 0 [.asg 35 (.n (.call 0 (.f 334) [(.t 144)]) (.cons
 144 (xl 71 143 (xi 70 141 142 (.v 5) (.v 6))) .nil)),.asg 36 (xe 140 1 (.v 35)),.asg 13 (xe 140 0 (.v 35))]) (.seq (.run 0 [u9E 37 (.call 1 (.f 334) [(.t 152)])
 (.cons 152 (xl 71 151 (xi 70 149 150 (.v 7) (.v 6))) .nil) none,.asg 38 (xe 148 1 (.v 37)),.asg 14 (xe 148 0 (.v 37))]) (.seq (.seq (.run 0 [.asg 39 (.ite (xk .lss 13 157
 (.int .u8 2) (xk .rem 13 156 (.int .u8 4) (.v 2))) (.c (.bool true)) (xb .eql 53 161 163 (.n (.b2s 30 53 (.t 160)) (.cons 160 (.v 13) .nil)) (.n (.b2s 30 53 (.t 162)) (.cons
 162 (.v 14) .nil))))]) (.cond 39 (.seq (.run 0 [.asg 4 (.c (.bool false))]) (.ret)) (.skip))) (.seq (.run 0 [.asg 40 (.n (.call 0 (.f 329) [(.t 169)]) (.cons 169 (.n (.slice
 70 (.t 167) none (some (.t 168)) none) (.cons 167 (.v 5) (.cons 168 (.v 6) .nil))) .nil)),.asg 41 (xe 166 1 (.v 40)),u9E 15 (.alloc 73) .nil none,.eff none
 none (.store 73 (.t 21) (.t 171)) (.cons 21 (.v 15) (.cons 171 (xe 166 0 (.v 40)) .nil)) none]) (.seq (.run 0 [u9E 16 (.alloc 73) .nil none,u9E 17
 (.alloc 73) .nil none,.eff none none (.store 73 (.t 23) (.t 174)) (.cons 23 (.v 16) (.cons 174 (.n (.call 0 (.f 331) [(.c (.str [112,111,115,116,105,110,103])),(.t
 173)]) (.cons 173 (.v 13) .nil)) .nil)) none,.eff none none (.store 73 (.t 24) (.t 176)) (.cons 24 (.v 17) (.cons 176 (.n (.call 0 (.f 331) [(.c (.str [112,111,115,116,
 105,110,103])),(.t 175)]) (.cons 175 (.v 14) .nil)) .nil)) none]) (.seq (.run 25 [.asg 4 (.ite (.ite (xb .eql 73 177 178 (xl 73 23 (.v 16)) (xl 73 24 (.v 17))) (.c (.bool
 true)) (xb .eql 73 183 186 (.n (.call 0 (.f 335) [(.t 181),(.t 182)]) (.cons 181 (xl 73 21 (.v 15)) (.cons 182 (xl 73 23 (.v 16)) .nil))) (.n (.call 0 (.f 335) [(.t 184),
 (.t 185)]) (.cons 184 (xl 73 21 (.v 15)) (.cons 185 (xl 73 24 (.v 17)) .nil))))) (.c (.bool true)) (.ite (xb .neq 73 190 191 (xl 73 13 (.v 9)) (xl 73 15 (.v 11))) (xb .eql
 2 194 197 (.v 6) (xk .sub 2 196 (.int .i64 1) (xn 70 195 (.v 5)))) (.c (.bool false))))]) (.ret)))))))))))))))))))
theorem c333 : TF E 333 n333 [(4,none)] t333 201 := z10 (F := f333) rfl (by kernel_rfl) (by decide)

def n334 : List Nat := [0,1,2,3,4,5,6,8,12,21,22,24,25,26,27,29,43,54,57]
def t334 : TC := .seq (.run 0 [.asg 1 (.n (.ibox 71 (.t 0)) (.cons 0 (.v 0) .nil)),.asg 2 (.c (.imm .exact [])),u9A 3 0]) (.seq (.seq (.run 0 [.asg 4 (.n (.call 0 (.f 355)
 [(.t 9)]) (.cons 9 (.n (.iload 71 (.t 1)) (.cons 1 (.v 1) .nil)) .nil))]) (.seq (.run 0 [.asg 8 (xk .neq 3 11 (.int .i64 0) (.v 4))]) (.cond 8 (.seq (.run 0 [.asg 2 (.c (.imm
 .exact [])),.asg 3 (.v 4)]) (.ret)) (.skip)))) (.seq (.run 0 [u9E 9 (.mkcall (.f 366) [(.t 20)]) (.cons 20 (.n (.bslice false 6 3 [(0,(.t 15)),(1,(.t 17)),
 (2,(.t 19))]) (.cons 15 (.n (.iload 2 (.t 14)) (.cons 14 (xf 71 1 0 (.v 1)) .nil)) (.cons 17 (.n (.iload 2 (.t 16)) (.cons 16 (xf 71 1 1 (.v 1)) .nil)) (.cons 19 (.n (.iload
 2 (.t 18)) (.cons 18 (xf 71 1 2 (.v 1)) .nil)) .nil)))) .nil) none,u9E 10 (.mkcall (.f 366) [(.c (.imm .exact []))]) .nil none,u9E 5 (.alloc 55)
 .nil none,u9E 6 (.alloc 55) .nil none,.eff none none (.store 55 (.t 5) (.t 21)) (.cons 5 (.v 5) (.cons 21 (.v 9) .nil)) none,.eff none none (.store 55 (.t 6)
 (.t 22)) (.cons 6 (.v 6) (.cons 22 (.v 10) .nil)) none]) (.seq (.seq (.run 0 [.asg 11 (.n (.iload 66 (.t 23)) (.cons 23 (xf 71 1 3 (.v 1)) .nil)),.asg 12 (xn 66 24 (.v 11)),
 u9A 13 0]) (.block 0 (.loop (.seq (.run 0 [.asg 14 (xb .lss 2 26 25 (.v 13) (.v 12))]) (.seq (.cond 14 (.skip) (.exit 0)) (.seq (.block 1 (.seq (.run 0 [.asg
 15 (xl 72 28 (xi 66 24 26 (.v 11) (.v 13))),u9E 7 (.alloc 72) .nil none,.eff none none (.store 72 (.t 8) (.t 29)) (.cons 8 (.v 7) (.cons 29 (.v 15) .nil)) none])
 (.run 16 [u9E 16 (.append 0 56 56 (.t 31) (.t 42)) (.cons 31 (xl 56 30 (xf 55 6 3 (.v 6))) (.cons 42 (.n (.bslice false 56 1 [(0,(.t 41))]) (.cons 41 (.n (.call
 0 (.f 366) [(.t 40)]) (.cons 40 (.n (.bslice false 6 3 [(0,(.t 34)),(1,(.t 37)),(2,(.t 39))]) (.cons 34 (xl 2 33 (xf 65 32 0 (xf 72 8 0 (.v 7)))) (.cons 37 (xl 2 36 (xf
 65 35 1 (xf 72 8 0 (.v 7)))) (.cons 39 (xl 2 38 (xf 72 8 1 (.v 7))) .nil)))) .nil)) .nil)) .nil)) (some 13),.eff none none (.store 56 (.t 44) (.t 43)) (.cons 44 (xf 55 6 3
 (.v 6)) (.cons 43 (.v 16) .nil)) (some 15)]))) (.run 0 [.asg 13 (xk .add 2 26 (.int .i64 1) (.v 13))]))))))) (.seq (.run 11 [u9E 17 (.append 0 56 56 (.t 47) (.t
 53)) (.cons 47 (xl 56 46 (xf 55 5 3 (.v 5))) (.cons 53 (.n (.bslice false 56 2 [(0,(.t 48)),(1,(.t 52))]) (.cons 48 (xl 55 6 (.v 6)) (.cons 52 (.n (.build 55 [(0,(.c (.int
 .i64 2))),(2,(.t 51))]) (.cons 51 (.n (.b2s 30 53 (.t 50)) (.cons 50 (.n (.slice 73 (.t 49) none none none) (.cons 49 (xf 71 1 4 (.v 1)) .nil)) .nil)) .nil)) .nil))) .nil))
 (some 8),.eff none none (.store 56 (.t 55) (.t 54)) (.cons 55 (xf 55 5 3 (.v 5)) (.cons 54 (.v 17) .nil)) (some 10)]) (.seq (.run 0 [.asg 18 (.n (.call 0 (.f 264) [(.t 56)])
 (.cons 56 (xl 55 5 (.v 5)) .nil)),.asg 2 (xe 57 0 (.v 18)),.asg 3 (xe 57 1 (.v 18))]) (.ret))))))
theorem c334 : TF E 334 n334 [(2,none),(3,none)] t334 60 := z10 (F := f334) rfl (by kernel_rfl) (by decide)

def n335 : List Nat := [0,1,2,3,4]
def t335 : TC := .seq (.run 0 [.asg 2 (.n (.ibox 73 (.t 0)) (.cons 0 (.v 0) .nil)),.asg 3 (.n (.ibox 73 (.t 1)) (.cons 1 (.v 1) .nil)),u9E 4 (.alloc 73) .nil none]) (.seq (.run
 6 [.eff none none (.store 73 (.t 4) (.t 9)) (.cons 4 (.v 4) (.cons 9 (.n (.call 0 (.f 331) [(.c (.str [99,104,97,105,110])),(.t 8)]) (.cons 8 (.n (.call 0 (.f 365) [(.t
 7)]) (.cons 7 (.n (.bslice false 74 2 [(0,(.t 5)),(1,(.t 6))]) (.cons 5 (.n (.slice 73 (.t 2) none none none) (.cons 2 (.v 2) .nil)) (.cons 6 (.n (.slice 73 (.t 3) none
 none none) (.cons 3 (.v 3) .nil)) .nil))) .nil)) .nil)) .nil)) (some 5)]) (.ret))
theorem c335 : TF E 335 n335 [(4,some 73)] t335 10 := z10 (F := f335) rfl (by kernel_rfl) (by decide)

def n353 : List Nat := [0,2,10]
def t353 : TC := .seq (.run 0 [.asg 1 (.c (.imm .exact []))]) (.seq (.run 0 [u9E 2 (.bslice true 66 2 [(0,(.t 5)),(1,(.t 9))]) (.cons 5 (.n (.build 72 [(0,(.t 3)),(1,(.t
 4))]) (.cons 3 (.n (.build 65 [(0,(.c (.int .i64 1))),(1,(.c (.int .i64 3)))]) .nil) (.cons 4 (.v 0) .nil))) (.cons 9 (.n (.build 72 [(0,(.t 6)),(1,(.t 8))]) (.cons 6
 (.n (.build 65 [(0,(.c (.int .i64 4)))]) .nil) (.cons 8 (.n (.un .neg (.t 7)) (.cons 7 (.v 0) .nil)) .nil))) .nil)) none,.asg 1 (.v 2)]) (.ret))
theorem c353 : TF E 353 n353 [(1,none)] t353 11 := z10 (F := f353) rfl (by kernel_rfl) (by decide)

def n354 : List Nat := [0,2,3,5,6,7,8,9,10,14,16,17,18,19,21,25,30,31,32,33,36,61,63,67]
def t354 : TC := .seq (.run 0 [u9E 1 (.alloc 73) .nil none,u9A 2 0]) (.seq (.seq (.run 0 [.asg 9 (xk .gtr 2 13 (.int .i64 65536) (xn 70 12 (.v 0)))]) (.cond
 9 (.seq (.run 0 [.eff none none (.store 73 (.t 2) (.t 15)) (.cons 2 (.v 1) (.cons 15 (xl 73 2 (.v 1)) .nil)) none,u9A 2 2]) (.ret)) (.skip))) (.seq (.seq
 (.run 0 [.asg 10 (.v 0),.asg 11 (xn 70 16 (.v 10)),u9A 12 0]) (.block 0 (.loop (.seq (.run 0 [.asg 13 (xb .lss 2 18 17 (.v 12) (.v 11))]) (.seq (.cond 13
 (.skip) (.exit 0)) (.seq (.block 1 (.seq (.run 0 [.asg 14 (xl 71 20 (xi 70 16 18 (.v 10) (.v 12))),u9E 3 (.alloc 71) .nil none,.eff none none (.store 71 (.t
 5) (.t 21)) (.cons 5 (.v 3) (.cons 21 (.v 14) .nil)) none]) (.seq (.run 0 [.asg 4 (.n (.call 0 (.f 355) [(.t 22)]) (.cons 22 (xl 71 5 (.v 3)) .nil))]) (.seq (.run 0 [.asg 15
 (xk .neq 3 24 (.int .i64 0) (.v 4))]) (.cond 15 (.seq (.run 0 [.eff none none (.store 73 (.t 2) (.t 26)) (.cons 2 (.v 1) (.cons 26 (xl 73 2 (.v 1)) .nil)) none,.asg 2 (.v
 4)]) (.ret)) (.skip)))))) (.run 0 [.asg 12 (xk .add 2 18 (.int .i64 1) (.v 12))]))))))) (.seq (.run 0 [u9E 5 (.alloc 73) .nil none,.eff none none (.store 73 (.t
 7) (.t 29)) (.cons 7 (.v 5) (.cons 29 (.n (.call 0 (.f 331) [(.c (.str [112,111,115,116,105,110,103,115])),(.c (.imm .exact []))]) .nil) .nil)) none]) (.seq (.seq (.run
 0 [.asg 16 (.v 0),.asg 17 (xn 70 30 (.v 16)),u9A 18 0]) (.block 2 (.loop (.seq (.run 0 [.asg 19 (xb .lss 2 32 31 (.v 18) (.v 17))]) (.seq (.cond 19 (.skip)
 (.exit 2)) (.seq (.block 3 (.seq (.run 0 [.asg 20 (xl 71 35 (xi 70 30 32 (.v 16) (.v 18))),u9E 7 (.alloc 71) .nil none,.asg 6 (.v 18),.eff none none (.store
 71 (.t 9) (.t 36)) (.cons 9 (.v 7) (.cons 36 (.v 20) .nil)) none]) (.seq (.seq (.run 25 [.asg 21 (.ite (.ite (xb .neq 2 38 39 (xl 2 37 (xf 71 9 0 (.v 7))) (.v 6)) (.c (.bool
 true)) (.ite (xk .gtr 2 42 (.int .i64 0) (.v 6)) (xb .gtr 2 50 52 (xl 2 49 (xf 71 48 1 (xi 70 45 47 (.v 0) (xk .sub 2 46 (.int .i64 1) (.v 6))))) (xl 2 51 (xf 71 9 1 (.v 7))))
 (.c (.bool false)))) (.c (.bool true)) (xb .neq 73 58 59 (xl 73 57 (xf 71 9 4 (.v 7))) (xl 73 7 (.v 5))))]) (.cond 21 (.seq (.run 0 [.eff none none (.store 73 (.t 2) (.t 62))
 (.cons 2 (.v 1) (.cons 62 (xl 73 2 (.v 1)) .nil)) none,u9A 2 410]) (.ret)) (.skip))) (.seq (.run 0 [.asg 22 (.n (.call 0 (.f 334) [(.t 64)]) (.cons 64 (xl
 71 9 (.v 7)) .nil)),.asg 23 (xe 63 1 (.v 22)),.asg 8 (xe 63 0 (.v 22))]) (.run 5 [.eff none none (.store 73 (.t 7) (.t 71)) (.cons 7 (.v 5) (.cons 71 (.n (.call 0 (.f 335)
 [(.t 68),(.t 70)]) (.cons 68 (xl 73 7 (.v 5)) (.cons 70 (.n (.call 0 (.f 331) [(.c (.str [112,111,115,116,105,110,103])),(.t 69)]) (.cons 69 (.v 8) .nil)) .nil))) .nil))
 (some 4)]))))) (.run 0 [.asg 18 (xk .add 2 32 (.int .i64 1) (.v 18))]))))))) (.seq (.run 0 [.eff none none (.store 73 (.t 2) (.t 73)) (.cons 2 (.v 1) (.cons 73 (xl 73 7 (.v
 5)) .nil)) none,u9A 2 0]) (.ret))))))
theorem c354 : TF E 354 n354 [(1,some 73),(2,none)] t354 74 := z10 (F := f354) rfl (by kernel_rfl) (by decide)

def n355 : List Nat := [0,1,2,3,4,5,47,49,50,51,52,55,92,107,114]
def t355 : TC := .seq (.run 0 [.asg 1 (.n (.ibox 71 (.t 0)) (.cons 0 (.v 0) .nil)),u9A 2 0]) (.seq (.seq (.run 0 [.asg 6 (.ite (.ite (.ite (.ite (.ite (.ite (.ite (xk .lss
 2 7 (.int .i64 0) (.n (.iload 2 (.t 6)) (.cons 6 (xf 71 1 0 (.v 1)) .nil))) (.c (.bool true)) (xk .geq 2 11 (.int .i64 65536) (.n (.iload 2 (.t 10)) (.cons 10 (xf 71 1 0 (.v
 1)) .nil)))) (.c (.bool true)) (xk .lss 2 16 (.int .i64 0) (.n (.iload 2 (.t 15)) (.cons 15 (xf 71 1 1 (.v 1)) .nil)))) (.c (.bool true)) (xk .geq 2 21 (.int .i64 1440) (.n
 (.iload 2 (.t 20)) (.cons 20 (xf 71 1 1 (.v 1)) .nil)))) (.c (.bool true)) (xk .lss 2 26 (.int .i64 (-1)) (.n (.iload 2 (.t 25)) (.cons 25 (xf 71 1 2 (.v 1)) .nil)))) (.c (.bool
 true)) (xb .geq 2 31 33 (.n (.iload 2 (.t 30)) (.cons 30 (xf 71 1 2 (.v 1)) .nil)) (.n (.iload 2 (.t 32)) (.cons 32 (xf 71 1 0 (.v 1)) .nil)))) (.c (.bool true)) (xk .lss 2
 39 (.int .i64 2) (xn 66 38 (.n (.iload 66 (.t 37)) (.cons 37 (xf 71 1 3 (.v 1)) .nil))))) (.c (.bool true)) (xk .gtr 2 45 (.int .i64 4096) (xn 66 44 (.n (.iload 66 (.t 43))
 (.cons 43 (xf 71 1 3 (.v 1)) .nil)))))]) (.cond 6 (.seq (.run 0 [u9A 2 410]) (.ret)) (.skip))) (.seq (.run 0 [u9A 3 0]) (.seq (.seq (.run
 0 [.asg 7 (.n (.iload 66 (.t 48)) (.cons 48 (xf 71 1 3 (.v 1)) .nil)),.asg 8 (xn 66 49 (.v 7)),u9A 9 0]) (.block 0 (.loop (.seq (.run 0 [.asg 10 (xb .lss
 2 51 50 (.v 9) (.v 8))]) (.seq (.cond 10 (.skip) (.exit 0)) (.seq (.block 1 (.seq (.run 0 [.asg 11 (xl 72 54 (xi 66 49 51 (.v 7) (.v 9))),u9E 5 (.alloc 72) .nil
 none,.asg 4 (.v 9),.eff none none (.store 72 (.t 5) (.t 55)) (.cons 5 (.v 5) (.cons 55 (.v 11) .nil)) none]) (.seq (.seq (.run 0 [.asg 12 (.ite (.ite (.ite (.ite (.ite (.ite
 (xk .lss 2 58 (.int .i64 1) (xl 2 57 (xf 65 56 0 (xf 72 5 0 (.v 5))))) (.c (.bool true)) (xk .gtr 2 63 (.int .i64 5) (xl 2 62 (xf 65 61 0 (xf 72 5 0 (.v 5)))))) (.c (.bool
 true)) (xk .lss 2 69 (.int .i64 (-1)) (xl 2 68 (xf 65 67 1 (xf 72 5 0 (.v 5)))))) (.c (.bool true)) (xk .gtr 2 75 (.int .i64 4095) (xl 2 74 (xf 65 73 1 (xf 72 5 0 (.v 5))))))
 (.c (.bool true)) (xk .eql 2 80 (.int .i64 0) (xl 2 79 (xf 72 5 1 (.v 5))))) (.c (.bool true)) (xk .lss 2 85 (.int .i64 (-1099511627776)) (xl 2 84 (xf 72 5 1 (.v 5))))) (.c
 (.bool true)) (xk .gtr 2 90 (.int .i64 1099511627776) (xl 2 89 (xf 72 5 1 (.v 5)))))]) (.cond 12 (.seq (.run 0 [u9A 2 410]) (.ret)) (.skip))) (.seq (.seq
 (.run 15 [.asg 13 (.ite (xk .gtr 2 93 (.int .i64 0) (.v 4)) (xk .geq 2 105 (.int .i64 0) (.n (.call 0 (.f 362) [(.t 102),(.t 104)]) (.cons 102 (xl 65 101 (xf 72 100 0 (xi
 66 97 99 (.n (.iload 66 (.t 96)) (.cons 96 (xf 71 1 3 (.v 1)) .nil)) (xk .sub 2 98 (.int .i64 1) (.v 4))))) (.cons 104 (xl 65 103 (xf 72 5 0 (.v 5))) .nil)))) (.c (.bool false)))])
 (.cond 13 (.seq (.run 0 [u9A 2 410]) (.ret)) (.skip))) (.run 0 [.asg 3 (xb .add 2 108 110 (.v 3) (xl 2 109 (xf 72 5 1 (.v 5))))]))))) (.run 0 [.asg 9 (xk
 .add 2 51 (.int .i64 1) (.v 9))]))))))) (.seq (.seq (.run 0 [.asg 14 (xk .neq 2 113 (.int .i64 0) (.v 3))]) (.cond 14 (.seq (.run 0 [u9A 2 411]) (.ret)) (.skip)))
 (.seq (.run 0 [u9A 2 0]) (.ret))))))
theorem c355 : TF E 355 n355 [(2,none)] t355 115 := z10 (F := f355) rfl (by kernel_rfl) (by decide)

def n356 : List Nat := [0,2,7]
def t356 : TC := .seq (.run 0 [.asg 1 (.c (.imm .exact []))]) (.seq (.run 0 [u9E 2 (.append 1 70 70 (.t 5) (.t 6)) (.cons 5 (.n (.bslice false 70 0 []) .nil) (.cons 6 (.v 0) .nil))
 none,.asg 1 (.v 2)]) (.ret))
theorem c356 : TF E 356 n356 [(1,none)] t356 8 := z10 (F := f356) rfl (by kernel_rfl) (by decide)

def n359 : List Nat := [0,1,2]
def t359 : TC := .seq (.run 0 [.asg 1 (.n (.ibox 70 (.t 0)) (.cons 0 (.v 0) .nil)),.asg 2 (.c .nilfn)]) (.seq (.run 0 [.asg 2 (.n (.mkfn 380 [(.t 1)]) (.cons 1 (.v 1) .nil))]) (.ret))
theorem c359 : TF E 359 n359 [(2,none)] t359 4 := z10 (F := f359) rfl (by kernel_rfl) (by decide)

def n362 : List Nat := [0,1,2,3,4]
def t362 : TC := .seq (.run 0 [.asg 2 (.n (.ibox 65 (.t 0)) (.cons 0 (.v 0) .nil)),.asg 3 (.n (.ibox 65 (.t 1)) (.cons 1 (.v 1) .nil)),u9A 4 0]) (.seq (.run 13 [.asg 4 (.n
 (.call 0 (.f 105) [(.t 15)]) (.cons 15 (.n (.bslice false 6 2 [(0,(.t 9)),(1,(.t 14))]) (.cons 9 (.n (.call 0 (.f 74) [(.t 6),(.t 8)]) (.cons 6 (.n (.iload 2 (.t 5)) (.cons
 5 (xf 65 2 0 (.v 2)) .nil)) (.cons 8 (.n (.iload 2 (.t 7)) (.cons 7 (xf 65 3 0 (.v 3)) .nil)) .nil))) (.cons 14 (.n (.call 0 (.f 74) [(.t 11),(.t 13)]) (.cons 11 (.n (.iload
 2 (.t 10)) (.cons 10 (xf 65 2 1 (.v 2)) .nil)) (.cons 13 (.n (.iload 2 (.t 12)) (.cons 12 (xf 65 3 1 (.v 3)) .nil)) .nil))) .nil))) .nil))]) (.ret))
theorem c362 : TF E 362 n362 [(4,none)] t362 17 := z10 (F := f362) rfl (by kernel_rfl) (by decide)

def n363 : List Nat := [0,2,3,4,5,8,13,25,32,44]
def t363 : TC := .seq (.run 0 [.asg 1 (.c (.imm .exact []))]) (.seq (.seq (.run 0 [.asg 5 (xk .lss 2 7 (.int .i64 2) (xn 67 6 (.v 0)))]) (.cond 5 (.seq (.run 0 [.asg 1 (.v 0)]) (.ret)) (.skip)))
 (.seq (.seq (.run 0 [u9A 2 1]) (.block 0 (.loop (.seq (.seq (.run 0 [.asg 6 (xb .lss 2 10 12 (.v 2) (xn 67 11 (.v 0)))]) (.cond 6 (.skip) (.exit 0))) (.seq
 (.block 1 (.seq (.run 10 [.asg 7 (xb .eql 65 19 24 (xl 65 18 (xi 67 16 17 (.v 0) (.v 2))) (xl 65 23 (xi 67 20 22 (.v 0) (xk .sub 2 21 (.int .i64 1) (.v 2)))))]) (.cond 7 (.seq
 (.run 0 [.asg 3 (.n (.slice 67 (.t 26) (some (.t 27)) none none) (.cons 26 (.v 0) (.cons 27 (.v 2) .nil)))]) (.seq (.seq (.run 0 [u9A 4 1]) (.block 2 (.loop
 (.seq (.seq (.run 0 [.asg 8 (xb .lss 2 29 31 (.v 4) (xn 67 30 (.v 3)))]) (.cond 8 (.skip) (.exit 2))) (.seq (.block 3 (.seq (.run 10 [.asg 9 (xb .neq 65 38 43 (xl 65 37 (xi
 67 35 36 (.v 3) (.v 4))) (xl 65 42 (xi 67 39 41 (.v 3) (xk .sub 2 40 (.int .i64 1) (.v 4)))))]) (.cond 9 (.seq (.run 0 [.eff none none (.store 65 (.t 51) (.t 50)) (.cons 51
 (xi 67 45 46 (.v 0) (.v 2)) (.cons 50 (xl 65 49 (xi 67 47 48 (.v 3) (.v 4))) .nil)) none]) (.run 0 [.asg 2 (xk .add 2 52 (.int .i64 1) (.v 2))])) (.skip)))) (.run 0 [.asg 4
 (xk .add 2 33 (.int .i64 1) (.v 4))])))))) (.seq (.run 0 [.eff none none (.clr 67 (.t 56)) (.cons 56 (.n (.slice 67 (.t 54) (some (.t 55)) none none) (.cons 54 (.v 0) (.cons
 55 (.v 2) .nil))) .nil) none]) (.seq (.run 0 [.asg 1 (.n (.slice 67 (.t 57) none (some (.t 58)) none) (.cons 57 (.v 0) (.cons 58 (.v 2) .nil)))]) (.ret))))) (.skip)))) (.run
 0 [.asg 2 (xk .add 2 14 (.int .i64 1) (.v 2))])))))) (.seq (.run 0 [.asg 1 (.v 0)]) (.ret))))
theorem c363 : TF E 363 n363 [(1,none)] t363 61 := z10 (F := f363) rfl (by kernel_rfl) (by decide)

def n364 : List Nat := [0,2,3,4,5,6,7,8,9,14,20,21,24,31,33,43,46,52,53,54,55,66]
def t364 : TC := .seq (.run 0 [u9E 1 (.alloc 73) .nil none]) (.seq (.run 0 [.asg 8 (.n (.load 76 (.c (.iptr [(.int .u32 1779033703),(.int .u32 3144134277),(.int .u32 1013904242),
 (.int .u32 2773480762),(.int .u32 1359893119),(.int .u32 2600822924),(.int .u32 528734635),(.int .u32 1541459225)]))) .nil),u9E 2 (.alloc 77) .nil none,.eff
 none none (.store 77 (.t 3) (.t 9)) (.cons 3 (.v 2) (.cons 9 (.v 8) .nil)) none]) (.seq (.run 0 [.asg 3 (.n (.mkbfn 404 (.t 3)) (.cons 3 (.v 2) .nil))]) (.seq (.run 0 [.asg
 4 (.v 0)]) (.seq (.block 0 (.loop (.seq (.seq (.run 0 [.asg 9 (xk .geq 2 13 (.int .i64 64) (xn 30 12 (.v 4)))]) (.cond 9 (.skip) (.exit 0))) (.seq (.block 1 (.run 0 [u9E 10 (.call 2 (.t 17) [(.t 19)]) (.cons 17 (.v 3) (.cons 19 (.n (.slice 30 (.t 18) none (some (.c (.int .i64 64))) none) (.cons 18 (.v 4) .nil)) .nil)) none])) (.run 0
 [.asg 4 (.n (.slice 30 (.t 15) (some (.c (.int .i64 64))) none none) (.cons 15 (.v 4) .nil))]))))) (.seq (.run 0 [u9E 11 (.mkcap 30 (.c (.int .i64 64)) (.c (.int
 .i64 128))) .nil none,.asg 5 (.v 11)]) (.seq (.run 0 [u9E 12 (.copy 30 30 (.t 22) (.t 23)) (.cons 22 (.v 5) (.cons 23 (.v 4) .nil)) none]) (.seq (.run 0 [.eff
 none none (.store 13 (.t 28) (.c (.int .u8 128))) (.cons 28 (xi 30 25 27 (.v 5) (xn 30 26 (.v 4))) .nil) none]) (.seq (.seq (.run 0 [.asg 13 (xk .gtr 2 30 (.int .i64 55) (xn
 30 29 (.v 4)))]) (.cond 13 (.run 0 [u9E 14 (.reslice 30 (.t 32) (.c (.int .i64 128))) (.cons 32 (.v 5) .nil) none,.asg 5 (.v 14)]) (.skip))) (.seq (.run 0 [u9E 15 (.call 2 (.f 383) [(.t 38),(.t 42)]) (.cons 38 (.n (.slice 30 (.t 34) (some (.t 37)) none none) (.cons 34 (.v 5) (.cons 37 (xk .sub 2 36 (.int .i64 8) (xn 30
 35 (.v 5))) .nil))) (.cons 42 (xk .mul 63 41 (.int .u64 8) (.n (.conv 2 63 (.t 40)) (.cons 40 (xn 30 39 (.v 0)) .nil))) .nil)) none]) (.seq (.block 2 (.loop (.seq (.seq (.run
 0 [.asg 16 (xk .gtr 2 45 (.int .i64 0) (xn 30 44 (.v 5)))]) (.cond 16 (.skip) (.exit 2))) (.seq (.block 3 (.run 0 [u9E 17 (.call 2 (.t 49) [(.t 51)]) (.cons 49
 (.v 3) (.cons 51 (.n (.slice 30 (.t 50) none (some (.c (.int .i64 64))) none) (.cons 50 (.v 5) .nil)) .nil)) none])) (.run 0 [.asg 5 (.n (.slice 30 (.t 47) (some (.c (.int
 .i64 64))) none none) (.cons 47 (.v 5) .nil))]))))) (.seq (.seq (.run 0 [.asg 18 (xl 77 3 (.v 2)),u9A 19 0]) (.block 4 (.loop (.seq (.run 0 [.asg 20 (xk
 .lss 2 54 (.int .i64 8) (.v 19))]) (.seq (.cond 20 (.skip) (.exit 4)) (.seq (.block 5 (.seq (.run 0 [.asg 6 (.v 19),.asg 7 (.n (.index 77 (.t 53) (.t 54)) (.cons 53 (.v 18)
 (.cons 54 (.v 19) .nil)))]) (.run 0 [u9E 21 (.call 2 (.f 383) [(.t 63),(.t 65)]) (.cons 63 (.n (.slice 73 (.t 2) (some (.t 59)) (some (.t 62)) none) (.cons 2
 (.v 1) (.cons 59 (.n (.bin .mul 2 (.c (.int .i64 4)) (.t 58)) (.cons 58 (.v 6) .nil)) (.cons 62 (xk .add 2 61 (.int .i64 4) (.n (.bin .mul 2 (.c (.int .i64 4)) (.t 60)) (.cons
 60 (.v 6) .nil))) .nil)))) (.cons 65 (.n (.conv 78 63 (.t 64)) (.cons 64 (.v 7) .nil)) .nil)) none]))) (.run 0 [.asg 19 (xk .add 2 54 (.int .i64 1) (.v 19))]))))))) (.seq (.run
 0 [.eff none none (.store 73 (.t 2) (.t 68)) (.cons 2 (.v 1) (.cons 68 (xl 73 2 (.v 1)) .nil)) none]) (.ret)))))))))))))
theorem c364 : TF E 364 n364 [(1,some 73)] t364 69 := z10 (F := f364) rfl (by kernel_rfl) (by decide)

def n365 : List Nat := [0,2,3,5,6,8,9,10,11,12,20,24,25,26,27,28,33]
def t365 : TC := .seq (.run 0 [.asg 1 (.c (.imm .exact []))]) (.seq (.run 0 [u9A 2 0]) (.seq (.seq (.run 0 [.asg 6 (.v 0),.asg 7 (xn 74 9 (.v 6)),u9A 8 0])
 (.block 0 (.loop (.seq (.run 0 [.asg 9 (xb .lss 2 11 10 (.v 8) (.v 7))]) (.seq (.cond 9 (.skip) (.exit 0)) (.seq (.block 1 (.seq (.run 0 [.asg 3 (xl 30 13 (xi 74 9 11 (.v 6)
 (.v 8)))]) (.seq (.run 0 [.asg 2 (xb .add 2 15 17 (.v 2) (xn 30 16 (.v 3)))]) (.seq (.run 0 [.asg 10 (xk .lss 2 19 (.int .i64 0) (.v 2))]) (.cond 10 (.dead) (.skip)))))) (.run
 0 [.asg 8 (xk .add 2 11 (.int .i64 1) (.v 8))]))))))) (.seq (.run 0 [u9E 11 (.call 2 (.f 384) [(.c (.imm .exact [])),(.t 23)]) (.cons 23 (.v 2) .nil) none,.asg
 4 (.v 11)]) (.seq (.seq (.run 0 [.asg 12 (.v 0),.asg 13 (xn 74 25 (.v 12)),u9A 14 0]) (.block 2 (.loop (.seq (.run 0 [.asg 15 (xb .lss 2 27 26 (.v 14) (.v
 13))]) (.seq (.cond 15 (.skip) (.exit 2)) (.seq (.block 3 (.seq (.run 0 [.asg 5 (xl 30 29 (xi 74 25 27 (.v 12) (.v 14)))]) (.run 0 [u9E 16 (.append 0 30 30 (.t
 31) (.t 32)) (.cons 31 (.v 4) (.cons 32 (.v 5) .nil)) none,.asg 4 (.v 16)]))) (.run 0 [.asg 14 (xk .add 2 27 (.int .i64 1) (.v 14))]))))))) (.seq (.run 0 [.asg 1 (.v 4)])
 (.ret))))))
theorem c365 : TF E 365 n365 [(1,none)] t365 36 := z10 (F := f365) rfl (by kernel_rfl) (by decide)

def n366 : List Nat := [0,2,3,5,7,8,9,10,18]
def t366 : TC := .seq (.run 0 [u9E 1 (.alloc 55) .nil none]) (.seq (.run 0 [u9E 2 (.alloc 55) .nil none,.eff none none (.store 55 (.t 3) (.t 6)) (.cons 3 (.v 2) (.cons
 6 (.n (.build 55 [(0,(.c (.int .i64 3)))]) .nil) .nil)) none]) (.seq (.seq (.run 0 [.asg 4 (.v 0),.asg 5 (xn 6 7 (.v 4)),u9A 6 0]) (.block 0 (.loop (.seq
 (.run 0 [.asg 7 (xb .lss 2 9 8 (.v 6) (.v 5))]) (.seq (.cond 7 (.skip) (.exit 0)) (.seq (.block 1 (.seq (.run 0 [.asg 3 (xl 2 11 (xi 6 7 9 (.v 4) (.v 6)))]) (.run 0 [u9E 8 (.append 0 56 56 (.t 14) (.t 17)) (.cons 14 (xl 56 13 (xf 55 3 3 (.v 2))) (.cons 17 (.n (.bslice false 56 1 [(0,(.t 16))]) (.cons 16 (.n (.build 55 [(0,(.c (.int
 .i64 1))),(1,(.t 15))]) (.cons 15 (.v 3) .nil)) .nil)) .nil)) none,.eff none none (.store 56 (.t 19) (.t 18)) (.cons 19 (xf 55 3 3 (.v 2)) (.cons 18 (.v 8) .nil)) none])))
 (.run 0 [.asg 6 (xk .add 2 9 (.int .i64 1) (.v 6))]))))))) (.seq (.run 0 [.eff none none (.store 55 (.t 2) (.t 21)) (.cons 2 (.v 1) (.cons 21 (xl 55 3 (.v 2)) .nil)) none])
 (.ret))))
theorem c366 : TF E 366 n366 [(1,some 55)] t366 22 := z10 (F := f366) rfl (by kernel_rfl) (by decide)

def n380 : List Nat := [0,1,4,6,7,8,9,10,12,14,15,16,17,19,24,25]
def t380 : TC := .seq (.run 0 [.asg 4 (xl 70 1 (.v 1)),.asg 5 (xn 70 7 (.v 4)),u9A 6 0]) (.block 0 (.loop (.seq (.run 0 [.asg 7 (xb .lss 2 9 8 (.v 6) (.v 5))]) (.seq (.cond
 7 (.skip) (.exit 0)) (.seq (.block 1 (.seq (.run 0 [.asg 8 (xl 71 11 (xi 70 7 9 (.v 4) (.v 6))),u9E 2 (.alloc 71) .nil none,.eff none none (.store 71 (.t 4)
 (.t 12)) (.cons 4 (.v 2) (.cons 12 (.v 8) .nil)) none]) (.seq (.run 0 [.asg 9 (xl 66 13 (xf 71 4 3 (.v 2))),.asg 10 (xn 66 14 (.v 9)),u9A 11 0]) (.block
 2 (.loop (.seq (.run 0 [.asg 12 (xb .lss 2 16 15 (.v 11) (.v 10))]) (.seq (.cond 12 (.skip) (.exit 2)) (.seq (.block 3 (.seq (.run 0 [.asg 13 (xl 72 18 (xi 66 14 16 (.v 9)
 (.v 11))),u9E 3 (.alloc 72) .nil none,.eff none none (.store 72 (.t 6) (.t 19)) (.cons 6 (.v 3) (.cons 19 (.v 13) .nil)) none]) (.seq (.run 0 [u9E 14 (.call 2 (.t 20) [(.t 22),(.t 23)]) (.cons 20 (.v 0) (.cons 22 (xl 2 21 (xf 71 4 1 (.v 2))) (.cons 23 (xl 72 6 (.v 3)) .nil))) none,.asg 15 (.n (.un .not (.t 24)) (.cons
 24 (.v 14) .nil))]) (.cond 15 (.ret) (.skip))))) (.run 0 [.asg 11 (xk .add 2 16 (.int .i64 1) (.v 11))]))))))))) (.run 0 [.asg 6 (xk .add 2 9 (.int .i64 1) (.v 6))]))))))
theorem c380 : TF E 380 n380 [] t380 28 := z10 (F := f380) rfl (by kernel_rfl) (by decide)

def n383 : List Nat := [0,1,4,6,7,8]
def t383 : TC := .seq (.run 0 [.asg 3 (xn 30 5 (.v 0)),u9A 4 0]) (.block 0 (.loop (.seq (.run 0 [.asg 5 (xb .lss 2 7 6 (.v 4) (.v 3))]) (.seq (.cond 5 (.skip) (.exit 0))
 (.seq (.block 1 (.seq (.run 0 [.asg 2 (.v 4)]) (.run 0 [.eff none none (.store 13 (.t 21) (.t 20)) (.cons 21 (xi 30 10 15 (.v 0) (xb .sub 2 13 14 (xk .sub 2 12 (.int .i64 1)
 (xn 30 11 (.v 0))) (.v 2))) (.cons 20 (.n (.conv 63 13 (.t 19)) (.cons 19 (xb .shr 63 16 18 (.v 1) (.n (.bin .mul 2 (.c (.int .i64 8)) (.t 17)) (.cons 17 (.v 2) .nil))) .nil))
 .nil)) none]))) (.run 0 [.asg 4 (xk .add 2 7 (.int .i64 1) (.v 4))]))))))
theorem c383 : TF E 383 n383 [] t383 23 := z10 (F := f383) rfl (by kernel_rfl) (by decide)

def n386 : List Nat := [0,1,2,3,4]
def t386 : TC := .seq (.run 0 [.asg 2 (.n (.ibox 65 (.t 0)) (.cons 0 (.v 0) .nil)),.asg 3 (.n (.ibox 65 (.t 1)) (.cons 1 (.v 1) .nil)),u9A 4 0]) (.seq (.run 13 [.asg 4 (.n
 (.call 0 (.f 105) [(.t 15)]) (.cons 15 (.n (.bslice false 6 2 [(0,(.t 9)),(1,(.t 14))]) (.cons 9 (.n (.call 0 (.f 74) [(.t 6),(.t 8)]) (.cons 6 (.n (.iload 2 (.t 5)) (.cons
 5 (xf 65 2 0 (.v 2)) .nil)) (.cons 8 (.n (.iload 2 (.t 7)) (.cons 7 (xf 65 3 0 (.v 3)) .nil)) .nil))) (.cons 14 (.n (.call 0 (.f 74) [(.t 11),(.t 13)]) (.cons 11 (.n (.iload
 2 (.t 10)) (.cons 10 (xf 65 2 1 (.v 2)) .nil)) (.cons 13 (.n (.iload 2 (.t 12)) (.cons 12 (xf 65 3 1 (.v 3)) .nil)) .nil))) .nil))) .nil))]) (.ret))
theorem c386 : TF E 386 n386 [(4,none)] t386 17 := z10 (F := f386) rfl (by kernel_rfl) (by decide)

def n404 : List Nat := [0,1,4,5,6,7,8,9,10,11,12,13,14,15,22,26,68,69,70,118,129,130]
def t404 : TC := .seq (.run 0 [u9E 2 (.alloc 80) .nil none]) (.seq (.seq (.run 0 [u9A 12 0]) (.block 0 (.loop (.seq (.run 0 [.asg 13 (xk .lss 2 14 (.int .i64
 16) (.v 12))]) (.seq (.cond 13 (.skip) (.exit 0)) (.seq (.block 1 (.seq (.run 0 [.asg 3 (.v 12)]) (.run 0 [u9E 14 (.call 3 (.f 405) [(.t 21)]) (.cons 21 (.n (.slice
 30 (.t 18) (some (.t 20)) none none) (.cons 18 (.v 1) (.cons 20 (.n (.bin .mul 2 (.c (.int .i64 4)) (.t 19)) (.cons 19 (.v 3) .nil)) .nil))) .nil) none,.eff none none (.store
 78 (.t 23) (.t 22)) (.cons 23 (xi 80 4 17 (.v 2) (.v 3)) (.cons 22 (.v 14) .nil)) none]))) (.run 0 [.asg 12 (xk .add 2 14 (.int .i64 1) (.v 12))]))))))) (.seq (.seq (.run 0
 [u9A 4 16]) (.block 2 (.loop (.seq (.seq (.run 0 [.asg 15 (xk .lss 2 25 (.int .i64 64) (.v 4))]) (.cond 15 (.skip) (.exit 2))) (.seq (.block 3 (.seq (.run
 10 [.asg 5 (xl 78 31 (xi 80 4 30 (.v 2) (xk .sub 2 29 (.int .i64 15) (.v 4)))),.asg 6 (xl 78 35 (xi 80 4 34 (.v 2) (xk .sub 2 33 (.int .i64 2) (.v 4))))]) (.run 30 [.eff none
 none (.store 78 (.t 65) (.t 64)) (.cons 65 (xi 80 4 37 (.v 2) (.v 4)) (.cons 64 (xb .add 78 55 63 (xb .add 78 50 54 (xb .add 78 41 49 (xl 78 40 (xi 80 4 39 (.v 2) (xk .sub
 2 38 (.int .i64 16) (.v 4)))) (xb .xor 78 46 48 (xb .xor 78 43 45 (.n (.call 0 (.f 406) [(.t 42),(.c (.int .i64 (-7)))]) (.cons 42 (.v 5) .nil)) (.n (.call 0 (.f 406) [(.t
 44),(.c (.int .i64 (-18)))]) (.cons 44 (.v 5) .nil))) (xk .shr 78 47 (.int .u64 3) (.v 5)))) (xl 78 53 (xi 80 4 52 (.v 2) (xk .sub 2 51 (.int .i64 7) (.v 4))))) (xb .xor 78
 60 62 (xb .xor 78 57 59 (.n (.call 0 (.f 406) [(.t 56),(.c (.int .i64 (-17)))]) (.cons 56 (.v 6) .nil)) (.n (.call 0 (.f 406) [(.t 58),(.c (.int .i64 (-19)))]) (.cons 58
 (.v 6) .nil))) (xk .shr 78 61 (.int .u64 10) (.v 6)))) .nil)) (some 29)]))) (.run 0 [.asg 4 (xk .add 2 27 (.int .i64 1) (.v 4))])))))) (.seq (.run 0 [.asg 16 (xl 77 67 (.n
 (.nilc (.t 66)) (.cons 66 (.v 0) .nil))),u9E 7 (.alloc 77) .nil none,.eff none none (.store 77 (.t 9) (.t 68)) (.cons 9 (.v 7) (.cons 68 (.v 16) .nil)) none])
 (.seq (.seq (.run 0 [u9A 17 0]) (.block 4 (.loop (.seq (.run 0 [.asg 18 (xk .lss 2 69 (.int .i64 64) (.v 17))]) (.seq (.cond 18 (.skip) (.exit 4)) (.seq (.block
 5 (.seq (.run 0 [.asg 8 (.v 17)]) (.seq (.run 27 [.asg 9 (xb .add 78 93 96 (xb .add 78 89 92 (xb .add 78 77 88 (xb .add 78 73 76 (xl 78 72 (.n (.iaddr 77 (.t 9) (.c (.int .i64
 7))) (.cons 9 (.v 7) .nil))) (.n (.call 0 (.f 407) [(.t 75),(.c (.int .i64 6)),(.c (.int .i64 11)),(.c (.int .i64 25))]) (.cons 75 (xl 78 74 (.n (.iaddr 77 (.t 9) (.c (.int
 .i64 4))) (.cons 9 (.v 7) .nil))) .nil))) (xb .xor 78 79 87 (xl 78 78 (.n (.iaddr 77 (.t 9) (.c (.int .i64 6))) (.cons 9 (.v 7) .nil))) (xb .and 78 81 86 (xl 78 80 (.n (.iaddr
 77 (.t 9) (.c (.int .i64 4))) (.cons 9 (.v 7) .nil))) (xb .xor 78 83 85 (xl 78 82 (.n (.iaddr 77 (.t 9) (.c (.int .i64 5))) (.cons 9 (.v 7) .nil))) (xl 78 84 (.n (.iaddr 77
 (.t 9) (.c (.int .i64 6))) (.cons 9 (.v 7) .nil))))))) (xl 78 91 (.n (.iaddr 80 (.c (.iptr [(.int .u32 1116352408),(.int .u32 1899447441),(.int .u32 3049323471),(.int .u32
 3921009573),(.int .u32 961987163),(.int .u32 1508970993),(.int .u32 2453635748),(.int .u32 2870763221),(.int .u32 3624381080),(.int .u32 310598401),(.int .u32 607225278),
 (.int .u32 1426881987),(.int .u32 1925078388),(.int .u32 2162078206),(.int .u32 2614888103),(.int .u32 3248222580),(.int .u32 3835390401),(.int .u32 4022224774),(.int
 .u32 264347078),(.int .u32 604807628),(.int .u32 770255983),(.int .u32 1249150122),(.int .u32 1555081692),(.int .u32 1996064986),(.int .u32 2554220882),(.int .u32 2821834349),
 (.int .u32 2952996808),(.int .u32 3210313671),(.int .u32 3336571891),(.int .u32 3584528711),(.int .u32 113926993),(.int .u32 338241895),(.int .u32 666307205),(.int .u32
 773529912),(.int .u32 1294757372),(.int .u32 1396182291),(.int .u32 1695183700),(.int .u32 1986661051),(.int .u32 2177026350),(.int .u32 2456956037),(.int .u32 2730485921),
 (.int .u32 2820302411),(.int .u32 3259730800),(.int .u32 3345764771),(.int .u32 3516065817),(.int .u32 3600352804),(.int .u32 4094571909),(.int .u32 275423344),(.int
 .u32 430227734),(.int .u32 506948616),(.int .u32 659060556),(.int .u32 883997877),(.int .u32 958139571),(.int .u32 1322822218),(.int .u32 1537002063),(.int .u32 1747873779),
 (.int .u32 1955562222),(.int .u32 2024104815),(.int .u32 2227730452),(.int .u32 2361852424),(.int .u32 2428436474),(.int .u32 2756734187),(.int .u32 3204031479),(.int
 .u32 3329325298)])) (.t 90)) (.cons 90 (.v 8) .nil)))) (xl 78 95 (xi 80 4 94 (.v 2) (.v 8))))]) (.seq (.run 19 [.asg 10 (xb .add 78 100 114 (.n (.call 0 (.f 407) [(.t 99),
 (.c (.int .i64 2)),(.c (.int .i64 13)),(.c (.int .i64 22))]) (.cons 99 (xl 78 98 (.n (.iaddr 77 (.t 9) (.c (.int .i64 0))) (.cons 9 (.v 7) .nil))) .nil)) (xb .or 78 105 113
 (xb .and 78 102 104 (xl 78 101 (.n (.iaddr 77 (.t 9) (.c (.int .i64 0))) (.cons 9 (.v 7) .nil))) (xl 78 103 (.n (.iaddr 77 (.t 9) (.c (.int .i64 1))) (.cons 9 (.v 7) .nil))))
 (xb .and 78 107 112 (xl 78 106 (.n (.iaddr 77 (.t 9) (.c (.int .i64 2))) (.cons 9 (.v 7) .nil))) (xb .or 78 109 111 (xl 78 108 (.n (.iaddr 77 (.t 9) (.c (.int .i64 0))) (.cons
 9 (.v 7) .nil))) (xl 78 110 (.n (.iaddr 77 (.t 9) (.c (.int .i64 1))) (.cons 9 (.v 7) .nil)))))))]) (.seq (.run 3 [u9E 19 (.copy 81 81 (.t 116) (.t 117)) (.cons
 116 (.n (.slice 77 (.t 9) (some (.c (.int .i64 1))) none none) (.cons 9 (.v 7) .nil)) (.cons 117 (.n (.slice 77 (.t 9) none (some (.c (.int .i64 7))) none) (.cons 9 (.v 7)
 .nil)) .nil)) (some 2)]) (.seq (.run 0 [.eff none none (.store 78 (.t 123) (.t 122)) (.cons 123 (.n (.iaddr 77 (.t 9) (.c (.int .i64 4))) (.cons 9 (.v 7) .nil)) (.cons 122
 (xb .add 78 120 121 (xl 78 119 (.n (.iaddr 77 (.t 9) (.c (.int .i64 4))) (.cons 9 (.v 7) .nil))) (.v 9)) .nil)) none]) (.run 0 [.eff none none (.store 78 (.t 127) (.t 126))
 (.cons 127 (.n (.iaddr 77 (.t 9) (.c (.int .i64 0))) (.cons 9 (.v 7) .nil)) (.cons 126 (xb .add 78 124 125 (.v 9) (.v 10)) .nil)) none]))))))) (.run 0 [.asg 17 (xk .add 2 69
 (.int .i64 1) (.v 17))]))))))) (.seq (.run 0 [u9A 20 0]) (.block 6 (.loop (.seq (.run 0 [.asg 21 (xk .lss 2 129 (.int .i64 8) (.v 20))]) (.seq (.cond 21 (.skip)
 (.exit 6)) (.seq (.block 7 (.seq (.run 0 [.asg 11 (.v 20)]) (.run 12 [.eff none none (.store 78 (.t 142) (.t 140)) (.cons 142 (xi 77 141 133 (.n (.nilc (.t 132)) (.cons 132
 (.v 0) .nil)) (.v 11)) (.cons 140 (xb .add 78 136 139 (xl 78 135 (xi 77 134 133 (.n (.nilc (.t 132)) (.cons 132 (.v 0) .nil)) (.v 11))) (xl 78 138 (xi 77 9 137 (.v 7) (.v 11))))
 .nil)) (some 11)]))) (.run 0 [.asg 20 (xk .add 2 129 (.int .i64 1) (.v 20))])))))))))))
theorem c404 : TF E 404 n404 [] t404 144 := z10 (F := f404) rfl (by kernel_rfl) (by decide)

def n405 : List Nat := [0,2,4,6,7,8,9]
def t405 : TC := .seq (.run 0 [.asg 1 (.c (.int .u32 0))]) (.seq (.seq (.run 0 [.asg 3 (.n (.slice 30 (.t 5) none (some (.c (.int .i64 4))) none) (.cons 5 (.v 0) .nil)),.asg 4 (xn 30 6 (.v
 3)),u9A 5 0]) (.block 0 (.loop (.seq (.run 0 [.asg 6 (xb .lss 2 8 7 (.v 5) (.v 4))]) (.seq (.cond 6 (.skip) (.exit 0)) (.seq (.block 1 (.seq (.run 0 [.asg
 2 (xl 13 10 (xi 30 6 8 (.v 3) (.v 5)))]) (.run 0 [.asg 1 (xb .or 78 13 15 (xk .shl 78 12 (.int .u64 8) (.v 1)) (.n (.conv 13 78 (.t 14)) (.cons 14 (.v 2) .nil)))]))) (.run
 0 [.asg 5 (xk .add 2 8 (.int .i64 1) (.v 5))]))))))) (.seq (.run 0 [.asg 1 (.v 1)]) (.ret)))
theorem c405 : TF E 405 n405 [(1,none)] t405 19 := z10 (F := f405) rfl (by kernel_rfl) (by decide)

def n406 : List Nat := [0,1,4,5]
def t406 : TC := .seq (.run 0 [.asg 2 (.c (.int .u32 0))]) (.seq (.run 0 [.asg 3 (xk .and 12 7 (.int .u64 31) (.n (.conv 2 12 (.t 6)) (.cons 6 (.v 1) .nil)))]) (.seq (.run 0 [.asg 2 (xb .or
 78 11 15 (xb .shl 78 9 10 (.v 0) (.v 3)) (xb .shr 78 12 14 (.v 0) (.n (.bin .sub 12 (.c (.int .u64 32)) (.t 13)) (.cons 13 (.v 3) .nil))))]) (.ret)))
theorem c406 : TF E 406 n406 [(2,none)] t406 17 := z10 (F := f406) rfl (by kernel_rfl) (by decide)

def n407 : List Nat := [0,1,2,3,8]
def t407 : TC := .seq (.run 0 [.asg 4 (.c (.int .u32 0))]) (.seq (.run 0 [.asg 4 (xb .xor 78 17 21 (xb .xor 78 12 16 (.n (.call 0 (.f 406) [(.t 9),(.t 11)]) (.cons 9 (.v 0) (.cons 11 (.n (.un
 .neg (.t 10)) (.cons 10 (.v 1) .nil)) .nil))) (.n (.call 0 (.f 406) [(.t 13),(.t 15)]) (.cons 13 (.v 0) (.cons 15 (.n (.un .neg (.t 14)) (.cons 14 (.v 2) .nil)) .nil)))) (.n
 (.call 0 (.f 406) [(.t 18),(.t 20)]) (.cons 18 (.v 0) (.cons 20 (.n (.un .neg (.t 19)) (.cons 19 (.v 3) .nil)) .nil))))]) (.ret))
theorem c407 : TF E 407 n407 [(4,none)] t407 23 := z10 (F := f407) rfl (by kernel_rfl) (by decide)

theorem ty_0 : E.ty 0 = ⟨.struct [(0,10),(1,9),(2,14)],3,72,[(.imm .exact []),(.imm .exact []),(.imm .exact [])],false⟩ := rfl
theorem ty_2 : E.ty 2 = ⟨.int .i64,1,8,[(.int .i64 0)],false⟩ := rfl
theorem ty_3 : E.ty 3 = ⟨.int .i64,1,8,[(.int .i64 0)],false⟩ := rfl
theorem ty_6 : E.ty 6 = ⟨.slice 2,1,24,[(.imm .exact [])],false⟩ := rfl
theorem ty_7 : E.ty 7 = ⟨.bool,1,1,[(.bool false)],false⟩ := rfl
theorem ty_9 : E.ty 9 = ⟨.slice 6,1,24,[(.imm .exact [])],false⟩ := rfl
theorem ty_10 : E.ty 10 = ⟨.slice 20,1,24,[(.imm .exact [])],false⟩ := rfl
theorem ty_12 : E.ty 12 = ⟨.int .u64,1,8,[(.int .u64 0)],false⟩ := rfl
theorem ty_13 : E.ty 13 = ⟨.int .u8,1,1,[(.int .u8 0)],false⟩ := rfl
theorem ty_14 : E.ty 14 = ⟨.slice 15,1,24,[(.imm .exact [])],false⟩ := rfl
theorem ty_15 : E.ty 15 = ⟨.struct [(0,2),(1,2),(2,6),(3,16)],4,64,[(.int .i64 0),(.int .i64 0),(.imm .exact []),(.imm .exact [])],false⟩ := rfl
theorem ty_16 : E.ty 16 = ⟨.slice 17,1,24,[(.imm .exact [])],false⟩ := rfl
theorem ty_17 : E.ty 17 = ⟨.struct [(0,2),(1,2),(2,2),(3,18)],4,48,[(.int .i64 0),(.int .i64 0),(.int .i64 0),(.imm .exact [])],false⟩ := rfl
theorem ty_18 : E.ty 18 = ⟨.slice 19,1,24,[(.imm .exact [])],false⟩ := rfl
theorem ty_19 : E.ty 19 = ⟨.struct [(0,20),(3,2)],4,32,[(.bool false),(.int .i64 0),(.int .i64 0),(.int .i64 0)],true⟩ := rfl
theorem ty_20 : E.ty 20 = ⟨.struct [(0,7),(1,2),(2,2)],3,24,[(.bool false),(.int .i64 0),(.int .i64 0)],true⟩ := rfl
theorem ty_21 : E.ty 21 = ⟨.map 20 7,1,8,[(.map none)],false⟩ := rfl
theorem ty_30 : E.ty 30 = ⟨.slice 13,1,24,[(.imm .exact [])],false⟩ := rfl
theorem ty_36 : E.ty 36 = ⟨.slice 37,1,24,[(.imm .exact [])],false⟩ := rfl
theorem ty_37 : E.ty 37 = ⟨.struct [(0,2),(1,2),(2,2)],3,24,[(.int .i64 0),(.int .i64 0),(.int .i64 0)],true⟩ := rfl
theorem ty_53 : E.ty 53 = ⟨.str,1,16,[(.str [])],false⟩ := rfl
theorem ty_54 : E.ty 54 = ⟨.int .i8,1,1,[(.int .i8 0)],false⟩ := rfl
theorem ty_55 : E.ty 55 = ⟨.struct [(0,2),(1,2),(2,53),(3,56)],4,56,[(.int .i64 0),(.int .i64 0),(.str []),(.imm .exact [])],false⟩ := rfl
theorem ty_56 : E.ty 56 = ⟨.slice 55,1,24,[(.imm .exact [])],false⟩ := rfl
theorem ty_57 : E.ty 57 = ⟨.arr 4 58,4,32,[.nilfn,.nilfn,.nilfn,.nilfn],false⟩ := rfl
theorem ty_58 : E.ty 58 = ⟨.struct [(0,59)],1,8,[.nilfn],false⟩ := rfl
theorem ty_59 : E.ty 59 = ⟨.func,1,8,[.nilfn],false⟩ := rfl
theorem ty_60 : E.ty 60 = ⟨.struct [(0,30)],1,24,[(.imm .exact [])],false⟩ := rfl
theorem ty_62 : E.ty 62 = ⟨.ptr 57,1,8,[.nilp],false⟩ := rfl
theorem ty_63 : E.ty 63 = ⟨.int .u64,1,8,[(.int .u64 0)],false⟩ := rfl
theorem ty_64 : E.ty 64 = ⟨.arr 4 7,4,4,[(.bool false),(.bool false),(.bool false),(.bool false)],true⟩ := rfl
theorem ty_65 : E.ty 65 = ⟨.struct [(0,2),(1,2)],2,16,[(.int .i64 0),(.int .i64 0)],true⟩ := rfl
theorem ty_66 : E.ty 66 = ⟨.slice 72,1,24,[(.imm .exact [])],false⟩ := rfl
theorem ty_67 : E.ty 67 = ⟨.slice 65,1,24,[(.imm .exact [])],false⟩ := rfl
theorem ty_68 : E.ty 68 = ⟨.struct [(0,2),(1,2),(2,66)],3,40,[(.int .i64 0),(.int .i64 0),(.imm .exact [])],false⟩ := rfl
theorem ty_69 : E.ty 69 = ⟨.slice 68,1,24,[(.imm .exact [])],false⟩ := rfl
theorem ty_70 : E.ty 70 = ⟨.slice 71,1,24,[(.imm .exact [])],false⟩ := rfl
theorem ty_71 : E.ty 71 = ⟨.struct [(0,2),(1,2),(2,2),(3,66),(4,73)],36,80,[(.int .i64 0),(.int .i64 0),(.int .i64 0),(.imm .exact []),(.int .u8 0),(.int .u8 0),(.int .u8 0),(.int .u8 0),(.int .u8 0),(.int .u8 0),(.int .u8 0),(.int .u8 0),(.int .u8 0),(.int .u8 0),(.int .u8 0),(.int .u8 0),(.int .u8 0),(.int .u8 0),(.int .u8 0),(.int .u8 0),(.int .u8 0),(.int .u8 0),(.int .u8 0),(.int .u8 0),(.int .u8 0),(.int .u8 0),(.int .u8 0),(.int .u8 0),(.int .u8 0),(.int .u8 0),(.int .u8 0),(.int .u8 0),(.int .u8 0),(.int .u8 0),(.int .u8 0),(.int .u8 0)],false⟩ := rfl
theorem ty_72 : E.ty 72 = ⟨.struct [(0,65),(2,2)],3,24,[(.int .i64 0),(.int .i64 0),(.int .i64 0)],true⟩ := rfl
theorem ty_73 : E.ty 73 = ⟨.arr 32 13,32,32,[(.int .u8 0),(.int .u8 0),(.int .u8 0),(.int .u8 0),(.int .u8 0),(.int .u8 0),(.int .u8 0),(.int .u8 0),(.int .u8 0),(.int .u8 0),(.int .u8 0),(.int .u8 0),(.int .u8 0),(.int .u8 0),(.int .u8 0),(.int .u8 0),(.int .u8 0),(.int .u8 0),(.int .u8 0),(.int .u8 0),(.int .u8 0),(.int .u8 0),(.int .u8 0),(.int .u8 0),(.int .u8 0),(.int .u8 0),(.int .u8 0),(.int .u8 0),(.int .u8 0),(.int .u8 0),(.int .u8 0),(.int .u8 0)],true⟩ := rfl
theorem ty_74 : E.ty 74 = ⟨.slice 30,1,24,[(.imm .exact [])],false⟩ := rfl
theorem ty_75 : E.ty 75 = ⟨.map 65 2,1,8,[(.map none)],false⟩ := rfl
theorem ty_76 : E.ty 76 = ⟨.arr 8 78,8,32,[(.int .u32 0),(.int .u32 0),(.int .u32 0),(.int .u32 0),(.int .u32 0),(.int .u32 0),(.int .u32 0),(.int .u32 0)],true⟩ := rfl
theorem ty_77 : E.ty 77 = ⟨.arr 8 78,8,32,[(.int .u32 0),(.int .u32 0),(.int .u32 0),(.int .u32 0),(.int .u32 0),(.int .u32 0),(.int .u32 0),(.int .u32 0)],true⟩ := rfl
theorem ty_78 : E.ty 78 = ⟨.int .u32,1,4,[(.int .u32 0)],false⟩ := rfl
theorem ty_79 : E.ty 79 = ⟨.int .i64,1,8,[(.int .i64 0)],false⟩ := rfl
theorem ty_80 : E.ty 80 = ⟨.arr 64 78,64,256,[(.int .u32 0),(.int .u32 0),(.int .u32 0),(.int .u32 0),(.int .u32 0),(.int .u32 0),(.int .u32 0),(.int .u32 0),(.int .u32 0),(.int .u32 0),(.int .u32 0),(.int .u32 0),(.int .u32 0),(.int .u32 0),(.int .u32 0),(.int .u32 0),(.int .u32 0),(.int .u32 0),(.int .u32 0),(.int .u32 0),(.int .u32 0),(.int .u32 0),(.int .u32 0),(.int .u32 0),(.int .u32 0),(.int .u32 0),(.int .u32 0),(.int .u32 0),(.int .u32 0),(.int .u32 0),(.int .u32 0),(.int .u32 0),(.int .u32 0),(.int .u32 0),(.int .u32 0),(.int .u32 0),(.int .u32 0),(.int .u32 0),(.int .u32 0),(.int .u32 0),(.int .u32 0),(.int .u32 0),(.int .u32 0),(.int .u32 0),(.int .u32 0),(.int .u32 0),(.int .u32 0),(.int .u32 0),(.int .u32 0),(.int .u32 0),(.int .u32 0),(.int .u32 0),(.int .u32 0),(.int .u32 0),(.int .u32 0),(.int .u32 0),(.int .u32 0),(.int .u32 0),(.int .u32 0),(.int .u32 0),(.int .u32 0),(.int .u32 0),(.int .u32 0),(.int .u32 0)],true⟩ := rfl
theorem ty_81 : E.ty 81 = ⟨.slice 78,1,24,[(.imm .exact [])],false⟩ := rfl
theorem ty_82 : E.ty 82 = ⟨.int .u64,1,8,[(.int .u64 0)],false⟩ := rfl
theorem ztg : E.mp 291 = true := rfl
theorem ztf : E.mp 292 = true := rfl
theorem zte : E.mp 305 = true := rfl
theorem ztd : E.mp 306 = true := rfl
theorem ztc : E.mp 308 = true := rfl

end Dv
