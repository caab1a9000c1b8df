/- Texts that a proof of this claim uses, joined: Lw.TCode. -/
import Derived.Test.YtfagnjchgplecaaDoorLwa
import Derived.Test.YtfagnjchgplecaaDoorCode
import Derived.KernelRfl
set_option linter.all false
namespace Dv
open Go (IntKind BinOp UnOp)

abbrev u9A(i:Nat)(k:Int):TS := .asg i (.c (.int .i64 k))
abbrev u9E(i:Nat)(o:DOp)(k:Xs)(r:Option Nat):TS := .eff none (some i) o k r
abbrev xl(t a:Nat)(x:Xp):Xp := .n (.load t (.t a)) (.cons a x .nil)
abbrev xn(t a:Nat)(x:Xp):Xp := .n (.len t (.t a)) (.cons a x .nil)
abbrev xf(t a k:Nat)(x:Xp):Xp := .n (.faddr t (.t a) k) (.cons a x .nil)
abbrev xe(a k:Nat)(x:Xp):Xp := .n (.extract (.t a) k) (.cons a x .nil)
abbrev xi(t a b:Nat)(x y:Xp):Xp := .n (.iaddr t (.t a) (.t b)) (.cons a x (.cons b y .nil))
abbrev xb(o:BinOp)(t a b:Nat)(x y:Xp):Xp := .n (.bin o t (.t a) (.t b)) (.cons a x (.cons b y .nil))
abbrev xk(o:BinOp)(t a:Nat)(c:D)(x:Xp):Xp := .n (.bin o t (.t a) (.c c)) (.cons a x .nil)

def n74:List Nat := [0,1,4,5,6,11,12,13,16,19]
def t74:TC := .seq (.run 0 [u9A 2 0]) (.seq (.run 0 [.asg 3 (.n (.call 0 (.f 107) [(.t 7)]) (.cons 7 (.v 0) .nil))]) (.seq (.run 0 [.asg 4 (.n (.call 0 (.f 107) [(.t 9)])
 (.cons 9 (.v 1) .nil))]) (.seq (.seq (.run 0 [.asg 5 (.v 3)]) (.cond 5 (.seq (.seq (.run 0 [.asg 6 (.v 4)]) (.cond 6 (.seq (.run 0 [u9A 2 0]) (.ret)) (.skip)))
 (.seq (.run 0 [.asg 2 (.c (.int .i64 (-1)))]) (.ret))) (.skip))) (.seq (.seq (.run 0 [.asg 7 (.v 4)]) (.cond 7 (.seq (.run 0 [u9A 2 1]) (.ret)) (.skip)))
 (.seq (.seq (.run 0 [.asg 8 (xb .lss 2 14 15 (.v 0) (.v 1))]) (.cond 8 (.seq (.run 0 [.asg 2 (.c (.int .i64 (-1)))]) (.ret)) (.skip))) (.seq (.seq (.run 0 [.asg 9 (xb .gtr
 2 17 18 (.v 0) (.v 1))]) (.cond 9 (.seq (.run 0 [u9A 2 1]) (.ret)) (.skip))) (.seq (.run 0 [u9A 2 0]) (.ret))))))))
theorem c74:TF E 74 n74 [(2,none)] t74 20 := zo (F := f74) rfl (by kernel_rfl) (by decide)

def n105:List Nat := [0,2,3,5,6,7,8,9,14]
def t105:TC := .seq (.run 0 [u9A 1 0]) (.seq (.run 0 [u9A 2 0]) (.seq (.seq (.run 0 [.asg 4 (.v 0),.asg 5 (xn 6 6 (.v 4)),u9A 6 0])
 (.block 0 (.loop (.seq (.run 0 [.asg 7 (xb .lss 2 8 7 (.v 6) (.v 5))]) (.seq (.cond 7 (.skip) (.exit 0)) (.seq (.block 1 (.seq (.run 0 [.asg 3 (xl 2 10 (xi 6 6 8 (.v 4) (.v
 6)))]) (.seq (.run 0 [.asg 8 (xb .neq 2 12 13 (.v 3) (.v 2))]) (.cond 8 (.seq (.run 0 [.asg 1 (.v 3)]) (.ret)) (.skip))))) (.run 0 [.asg 6 (xk .add 2 8 (.int .i64 1) (.v 6))])))))))
 (.seq (.run 0 [.asg 1 (.v 2)]) (.ret))))
theorem c105:TF E 105 n105 [(1,none)] t105 18 := zo (F := f105) rfl (by kernel_rfl) (by decide)

def n107:List Nat := [0,2]
def t107:TC := .seq (.run 0 [.asg 1 (.c (.bool false))]) (.seq (.run 0 [.asg 1 (xb .neq 2 3 4 (.v 0) (.v 0))]) (.ret))
theorem c107:TF E 107 n107 [(1,none)] t107 6 := zo (F := f107) rfl (by kernel_rfl) (by decide)

def n264:List Nat := [0,1,2,3,4,8,10,18]
def t264:TC := .seq (.run 0 [.asg 1 (.n (.ibox 55 (.t 0)) (.cons 0 (.v 0) .nil)),.asg 2 (.c (.imm .exact [])),u9A 3 0]) (.seq (.seq (.run 0 [.asg 4 (.n (.call 0 (.f 281)
 [(.t 5)]) (.cons 5 (.n (.iload 55 (.t 1)) (.cons 1 (.v 1) .nil)) .nil))]) (.seq (.run 0 [.asg 5 (xk .neq 3 7 (.int .i64 0) (.v 4))]) (.cond 5 (.seq (.run 0 [.asg 2 (.c (.imm
 .exact [])),.asg 3 (.v 4)]) (.ret)) (.skip)))) (.seq (.run 11 [u9E 6 (.call 4 (.f 282) []) .nil (some 0),u9E 7 (.call 2 (.t 16) [(.c (.imm .exact
 [])),(.t 17)]) (.cons 16 (xl 59 15 (xf 58 14 0 (xi 57 13 12 (.n (.nilc (.t 10)) (.cons 10 (.v 6) .nil)) (.n (.iload 2 (.t 11)) (.cons 11 (xf 55 1 0 (.v 1)) .nil))))) (.cons
 17 (.n (.iload 55 (.t 1)) (.cons 1 (.v 1) .nil)) .nil)) (some 8),.asg 2 (.v 7),u9A 3 0]) (.ret)))
theorem c264:TF E 264 n264 [(2,none),(3,none)] t264 19 := zo (F := f264) rfl (by kernel_rfl) (by decide)

def n270:List Nat := [0,1,2,3,4,8]
def t270:TC := .seq (.run 0 [.asg 1 (.n (.ibox 55 (.t 0)) (.cons 0 (.v 0) .nil)),.asg 2 (.c (.imm .exact [])),u9A 3 0]) (.seq (.run 0 [.asg 4 (.n (.call 0 (.f 286) [(.t
 5)]) (.cons 5 (.n (.iload 55 (.t 1)) (.cons 1 (.v 1) .nil)) .nil))]) (.seq (.seq (.run 0 [.asg 5 (xk .neq 3 7 (.int .i64 0) (.v 4))]) (.cond 5 (.seq (.run 0 [.asg 2 (.c (.imm
 .exact [])),.asg 3 (.v 4)]) (.ret)) (.skip))) (.seq (.run 0 [.asg 2 (.n (.call 0 (.f 287) [(.t 10)]) (.cons 10 (.n (.iload 55 (.t 1)) (.cons 1 (.v 1) .nil)) .nil)),u9A 3 0]) (.ret))))
theorem c270:TF E 270 n270 [(2,none),(3,none)] t270 12 := zo (F := f270) rfl (by kernel_rfl) (by decide)

def n281:List Nat := [0,1,2,3,4,5,10,13]
def t281:TC := .seq (.run 0 [.asg 1 (.n (.ibox 55 (.t 0)) (.cons 0 (.v 0) .nil)),u9A 2 0]) (.seq (.run 0 [.asg 5 (.n (.call 0 (.f 297) [(.t 6)]) (.cons 6 (.n (.iload 55
 (.t 1)) (.cons 1 (.v 1) .nil)) .nil)),.asg 3 (xe 5 0 (.v 5)),.asg 4 (xe 5 1 (.v 5))]) (.seq (.block 0 (.seq (.run 0 [.asg 6 (.n (.un .not (.t 11)) (.cons 11 (.v 4) .nil))])
 (.cond 6 (.seq (.run 0 [u9A 2 1]) (.ret)) (.seq (.run 0 [.asg 7 (xk .gtr 2 14 (.int .i64 16) (.v 3))]) (.cond 7 (.seq (.run 0 [u9A 2 2])
 (.ret)) (.skip)))))) (.seq (.run 0 [u9A 2 0]) (.ret))))
theorem c281:TF E 281 n281 [(2,none)] t281 16 := zo (F := f281) rfl (by kernel_rfl) (by decide)

def n282:List Nat := [0,1,3]
def t282:TC := .seq (.run 0 [.asg 0 (.c .nilp)]) (.seq (.run 0 [u9E 2 (.box 57 (.t 2)) (.cons 2 (.n (.build 57 []) .nil) .nil) none,u9E 1 (.alloc 62) .nil none,
 .eff none none (.store 62 (.t 1) (.t 3)) (.cons 1 (.v 1) (.cons 3 (.v 2) .nil)) none]) (.seq (.run 0 [.eff none none (.store 59 (.t 7) (.f 298)) (.cons 7 (xf 58 6 0 (.n (.iaddr
 57 (.t 5) (.c (.int .i64 1))) (.cons 5 (.n (.nilc (.t 4)) (.cons 4 (xl 62 1 (.v 1)) .nil)) .nil))) .nil) none]) (.seq (.run 0 [.eff none none (.store 59 (.t 11) (.f 299)) (.cons
 11 (xf 58 10 0 (.n (.iaddr 57 (.t 9) (.c (.int .i64 2))) (.cons 9 (.n (.nilc (.t 8)) (.cons 8 (xl 62 1 (.v 1)) .nil)) .nil))) .nil) none]) (.seq (.run 0 [.eff none none (.store
 59 (.t 16) (.t 13)) (.cons 16 (xf 58 15 0 (.n (.iaddr 57 (.t 14) (.c (.int .i64 3))) (.cons 14 (.n (.nilc (.t 12)) (.cons 12 (xl 62 1 (.v 1)) .nil)) .nil))) (.cons 13 (.n (.mkfn
 300 [(.t 1)]) (.cons 1 (.v 1) .nil)) .nil)) none]) (.seq (.run 0 [.asg 0 (xl 62 1 (.v 1))]) (.ret))))))
theorem c282:TF E 282 n282 [(0,none)] t282 18 := zo (F := f282) rfl (by kernel_rfl) (by decide)

def n286:List Nat := [0,1,2,5,8]
def t286:TC := .seq (.run 0 [.asg 1 (.n (.ibox 55 (.t 0)) (.cons 0 (.v 0) .nil)),u9A 2 0]) (.seq (.seq (.run 0 [.asg 3 (.n (.un .not (.t 4)) (.cons 4 (.n (.call 0 (.f 301)
 [(.t 3)]) (.cons 3 (.n (.iload 55 (.t 1)) (.cons 1 (.v 1) .nil)) .nil)) .nil))]) (.cond 3 (.seq (.run 0 [u9A 2 1]) (.ret)) (.skip))) (.seq (.seq (.run 0 [.asg
 4 (xk .gtr 2 7 (.int .i64 16) (.n (.call 0 (.f 302) [(.t 6)]) (.cons 6 (.n (.iload 55 (.t 1)) (.cons 1 (.v 1) .nil)) .nil)))]) (.cond 4 (.seq (.run 0 [u9A 2 2]) (.ret)) (.skip))) (.seq (.run 0 [u9A 2 0]) (.ret))))
theorem c286:TF E 286 n286 [(2,none)] t286 9 := zo (F := f286) rfl (by kernel_rfl) (by decide)

def n287:List Nat := [0,1,2,3,4,6,7,14,15,23,26,33,38,48]
def t287:TC := .seq (.run 0 [.asg 1 (.n (.ibox 55 (.t 0)) (.cons 0 (.v 0) .nil)),.asg 2 (.c (.imm .exact []))]) (.seq (.seq (.run 0 [.asg 5 (.n (.iload 2 (.t 5)) (.cons 5 (xf 55 1 0 (.v
 1)) .nil))]) (.block 0 (.seq (.run 0 [.asg 6 (xk .eql 2 6 (.int .i64 1) (.v 5))]) (.cond 6 (.seq (.run 0 [u9E 7 (.append 0 30 30 (.t 9) (.t 13)) (.cons 9 (.n (.bslice
 false 30 1 [(0,(.c (.int .u8 1)))]) .nil) (.cons 13 (.n (.call 0 (.f 304) [(.t 12)]) (.cons 12 (.n (.call 0 (.f 303) [(.t 11)]) (.cons 11 (.n (.iload 2 (.t 10)) (.cons 10
 (xf 55 1 1 (.v 1)) .nil)) .nil)) .nil)) .nil)) none,.asg 2 (.v 7)]) (.ret)) (.seq (.run 0 [.asg 8 (xk .eql 2 6 (.int .i64 2) (.v 5))]) (.cond 8 (.seq (.run 11 [u9E 9 (.append 0 30 30 (.t 17) (.t 22)) (.cons 17 (.n (.bslice false 30 1 [(0,(.c (.int .u8 2)))]) .nil) (.cons 22 (.n (.call 0 (.f 304) [(.t 21)]) (.cons 21 (.n (.conv 2 63
 (.t 20)) (.cons 20 (xn 53 19 (.n (.iload 53 (.t 18)) (.cons 18 (xf 55 1 2 (.v 1)) .nil))) .nil)) .nil)) .nil)) (some 6),u9E 10 (.append 0 30 53 (.t 23) (.t 25))
 (.cons 23 (.v 9) (.cons 25 (.n (.iload 53 (.t 24)) (.cons 24 (xf 55 1 2 (.v 1)) .nil)) .nil)) (some 9),.asg 2 (.v 10)]) (.ret)) (.skip))))))) (.seq (.run 0 [u9E 11 (.append 0 30 30 (.t 27) (.t 32)) (.cons 27 (.n (.bslice false 30 1 [(0,(.c (.int .u8 3)))]) .nil) (.cons 32 (.n (.call 0 (.f 304) [(.t 31)]) (.cons 31 (.n (.conv 2 63
 (.t 30)) (.cons 30 (xn 56 29 (.n (.iload 56 (.t 28)) (.cons 28 (xf 55 1 3 (.v 1)) .nil))) .nil)) .nil)) .nil)) none,.asg 3 (.v 11)]) (.seq (.seq (.run 0 [u9A 4 0]) (.block 1 (.loop (.seq (.seq (.run 0 [.asg 12 (xb .lss 2 34 37 (.v 4) (xn 56 36 (.n (.iload 56 (.t 35)) (.cons 35 (xf 55 1 3 (.v 1)) .nil))))]) (.cond 12 (.skip)
 (.exit 1))) (.seq (.block 2 (.run 0 [u9E 13 (.append 0 30 30 (.t 41) (.t 47)) (.cons 41 (.v 3) (.cons 47 (.n (.call 0 (.f 287) [(.t 46)]) (.cons 46 (xl 55 45 (xi
 56 43 44 (.n (.iload 56 (.t 42)) (.cons 42 (xf 55 1 3 (.v 1)) .nil)) (.v 4))) .nil)) .nil)) none,.asg 3 (.v 13)])) (.run 0 [.asg 4 (xk .add 2 39 (.int .i64 1) (.v 4))]))))))
 (.seq (.run 0 [.asg 2 (.v 3)]) (.ret)))))
theorem c287:TF E 287 n287 [(2,none)] t287 50 := zo (F := f287) rfl (by kernel_rfl) (by decide)

def n297:List Nat := [0,1,2,3,4,6,7,8,35,50,53,55,56,57,58,60,61,67]
def t297:TC := .seq (.run 0 [.asg 1 (.n (.ibox 55 (.t 0)) (.cons 0 (.v 0) .nil)),u9A 2 0,.asg 3 (.c (.bool false))]) (.seq (.run 0 [.asg 8 (.n (.build 64 [(1,(.t 17)),
 (2,(.t 26)),(3,(.t 34))]) (.cons 17 (.ite (xk .eql 53 10 (.str []) (.n (.iload 53 (.t 9)) (.cons 9 (xf 55 1 2 (.v 1)) .nil))) (xk .eql 2 15 (.int .i64 0) (xn 56 14 (.n (.iload
 56 (.t 13)) (.cons 13 (xf 55 1 3 (.v 1)) .nil)))) (.c (.bool false))) (.cons 26 (.ite (xk .eql 2 19 (.int .i64 0) (.n (.iload 2 (.t 18)) (.cons 18 (xf 55 1 1 (.v 1)) .nil)))
 (xk .eql 2 24 (.int .i64 0) (xn 56 23 (.n (.iload 56 (.t 22)) (.cons 22 (xf 55 1 3 (.v 1)) .nil)))) (.c (.bool false))) (.cons 34 (.ite (xk .eql 2 28 (.int .i64 0) (.n (.iload
 2 (.t 27)) (.cons 27 (xf 55 1 1 (.v 1)) .nil))) (xk .eql 53 32 (.str []) (.n (.iload 53 (.t 31)) (.cons 31 (xf 55 1 2 (.v 1)) .nil))) (.c (.bool false))) .nil)))),u9E 4 (.alloc 64) .nil none,.eff none none (.store 64 (.t 4) (.t 35)) (.cons 4 (.v 4) (.cons 35 (.v 8) .nil)) none]) (.seq (.seq (.run 0 [.asg 9 (.ite (.ite (xk .lss 2
 37 (.int .i64 1) (.n (.iload 2 (.t 36)) (.cons 36 (xf 55 1 0 (.v 1)) .nil))) (.c (.bool true)) (xk .gtr 2 41 (.int .i64 3) (.n (.iload 2 (.t 40)) (.cons 40 (xf 55 1 0 (.v 1))
 .nil)))) (.c (.bool true)) (.n (.un .not (.t 48)) (.cons 48 (xl 7 47 (xi 64 4 46 (.v 4) (.n (.iload 2 (.t 45)) (.cons 45 (xf 55 1 0 (.v 1)) .nil)))) .nil)))]) (.cond 9 (.seq
 (.run 0 [u9A 2 0,.asg 3 (.c (.bool false))]) (.ret)) (.skip))) (.seq (.seq (.run 0 [.asg 10 (xk .lss 2 52 (.int .i64 3) (.n (.iload 2 (.t 51)) (.cons 51
 (xf 55 1 0 (.v 1)) .nil)))]) (.cond 10 (.seq (.run 0 [u9A 2 0,.asg 3 (.c (.bool true))]) (.ret)) (.skip))) (.seq (.seq (.run 0 [.asg 11 (.n (.iload 56 (.t
 54)) (.cons 54 (xf 55 1 3 (.v 1)) .nil)),.asg 12 (xn 56 55 (.v 11)),u9A 13 0]) (.block 0 (.loop (.seq (.run 0 [.asg 14 (xb .lss 2 57 56 (.v 13) (.v 12))])
 (.seq (.cond 14 (.skip) (.exit 0)) (.seq (.block 1 (.seq (.run 0 [.asg 15 (xl 55 59 (xi 56 55 57 (.v 11) (.v 13))),u9E 5 (.alloc 55) .nil none,.eff none none
 (.store 55 (.t 6) (.t 60)) (.cons 6 (.v 5) (.cons 60 (.v 15) .nil)) none]) (.seq (.run 0 [.asg 16 (.n (.call 0 (.f 297) [(.t 62)]) (.cons 62 (xl 55 6 (.v 5)) .nil)),.asg 6
 (xe 61 0 (.v 16)),.asg 7 (xe 61 1 (.v 16))]) (.seq (.seq (.run 0 [.asg 17 (.n (.un .not (.t 66)) (.cons 66 (.v 7) .nil))]) (.cond 17 (.seq (.run 0 [u9A 2 0,
 .asg 3 (.c (.bool false))]) (.ret)) (.skip))) (.run 0 [.asg 2 (.n (.maxi [(.t 68),(.t 69)]) (.cons 68 (.v 2) (.cons 69 (.v 6) .nil)))]))))) (.run 0 [.asg 13 (xk .add 2 57
 (.int .i64 1) (.v 13))]))))))) (.seq (.run 0 [.asg 2 (xk .add 2 72 (.int .i64 1) (.v 2)),.asg 3 (.c (.bool true))]) (.ret))))))
theorem c297:TF E 297 n297 [(2,none),(3,none)] t297 74 := zo (F := f297) rfl (by kernel_rfl) (by decide)

def n298:List Nat := [0,1,3,4,7,11]
def t298:TC := .seq (.run 0 [.asg 2 (.n (.ibox 55 (.t 1)) (.cons 1 (.v 1) .nil)),.asg 3 (.c (.imm .exact []))]) (.seq (.run 8 [u9E 4 (.append 0 30 30 (.t 5) (.t 6)) (.cons 5
 (.v 0) (.cons 6 (.n (.bslice false 30 1 [(0,(.c (.int .u8 1)))]) .nil) .nil)) (some 2),u9E 5 (.call 2 (.f 312) [(.t 7),(.t 10)]) (.cons 7 (.v 4) (.cons 10 (.n
 (.call 0 (.f 311) [(.t 9)]) (.cons 9 (.n (.iload 2 (.t 8)) (.cons 8 (xf 55 3 1 (.v 2)) .nil)) .nil)) .nil)) (some 6),.asg 3 (.v 5)]) (.ret))
theorem c298:TF E 298 n298 [(3,none)] t298 12 := zo (F := f298) rfl (by kernel_rfl) (by decide)

def n299:List Nat := [0,1,3,4,7,12,15]
def t299:TC := .seq (.run 0 [.asg 2 (.n (.ibox 55 (.t 1)) (.cons 1 (.v 1) .nil)),.asg 3 (.c (.imm .exact []))]) (.seq (.run 12 [u9E 4 (.append 0 30 30 (.t 5) (.t 6)) (.cons
 5 (.v 0) (.cons 6 (.n (.bslice false 30 1 [(0,(.c (.int .u8 2)))]) .nil) .nil)) (some 2),u9E 5 (.call 2 (.f 312) [(.t 7),(.t 11)]) (.cons 7 (.v 4) (.cons 11
 (.n (.conv 2 63 (.t 10)) (.cons 10 (xn 53 9 (.n (.iload 53 (.t 8)) (.cons 8 (xf 55 3 2 (.v 2)) .nil))) .nil)) .nil)) (some 7),u9E 6 (.append 0 30 53 (.t 12) (.t
 14)) (.cons 12 (.v 5) (.cons 14 (.n (.iload 53 (.t 13)) (.cons 13 (xf 55 3 2 (.v 2)) .nil)) .nil)) (some 10),.asg 3 (.v 6)]) (.ret))
theorem c299:TF E 299 n299 [(3,none)] t299 16 := zo (F := f299) rfl (by kernel_rfl) (by decide)

def n300:List Nat := [0,1,2,4,5,7,10,15,17,18,19,20,22,32]
def t300:TC := .seq (.run 0 [.asg 3 (.n (.ibox 55 (.t 1)) (.cons 1 (.v 1) .nil)),.asg 4 (.c (.imm .exact []))]) (.seq (.run 9 [u9E 6 (.append 0 30 30 (.t 8) (.t 9)) (.cons 8
 (.v 0) (.cons 9 (.n (.bslice false 30 1 [(0,(.c (.int .u8 3)))]) .nil) .nil)) (some 2),u9E 7 (.call 2 (.f 312) [(.t 10),(.t 14)]) (.cons 10 (.v 6) (.cons 14
 (.n (.conv 2 63 (.t 13)) (.cons 13 (xn 56 12 (.n (.iload 56 (.t 11)) (.cons 11 (xf 55 4 3 (.v 3)) .nil))) .nil)) .nil)) (some 7),.asg 0 (.v 7)]) (.seq (.seq (.run 0 [.asg
 8 (.n (.iload 56 (.t 16)) (.cons 16 (xf 55 4 3 (.v 3)) .nil)),.asg 9 (xn 56 17 (.v 8)),u9A 10 0]) (.block 0 (.loop (.seq (.run 0 [.asg 11 (xb .lss 2 19
 18 (.v 10) (.v 9))]) (.seq (.cond 11 (.skip) (.exit 0)) (.seq (.block 1 (.seq (.run 0 [.asg 12 (xl 55 21 (xi 56 17 19 (.v 8) (.v 10))),u9E 5 (.alloc 55) .nil
 none,.eff none none (.store 55 (.t 7) (.t 22)) (.cons 7 (.v 5) (.cons 22 (.v 12) .nil)) none]) (.run 11 [u9E 13 (.call 2 (.t 29) [(.t 30),(.t 31)]) (.cons 29
 (xl 59 28 (xf 58 27 0 (xi 57 26 25 (.n (.nilc (.t 23)) (.cons 23 (xl 62 2 (.v 2)) .nil)) (xl 2 24 (xf 55 7 0 (.v 5)))))) (.cons 30 (.v 0) (.cons 31 (xl 55 7 (.v 5)) .nil)))
 (some 9),.asg 0 (.v 13)]))) (.run 0 [.asg 10 (xk .add 2 19 (.int .i64 1) (.v 10))]))))))) (.seq (.run 0 [.asg 4 (.v 0)]) (.ret))))
theorem c300:TF E 300 n300 [(4,none)] t300 35 := zo (F := f300) rfl (by kernel_rfl) (by decide)

def n301:List Nat := [0,1,2,3,5,6,17,28,34,43]
def t301:TC := .seq (.run 0 [.asg 1 (.n (.ibox 55 (.t 0)) (.cons 0 (.v 0) .nil)),.asg 2 (.c (.bool false))]) (.seq (.seq (.run 0 [.asg 4 (.n (.iload 2 (.t 4)) (.cons 4 (xf 55 1 0 (.v 1))
 .nil))]) (.block 0 (.seq (.run 0 [.asg 5 (xk .eql 2 5 (.int .i64 1) (.v 4))]) (.cond 5 (.seq (.run 0 [.asg 2 (.ite (xk .eql 53 9 (.str []) (.n (.iload 53 (.t 8)) (.cons 8 (xf
 55 1 2 (.v 1)) .nil))) (xk .eql 2 14 (.int .i64 0) (xn 56 13 (.n (.iload 56 (.t 12)) (.cons 12 (xf 55 1 3 (.v 1)) .nil)))) (.c (.bool false)))]) (.ret)) (.seq (.run 0 [.asg
 6 (xk .eql 2 5 (.int .i64 2) (.v 4))]) (.cond 6 (.seq (.run 0 [.asg 2 (.ite (xk .eql 2 20 (.int .i64 0) (.n (.iload 2 (.t 19)) (.cons 19 (xf 55 1 1 (.v 1)) .nil))) (xk .eql
 2 25 (.int .i64 0) (xn 56 24 (.n (.iload 56 (.t 23)) (.cons 23 (xf 55 1 3 (.v 1)) .nil)))) (.c (.bool false)))]) (.ret)) (.seq (.run 0 [.asg 7 (xk .eql 2 5 (.int .i64 3) (.v
 4))]) (.cond 7 (.seq (.seq (.run 0 [u9A 3 0]) (.block 1 (.loop (.seq (.seq (.run 0 [.asg 8 (xb .lss 2 30 33 (.v 3) (xn 56 32 (.n (.iload 56 (.t 31)) (.cons
 31 (xf 55 1 3 (.v 1)) .nil))))]) (.cond 8 (.skip) (.exit 1))) (.seq (.block 2 (.seq (.run 0 [.asg 9 (.n (.un .not (.t 42)) (.cons 42 (.n (.call 0 (.f 301) [(.t 41)]) (.cons
 41 (xl 55 40 (xi 56 38 39 (.n (.iload 56 (.t 37)) (.cons 37 (xf 55 1 3 (.v 1)) .nil)) (.v 3))) .nil)) .nil))]) (.cond 9 (.seq (.run 0 [.asg 2 (.c (.bool false))]) (.ret)) (.skip))))
 (.run 0 [.asg 3 (xk .add 2 35 (.int .i64 1) (.v 3))])))))) (.seq (.run 0 [.asg 2 (.ite (xk .eql 2 45 (.int .i64 0) (.n (.iload 2 (.t 44)) (.cons 44 (xf 55 1 1 (.v 1)) .nil)))
 (xk .eql 53 49 (.str []) (.n (.iload 53 (.t 48)) (.cons 48 (xf 55 1 2 (.v 1)) .nil))) (.c (.bool false)))]) (.ret))) (.skip))))))))) (.seq (.run 0 [.asg 2 (.c (.bool false))])
 (.ret)))
theorem c301:TF E 301 n301 [(2,none)] t301 52 := zo (F := f301) rfl (by kernel_rfl) (by decide)

def n302:List Nat := [0,1,2,3,4,7,12]
def t302:TC := .seq (.run 0 [.asg 1 (.n (.ibox 55 (.t 0)) (.cons 0 (.v 0) .nil)),u9A 2 0]) (.seq (.seq (.run 0 [.asg 5 (xk .neq 2 6 (.int .i64 3) (.n (.iload 2 (.t 5))
 (.cons 5 (xf 55 1 0 (.v 1)) .nil)))]) (.cond 5 (.seq (.run 0 [u9A 2 0]) (.ret)) (.skip))) (.seq (.run 0 [u9A 3 0]) (.seq (.seq (.run 0 [u9A 4 0]) (.block 0 (.loop (.seq (.seq (.run 0 [.asg 6 (xb .lss 2 8 11 (.v 4) (xn 56 10 (.n (.iload 56 (.t 9)) (.cons 9 (xf 55 1 3 (.v 1)) .nil))))]) (.cond 6
 (.skip) (.exit 0))) (.seq (.block 1 (.run 0 [.asg 3 (.n (.maxi [(.t 15),(.t 21)]) (.cons 15 (.v 3) (.cons 21 (.n (.call 0 (.f 302) [(.t 20)]) (.cons 20 (xl 55 19 (xi 56 17
 18 (.n (.iload 56 (.t 16)) (.cons 16 (xf 55 1 3 (.v 1)) .nil)) (.v 4))) .nil)) .nil)))])) (.run 0 [.asg 4 (xk .add 2 13 (.int .i64 1) (.v 4))])))))) (.seq (.run 0 [.asg 2 (xk
 .add 2 23 (.int .i64 1) (.v 3))]) (.ret)))))
theorem c302:TF E 302 n302 [(2,none)] t302 25 := zo (F := f302) rfl (by kernel_rfl) (by decide)

def n303:List Nat := [0,2,4]
def t303:TC := .seq (.run 0 [.asg 1 (.c (.int .u64 0))]) (.seq (.seq (.run 0 [.asg 2 (xk .geq 2 3 (.int .i64 0) (.v 0))]) (.cond 2 (.seq (.run 0 [.asg 1 (.n (.bin .mul 63 (.c (.int .u64 2))
 (.t 6)) (.cons 6 (.n (.conv 2 63 (.t 5)) (.cons 5 (.v 0) .nil)) .nil))]) (.ret)) (.skip))) (.seq (.run 0 [.asg 1 (xk .add 63 12 (.int .u64 1) (.n (.bin .mul 63 (.c (.int .u64
 2)) (.t 11)) (.cons 11 (.n (.conv 2 63 (.t 10)) (.cons 10 (.n (.un .neg (.t 9)) (.cons 9 (xk .add 2 8 (.int .i64 1) (.v 0)) .nil)) .nil)) .nil)))]) (.ret)))
theorem c303:TF E 303 n303 [(1,none)] t303 14 := zo (F := f303) rfl (by kernel_rfl) (by decide)

def n304:List Nat := [0,2,4,16]
def t304:TC := .seq (.run 0 [.asg 1 (.c (.imm .exact []))]) (.seq (.seq (.run 0 [.asg 2 (xk .lss 63 3 (.int .u64 128) (.v 0))]) (.cond 2 (.seq (.run 0 [.asg 1 (.n (.bslice false 30 1 [(0,
 (.t 6))]) (.cons 6 (.n (.conv 63 13 (.t 5)) (.cons 5 (.v 0) .nil)) .nil))]) (.ret)) (.skip))) (.seq (.run 0 [u9E 3 (.append 0 30 30 (.t 12) (.t 15)) (.cons 12
 (.n (.bslice false 30 1 [(0,(.t 11))]) (.cons 11 (.n (.conv 63 13 (.t 10)) (.cons 10 (xk .add 63 9 (.int .u64 128) (xk .rem 63 8 (.int .u64 128) (.v 0))) .nil)) .nil)) (.cons
 15 (.n (.call 0 (.f 304) [(.t 14)]) (.cons 14 (xk .quo 63 13 (.int .u64 128) (.v 0)) .nil)) .nil)) none,.asg 1 (.v 3)]) (.ret)))
theorem c304:TF E 304 n304 [(1,none)] t304 17 := zo (F := f304) rfl (by kernel_rfl) (by decide)

def n311:List Nat := [0,2]
def t311:TC := .seq (.run 0 [.asg 1 (.c (.int .u64 0))]) (.seq (.run 0 [.asg 1 (xb .xor 63 5 8 (xk .shl 63 4 (.int .u64 1) (.n (.conv 2 63 (.t 3)) (.cons 3 (.v 0) .nil))) (.n (.conv 2 63
 (.t 7)) (.cons 7 (xk .shr 2 6 (.int .u64 63) (.v 0)) .nil)))]) (.ret))
theorem c311:TF E 311 n311 [(1,none)] t311 10 := zo (F := f311) rfl (by kernel_rfl) (by decide)

def n312:List Nat := [0,1,4,6,14,19]
def t312:TC := .seq (.run 0 [.asg 2 (.c (.imm .exact []))]) (.seq (.block 0 (.loop (.seq (.seq (.run 0 [.asg 3 (xk .geq 63 5 (.int .u64 128) (.v 1))]) (.cond 3 (.skip) (.exit 0))) (.seq (.block
 1 (.run 0 [u9E 4 (.append 0 30 30 (.t 9) (.t 13)) (.cons 9 (.v 0) (.cons 13 (.n (.bslice false 30 1 [(0,(.t 12))]) (.cons 12 (xk .or 13 11 (.int .u8 128) (.n
 (.conv 63 13 (.t 10)) (.cons 10 (.v 1) .nil))) .nil)) .nil)) none,.asg 0 (.v 4)])) (.run 0 [.asg 1 (xk .shr 63 7 (.int .u64 7) (.v 1))]))))) (.seq (.run 0 [u9E 5 (.append 0 30 30 (.t 15) (.t 18)) (.cons 15 (.v 0) (.cons 18 (.n (.bslice false 30 1 [(0,(.t 17))]) (.cons 17 (.n (.conv 63 13 (.t 16)) (.cons 16 (.v 1) .nil)) .nil)) .nil))
 none,.asg 2 (.v 5)]) (.ret)))
theorem c312:TF E 312 n312 [(2,none)] t312 20 := zo (F := f312) rfl (by kernel_rfl) (by decide)

def n313:List Nat := [0,1,2,3,4,9,10,11,12,13,14,15,16,17,18,20,28,29,37,45,52]
def t313:TC := .seq (.run 0 [.asg 5 (.n (.ibox 65 (.t 4)) (.cons 4 (.v 4) .nil)),.asg 6 (.c (.bool false))]) (.seq (.seq (.run 0 [.asg 15 (.n (.un .not (.t 19)) (.cons 19 (.n (.call 0 (.f
 314) []) .nil) .nil))]) (.cond 15 (.seq (.run 0 [.asg 6 (.c (.bool false))]) (.ret)) (.skip))) (.seq (.seq (.run 0 [.asg 16 (.ite (.n (.un .not (.t 22)) (.cons 22 (.n (.call
 0 (.f 315) [(.t 21)]) (.cons 21 (.v 0) .nil)) .nil)) (.c (.bool true)) (xk .gtr 2 26 (.int .i64 30) (xn 66 25 (.v 3))))]) (.cond 16 (.seq (.run 0 [.asg 6 (.c (.bool true))])
 (.ret)) (.skip))) (.seq (.run 0 [.asg 17 (.n (.call 0 (.f 316) [(.t 30),(.t 31),(.t 32),(.t 33)]) (.cons 30 (.v 0) (.cons 31 (.v 1) (.cons 32 (.v 2) (.cons 33 (.v 3) .nil))))),
 .asg 7 (xe 29 0 (.v 17)),.asg 8 (xe 29 1 (.v 17))]) (.seq (.run 0 [.asg 18 (.n (.call 0 (.f 317) [(.t 38),(.t 39),(.t 40),(.t 41)]) (.cons 38 (.v 0) (.cons 39 (.v 1) (.cons
 40 (.v 2) (.cons 41 (.v 3) .nil))))),.asg 9 (xe 37 0 (.v 18)),.asg 10 (xe 37 1 (.v 18))]) (.seq (.run 0 [.asg 19 (.n (.call 0 (.f 318) [(.t 46),(.t 47),(.t 48)]) (.cons
 46 (.v 0) (.cons 47 (.n (.iload 65 (.t 9)) (.cons 9 (.v 5) .nil)) (.cons 48 (.v 1) .nil)))),.asg 11 (xe 45 0 (.v 19)),.asg 12 (xe 45 1 (.v 19))]) (.seq (.run 0 [.asg 20 (.n
 (.call 0 (.f 319) [(.t 53),(.t 54),(.t 55)]) (.cons 53 (.v 0) (.cons 54 (.n (.iload 65 (.t 9)) (.cons 9 (.v 5) .nil)) (.cons 55 (.v 1) .nil)))),.asg 13 (xe 52 0 (.v 20)),
 .asg 14 (xe 52 1 (.v 20))]) (.seq (.run 0 [.asg 6 (.ite (.ite (.ite (.n (.call 0 (.f 320) [(.t 59),(.t 60)]) (.cons 59 (.v 7) (.cons 60 (.v 9) .nil))) (xb .eql 3 63 64 (.v
 8) (.v 10)) (.c (.bool false))) (xb .eql 2 68 69 (.v 11) (.v 13)) (.c (.bool false))) (xb .eql 3 73 74 (.v 12) (.v 14)) (.c (.bool false)))]) (.ret))))))))
theorem c313:TF E 313 n313 [(6,none)] t313 77 := zo (F := f313) rfl (by kernel_rfl) (by decide)

def n314:List Nat := [0,1,2,3,4,5,7,8,10,12,13,14,15,16,17,18,20,21,22,23,24,25,27,32,38,41,43,49,50,52,56,58,64,70,75,78,80,85,135]
def t314:TC := .seq (.run 0 [.asg 0 (.c (.bool false))]) (.seq (.run 0 [u9E 1 (.alloc 65) .nil none,.eff none none (.store 65 (.t 1) (.t 26)) (.cons 1 (.v 1) (.cons 26 (.n (.build
 65 [(0,(.c (.int .i64 1))),(1,(.c (.int .i64 3)))]) .nil) .nil)) none]) (.seq (.run 0 [.asg 22 (.n (.call 0 (.f 316) [(.c (.imm .exact [])),(.c (.int .i64 5)),(.c (.int
 .i64 (-1))),(.t 28)]) (.cons 28 (.n (.call 0 (.f 353) [(.c (.int .i64 7))]) .nil) .nil)),.asg 2 (xe 27 0 (.v 22)),.asg 3 (xe 27 1 (.v 22))]) (.seq (.run 0 [.asg 23 (.n (.call
 0 (.f 316) [(.t 33),(.c (.int .i64 9)),(.c (.int .i64 0)),(.t 34)]) (.cons 33 (.v 2) (.cons 34 (.n (.call 0 (.f 353) [(.c (.int .i64 (-2)))]) .nil) .nil))),.asg 4 (xe 32
 0 (.v 23)),.asg 5 (xe 32 1 (.v 23))]) (.seq (.run 0 [.asg 24 (.n (.call 0 (.f 316) [(.c (.imm .exact [])),(.c (.int .i64 5)),(.c (.int .i64 0)),(.t 39)]) (.cons 39 (.n
 (.call 0 (.f 353) [(.c (.int .i64 7))]) .nil) .nil)),.asg 25 (xe 38 0 (.v 24)),.asg 6 (xe 38 1 (.v 24))]) (.seq (.run 0 [u9E 26 (.call 2 (.f 353) [(.c (.int
 .i64 3))]) .nil none,.asg 7 (.v 26)]) (.seq (.run 0 [.eff none none (.store 2 (.t 46) (.c (.int .i64 (-2)))) (.cons 46 (xf 72 45 1 (.n (.iaddr 66 (.t 44) (.c (.int .i64 1)))
 (.cons 44 (.v 7) .nil))) .nil) none]) (.seq (.run 0 [u9E 27 (.call 1 (.f 316) [(.c (.imm .exact [])),(.c (.int .i64 5)),(.c (.int .i64 (-1))),(.t 48)]) (.cons
 48 (.v 7) .nil) none,.asg 28 (xe 47 0 (.v 27)),.asg 8 (xe 47 1 (.v 27))]) (.seq (.run 0 [.asg 29 (.n (.call 0 (.f 316) [(.t 53),(.c (.int .i64 4)),(.c (.int .i64 0)),(.t
 54)]) (.cons 53 (.v 2) (.cons 54 (.n (.call 0 (.f 353) [(.c (.int .i64 1))]) .nil) .nil))),.asg 30 (xe 52 0 (.v 29)),.asg 9 (xe 52 1 (.v 29))]) (.seq (.run 0 [.asg 31 (.n
 (.call 0 (.f 318) [(.t 59),(.t 60),(.c (.int .i64 8))]) (.cons 59 (.v 4) (.cons 60 (xl 65 1 (.v 1)) .nil))),.asg 10 (xe 58 0 (.v 31)),.asg 11 (xe 58 1 (.v 31))]) (.seq
 (.run 0 [.asg 32 (.n (.call 0 (.f 318) [(.t 65),(.t 66),(.c (.int .i64 9))]) (.cons 65 (.v 4) (.cons 66 (xl 65 1 (.v 1)) .nil))),.asg 12 (xe 64 0 (.v 32)),.asg 13 (xe 64
 1 (.v 32))]) (.seq (.run 0 [.asg 33 (.n (.call 0 (.f 318) [(.c (.imm .exact [])),(.t 71),(.c (.int .i64 1439))]) (.cons 71 (xl 65 1 (.v 1)) .nil)),.asg 14 (xe 70 0 (.v 33)),
 .asg 15 (xe 70 1 (.v 33))]) (.seq (.run 0 [.asg 34 (.n (.call 0 (.f 334) [(.t 76)]) (.cons 76 (.n (.build 71 []) .nil) .nil)),.asg 35 (xe 75 0 (.v 34)),.asg 16 (xe 75 1 (.v
 34))]) (.seq (.run 0 [.asg 36 (.n (.call 0 (.f 329) [(.t 81)]) (.cons 81 (.v 2) .nil)),u9E 17 (.alloc 73) .nil none,.eff none none (.store 73 (.t 21) (.t 83))
 (.cons 21 (.v 17) (.cons 83 (xe 80 0 (.v 36)) .nil)) none,.asg 18 (xe 80 1 (.v 36))]) (.seq (.run 0 [.asg 37 (.n (.call 0 (.f 329) [(.c (.imm .exact []))]) .nil),u9E 19 (.alloc 73) .nil none,.eff none none (.store 73 (.t 23) (.t 87)) (.cons 23 (.v 19) (.cons 87 (xe 85 0 (.v 37)) .nil)) none,.asg 20 (xe 85 1 (.v 37))]) (.seq (.seq
 (.run 0 [.asg 38 (.ite (.ite (.ite (.ite (.ite (.ite (.ite (.ite (.ite (.ite (.ite (xk .neq 3 89 (.int .i64 0) (.v 3)) (.c (.bool true)) (xk .neq 3 92 (.int .i64 0) (.v 5)))
 (.c (.bool true)) (xk .neq 3 96 (.int .i64 410) (.v 6))) (.c (.bool true)) (xk .neq 3 100 (.int .i64 411) (.v 8))) (.c (.bool true)) (xk .neq 3 104 (.int .i64 410) (.v 9)))
 (.c (.bool true)) (xk .neq 3 108 (.int .i64 0) (.v 11))) (.c (.bool true)) (xk .neq 3 112 (.int .i64 0) (.v 13))) (.c (.bool true)) (xk .neq 3 116 (.int .i64 0) (.v 15))) (.c
 (.bool true)) (xk .neq 3 120 (.int .i64 410) (.v 16))) (.c (.bool true)) (xk .neq 3 124 (.int .i64 0) (.v 18))) (.c (.bool true)) (xk .neq 3 128 (.int .i64 0) (.v 20))) (.c
 (.bool true)) (xk .neq 2 133 (.int .i64 2) (xn 70 132 (.v 4))))]) (.cond 38 (.seq (.run 0 [.asg 0 (.c (.bool false))]) (.ret)) (.skip))) (.seq (.run 0 [.asg 21 (.n (.call 0
 (.f 325) [(.t 136)]) (.cons 136 (.v 4) .nil))]) (.seq (.run 73 [.asg 0 (.ite (.ite (.ite (.ite (.ite (.ite (.ite (.ite (.ite (.ite (.ite (.ite (xk .eql 2 138 (.int .i64 7)
 (.v 10)) (xk .eql 2 141 (.int .i64 5) (.v 12)) (.c (.bool false))) (xk .eql 2 145 (.int .i64 0) (.v 14)) (.c (.bool false))) (xb .eql 73 152 153 (xl 73 151 (xf 71 150 4 (.n
 (.iaddr 70 (.t 149) (.c (.int .i64 1))) (.cons 149 (.v 4) .nil)))) (xl 73 21 (.v 17))) (.c (.bool false))) (xb .eql 73 160 161 (xl 73 159 (xf 71 158 4 (.n (.iaddr 70 (.t 157)
 (.c (.int .i64 0))) (.cons 157 (.v 2) .nil)))) (xl 73 23 (.v 19))) (.c (.bool false))) (xb .eql 73 165 166 (xl 73 23 (.v 19)) (.n (.call 0 (.f 331) [(.c (.str [112,111,115,
 116,105,110,103,115])),(.c (.imm .exact []))]) .nil)) (.c (.bool false))) (xk .eql 2 173 (.int .i64 0) (xl 2 172 (xf 71 171 2 (.n (.iaddr 70 (.t 170) (.c (.int .i64 1)))
 (.cons 170 (.v 4) .nil))))) (.c (.bool false))) (xk .eql 2 180 (.int .i64 1) (xl 2 179 (xf 71 178 0 (.n (.iaddr 70 (.t 177) (.c (.int .i64 1))) (.cons 177 (.v 4) .nil)))))
 (.c (.bool false))) (xk .eql 2 185 (.int .i64 2) (xn 67 184 (.v 21))) (.c (.bool false))) (xb .eql 65 191 192 (xl 65 190 (.n (.iaddr 67 (.t 189) (.c (.int .i64 0))) (.cons
 189 (.v 21) .nil))) (xl 65 1 (.v 1))) (.c (.bool false))) (xk .eql 3 197 (.int .i64 0) (.n (.call 0 (.f 324) [(.t 196)]) (.cons 196 (.v 4) .nil))) (.c (.bool false))) (xk .eql
 3 201 (.int .i64 0) (.n (.call 0 (.f 324) [(.c (.imm .exact []))]) .nil)) (.c (.bool false))) (xk .eql 3 207 (.int .i64 410) (.n (.call 0 (.f 324) [(.t 206)]) (.cons 206 (.n
 (.slice 70 (.t 205) (some (.c (.int .i64 1))) none none) (.cons 205 (.v 4) .nil)) .nil))) (.c (.bool false)))]) (.ret))))))))))))))))))
theorem c314:TF E 314 n314 [(0,none)] t314 210 := zo (F := f314) rfl (by kernel_rfl) (by decide)

def n315:List Nat := [0,2,3,7,16]
def t315:TC := .seq (.run 0 [.asg 1 (.c (.bool false))]) (.seq (.seq (.run 0 [u9A 2 0]) (.block 0 (.loop (.seq (.seq (.run 0 [.asg 3 (xb .lss 2 4 6 (.v 2) (xn 70 5 (.v 0)))])
 (.cond 3 (.skip) (.exit 0))) (.seq (.block 1 (.seq (.run 0 [.asg 4 (xk .gtr 2 15 (.int .i64 20) (xn 66 14 (xl 66 13 (xf 71 12 3 (xi 70 10 11 (.v 0) (.v 2))))))]) (.cond 4 (.seq
 (.run 0 [.asg 1 (.c (.bool false))]) (.ret)) (.skip)))) (.run 0 [.asg 2 (xk .add 2 8 (.int .i64 1) (.v 2))])))))) (.seq (.run 0 [.asg 1 (xk .leq 2 18 (.int .i64 30) (xn 70
 17 (.v 0)))]) (.ret)))
theorem c315:TF E 315 n315 [(1,none)] t315 20 := zo (F := f315) rfl (by kernel_rfl) (by decide)

def n316:List Nat := [0,1,2,3,8,9,10,11,12,13,14,20,24,38,45,49,52,55]
def t316:TC := .seq (.run 0 [.asg 4 (.c (.imm .exact [])),u9A 5 0]) (.seq (.run 0 [.asg 10 (.n (.call 0 (.f 354) [(.t 15)]) (.cons 15 (.v 0) .nil)),u9E 6
 (.alloc 73) .nil none,.eff none none (.store 73 (.t 10) (.t 17)) (.cons 10 (.v 6) (.cons 17 (xe 14 0 (.v 10)) .nil)) none,.asg 5 (xe 14 1 (.v 10))]) (.seq (.seq (.run 0 [.asg
 11 (xk .neq 3 19 (.int .i64 0) (.v 5))]) (.cond 11 (.seq (.run 0 [.asg 4 (.c (.imm .exact [])),.asg 5 (.v 5)]) (.ret)) (.skip))) (.seq (.seq (.run 0 [.asg 12 (xk .eql 2 23
 (.int .i64 65536) (xn 70 22 (.v 0)))]) (.cond 12 (.seq (.run 0 [.asg 4 (.c (.imm .exact [])),u9A 5 2]) (.ret)) (.skip))) (.seq (.seq (.run 0 [.asg 7 (xn
 70 25 (.v 0))]) (.seq (.run 0 [.asg 13 (.ite (xk .gtr 2 27 (.int .i64 0) (.v 7)) (xb .gtr 2 35 36 (xl 2 34 (xf 71 33 1 (xi 70 30 32 (.v 0) (xk .sub 2 31 (.int .i64 1) (.v 7)))))
 (.v 1)) (.c (.bool false)))]) (.cond 13 (.seq (.run 0 [.asg 4 (.c (.imm .exact [])),u9A 5 410]) (.ret)) (.skip)))) (.seq (.run 0 [.asg 14 (.n (.build 71
 [(0,(.t 40)),(1,(.t 41)),(2,(.t 42)),(3,(.t 43)),(4,(.t 44))]) (.cons 40 (xn 70 39 (.v 0)) (.cons 41 (.v 1) (.cons 42 (.v 2) (.cons 43 (.v 3) (.cons 44 (xl 73 10 (.v
 6)) .nil)))))),u9E 8 (.alloc 71) .nil none,.eff none none (.store 71 (.t 12) (.t 45)) (.cons 12 (.v 8) (.cons 45 (.v 14) .nil)) none]) (.seq (.seq (.run 0 [.asg
 9 (.n (.call 0 (.f 355) [(.t 46)]) (.cons 46 (xl 71 12 (.v 8)) .nil))]) (.seq (.run 0 [.asg 15 (xk .neq 3 48 (.int .i64 0) (.v 9))]) (.cond 15 (.seq (.run 0 [.asg 4 (.c (.imm
 .exact [])),.asg 5 (.v 9)]) (.ret)) (.skip)))) (.seq (.run 7 [u9E 16 (.mkcall (.f 356) [(.t 51)]) (.cons 51 (.v 0) .nil) (some 1),u9E 17 (.append
 2 70 70 (.t 52) (.t 54)) (.cons 52 (.v 16) (.cons 54 (.n (.bslice false 70 1 [(0,(.t 53))]) (.cons 53 (xl 71 12 (.v 8)) .nil)) .nil)) (some 4),.asg 4 (.v 17),u9A 5 0]) (.ret))))))))
theorem c316:TF E 316 n316 [(4,none),(5,none)] t316 56 := zo (F := f316) rfl (by kernel_rfl) (by decide)

def n317:List Nat := [0,1,2,3,8,9,10,11,12,13,14,15,21,26,32,50,52,56,59]
def t317:TC := .seq (.run 0 [.asg 4 (.c (.imm .exact [])),u9A 5 0]) (.seq (.run 0 [.asg 11 (.n (.call 0 (.f 357) [(.t 16)]) (.cons 16 (.v 0) .nil)),u9E 6
 (.alloc 73) .nil none,.eff none none (.store 73 (.t 10) (.t 18)) (.cons 10 (.v 6) (.cons 18 (xe 15 0 (.v 11)) .nil)) none,.asg 7 (xe 15 1 (.v 11))]) (.seq (.seq (.run 0 [.asg
 12 (xk .neq 3 20 (.int .i64 0) (.v 7))]) (.cond 12 (.seq (.run 0 [.asg 4 (.c (.imm .exact [])),.asg 5 (.v 7)]) (.ret)) (.skip))) (.seq (.run 0 [.asg 8 (xn 70 23 (.v 0))])
 (.seq (.seq (.run 0 [.asg 13 (xk .geq 2 25 (.int .i64 65536) (.v 8))]) (.cond 13 (.seq (.run 0 [.asg 4 (.c (.imm .exact [])),u9A 5 2]) (.ret)) (.skip)))
 (.seq (.run 0 [.asg 14 (.n (.build 71 [(0,(.t 27)),(1,(.t 28)),(2,(.t 29)),(3,(.t 30)),(4,(.t 31))]) (.cons 27 (.v 8) (.cons 28 (.v 1) (.cons 29 (.v 2) (.cons 30 (.v
 3) (.cons 31 (xl 73 10 (.v 6)) .nil)))))),u9E 9 (.alloc 71) .nil none,.eff none none (.store 71 (.t 13) (.t 32)) (.cons 13 (.v 9) (.cons 32 (.v 14) .nil)) none])
 (.seq (.run 0 [.asg 10 (.n (.call 0 (.f 358) [(.t 33)]) (.cons 33 (xl 71 13 (.v 9)) .nil))]) (.seq (.seq (.run 0 [.asg 15 (.ite (xk .eql 3 35 (.int .i64 410) (.v 10)) (.c (.bool
 true)) (.ite (xk .gtr 2 38 (.int .i64 0) (.v 8)) (xb .gtr 2 46 47 (xl 2 45 (xf 71 44 1 (xi 70 41 43 (.v 0) (xk .sub 2 42 (.int .i64 1) (.v 8))))) (.v 1)) (.c (.bool false))))])
 (.cond 15 (.seq (.run 0 [.asg 4 (.c (.imm .exact [])),u9A 5 410]) (.ret)) (.skip))) (.seq (.seq (.run 0 [.asg 16 (xk .neq 3 51 (.int .i64 0) (.v 10))]) (.cond
 16 (.seq (.run 0 [.asg 4 (.c (.imm .exact [])),.asg 5 (.v 10)]) (.ret)) (.skip))) (.seq (.run 8 [u9E 17 (.append 0 70 70 (.t 54) (.t 55)) (.cons 54 (.n (.bslice
 false 70 0 []) .nil) (.cons 55 (.v 0) .nil)) (some 2),u9E 18 (.append 0 70 70 (.t 56) (.t 58)) (.cons 56 (.v 17) (.cons 58 (.n (.bslice false 70 1 [(0,(.t 57))])
 (.cons 57 (xl 71 13 (.v 9)) .nil)) .nil)) (some 5),.asg 4 (.v 18),u9A 5 0]) (.ret))))))))))
theorem c317:TF E 317 n317 [(4,none),(5,none)] t317 60 := zo (F := f317) rfl (by kernel_rfl) (by decide)

def n318:List Nat := [0,1,2,4,5,6,7,8,9,10,14,17,18,19,28]
def t318:TC := .seq (.run 0 [.asg 3 (.n (.ibox 65 (.t 1)) (.cons 1 (.v 1) .nil)),.asg 4 (.n (.ibox 2 (.t 2)) (.cons 2 (.v 2) .nil)),u9E 5 (.alloc 2) .nil none,u9A 6 0]) (.seq (.seq (.run 0 [.asg 7 (.n (.call 0 (.f 324) [(.t 11)]) (.cons 11 (.v 0) .nil))]) (.seq (.run 0 [.asg 10 (xk .neq 3 13 (.int .i64 0) (.v 7))]) (.cond 10 (.seq
 (.run 0 [.eff none none (.store 2 (.t 6) (.c (.int .i64 0))) (.cons 6 (.v 5) .nil) none,.asg 6 (.v 7)]) (.ret)) (.skip)))) (.seq (.seq (.run 0 [.asg 11 (.n (.call 0 (.f 359)
 [(.t 16)]) (.cons 16 (.v 0) .nil))]) (.block 0 (.rfunc 11 [12,13] (.seq (.run 0 [.asg 8 (.v 12)]) (.run 0 [u9E 9 (.alloc 72) .nil none,.eff none none (.store
 72 (.t 10) (.t 19)) (.cons 10 (.v 9) (.cons 19 (.v 13) .nil)) none])) (.block 1 (.seq (.run 0 [.asg 14 (.ite (xb .leq 2 20 21 (.v 8) (.n (.iload 2 (.t 5)) (.cons 5 (.v 4) .nil)))
 (xb .eql 65 25 26 (xl 65 24 (xf 72 10 0 (.v 9))) (.n (.iload 65 (.t 4)) (.cons 4 (.v 3) .nil))) (.c (.bool false)))]) (.cond 14 (.run 0 [.eff none none (.store 2 (.t 6) (.t
 32)) (.cons 6 (.v 5) (.cons 32 (xb .add 2 29 31 (xl 2 6 (.v 5)) (xl 2 30 (xf 72 10 1 (.v 9)))) .nil)) none]) (.skip))))))) (.seq (.run 0 [.eff none none (.store 2 (.t 6) (.t
 33)) (.cons 6 (.v 5) (.cons 33 (xl 2 6 (.v 5)) .nil)) none,u9A 6 0]) (.ret))))
theorem c318:TF E 318 n318 [(5,some 2),(6,none)] t318 34 := zo (F := f318) rfl (by kernel_rfl) (by decide)

def n319:List Nat := [0,1,2,4,6,7,8,9,10,11,15,20,30,52]
def t319:TC := .seq (.run 0 [.asg 3 (.n (.ibox 65 (.t 1)) (.cons 1 (.v 1) .nil)),u9A 4 0,u9A 5 0]) (.seq (.run 0 [.asg 6 (.n (.call 0 (.f 360) [(.t 12)])
 (.cons 12 (.v 0) .nil))]) (.seq (.seq (.run 0 [.asg 10 (xk .neq 3 14 (.int .i64 0) (.v 6))]) (.cond 10 (.seq (.run 0 [u9A 4 0,.asg 5 (.v 6)]) (.ret)) (.skip)))
 (.seq (.run 0 [u9A 7 0]) (.seq (.seq (.run 0 [u9A 8 0]) (.block 0 (.loop (.seq (.seq (.run 0 [.asg 11 (xb .lss 2 17 19 (.v 8) (xn 70 18
 (.v 0)))]) (.cond 11 (.skip) (.exit 0))) (.seq (.block 1 (.seq (.run 0 [u9A 9 0]) (.block 2 (.loop (.seq (.seq (.run 0 [.asg 12 (xb .lss 2 23 29 (.v 9) (xn
 66 28 (xl 66 27 (xf 71 26 3 (xi 70 24 25 (.v 0) (.v 8))))))]) (.cond 12 (.skip) (.exit 2))) (.seq (.block 3 (.seq (.run 20 [.asg 13 (.ite (xb .leq 2 37 38 (xl 2 36 (xf 71 35
 1 (xi 70 33 34 (.v 0) (.v 8)))) (.v 2)) (xb .eql 65 49 50 (xl 65 48 (xf 72 47 0 (xi 66 45 46 (xl 66 44 (xf 71 43 3 (xi 70 41 42 (.v 0) (.v 8)))) (.v 9)))) (.n (.iload 65 (.t
 4)) (.cons 4 (.v 3) .nil))) (.c (.bool false)))]) (.cond 13 (.run 0 [.asg 7 (xb .add 2 53 62 (.v 7) (xl 2 61 (xf 72 60 1 (xi 66 58 59 (xl 66 57 (xf 71 56 3 (xi 70 54 55 (.v
 0) (.v 8)))) (.v 9)))))]) (.skip)))) (.run 0 [.asg 9 (xk .add 2 31 (.int .i64 1) (.v 9))]))))))) (.run 0 [.asg 8 (xk .add 2 21 (.int .i64 1) (.v 8))])))))) (.seq (.run 0 [.asg
 4 (.v 7),u9A 5 0]) (.ret))))))
theorem c319:TF E 319 n319 [(4,none),(5,none)] t319 65 := zo (F := f319) rfl (by kernel_rfl) (by decide)

def n320:List Nat := [0,1,4,5,10,14,26]
def t320:TC := .seq (.run 0 [.asg 2 (.c (.bool false))]) (.seq (.seq (.run 0 [.asg 4 (xb .neq 2 7 9 (xn 70 6 (.v 0)) (xn 70 8 (.v 1)))]) (.cond 4 (.seq (.run 0 [.asg 2 (.c (.bool false))])
 (.ret)) (.skip))) (.seq (.seq (.run 0 [u9A 3 0]) (.block 0 (.loop (.seq (.seq (.run 0 [.asg 5 (xb .lss 2 11 13 (.v 3) (xn 70 12 (.v 0)))]) (.cond 5 (.skip)
 (.exit 0))) (.seq (.block 1 (.seq (.run 10 [.asg 6 (.n (.un .not (.t 25)) (.cons 25 (.n (.call 0 (.f 337) [(.t 20),(.t 24)]) (.cons 20 (xl 71 19 (xi 70 17 18 (.v 0) (.v 3)))
 (.cons 24 (xl 71 23 (xi 70 21 22 (.v 1) (.v 3))) .nil))) .nil))]) (.cond 6 (.seq (.run 0 [.asg 2 (.c (.bool false))]) (.ret)) (.skip)))) (.run 0 [.asg 3 (xk .add 2 15 (.int
 .i64 1) (.v 3))])))))) (.seq (.run 0 [.asg 2 (.c (.bool true))]) (.ret))))
theorem c320:TF E 320 n320 [(2,none)] t320 27 := zo (F := f320) rfl (by kernel_rfl) (by decide)

def n324:List Nat := [0,2,3,6]
def t324:TC := .seq (.run 0 [u9A 1 0]) (.seq (.run 0 [.asg 2 (.n (.call 0 (.f 354) [(.t 4)]) (.cons 4 (.v 0) .nil)),.asg 3 (xe 3 0 (.v 2)),.asg 1 (xe 3 1 (.v 2))]) (.seq
 (.run 0 [.asg 1 (.v 1)]) (.ret)))
theorem c324:TF E 324 n324 [(1,none)] t324 9 := zo (F := f324) rfl (by kernel_rfl) (by decide)

def n325:List Nat := [0,2,4,6,7,8,13,15,17]
def t325:TC := .seq (.run 0 [u9E 1 (.alloc 67) .nil none]) (.seq (.seq (.run 0 [.asg 3 (.n (.call 0 (.f 359) [(.t 5)]) (.cons 5 (.v 0) .nil))]) (.block 0 (.rfunc 3 [4,5] (.run
 0 [u9E 2 (.alloc 72) .nil none,.eff none none (.store 72 (.t 4) (.t 8)) (.cons 4 (.v 2) (.cons 8 (.v 5) .nil)) none]) (.block 1 (.run 0 [u9E 6 (.append
 2 67 67 (.t 9) (.t 12)) (.cons 9 (xl 67 2 (.v 1)) (.cons 12 (.n (.bslice false 67 1 [(0,(.t 11))]) (.cons 11 (xl 65 10 (xf 72 4 0 (.v 2))) .nil)) .nil)) none,.eff none none
 (.store 67 (.t 2) (.t 13)) (.cons 2 (.v 1) (.cons 13 (.v 6) .nil)) none]))))) (.seq (.run 0 [u9E 7 (.call 2 (.f 361) [(.t 14),(.f 362)]) (.cons 14 (xl 67 2 (.v
 1)) .nil) none]) (.seq (.run 0 [u9E 8 (.call 2 (.f 363) [(.t 16)]) (.cons 16 (xl 67 2 (.v 1)) .nil) none,.eff none none (.store 67 (.t 2) (.t 17)) (.cons 2 (.v
 1) (.cons 17 (.v 8) .nil)) none]) (.ret))))
theorem c325:TF E 325 n325 [(1,some 67)] t325 18 := zo (F := f325) rfl (by kernel_rfl) (by decide)

def n327:List Nat := [0,1,4,5,10,14,25]
def t327:TC := .seq (.run 0 [.asg 2 (.c (.bool false))]) (.seq (.seq (.run 0 [.asg 4 (xb .neq 2 7 9 (xn 66 6 (.v 0)) (xn 66 8 (.v 1)))]) (.cond 4 (.seq (.run 0 [.asg 2 (.c (.bool false))])
 (.ret)) (.skip))) (.seq (.seq (.run 0 [u9A 3 0]) (.block 0 (.loop (.seq (.seq (.run 0 [.asg 5 (xb .lss 2 11 13 (.v 3) (xn 66 12 (.v 0)))]) (.cond 5 (.skip)
 (.exit 0))) (.seq (.block 1 (.seq (.run 9 [.asg 6 (xb .neq 72 20 24 (xl 72 19 (xi 66 17 18 (.v 0) (.v 3))) (xl 72 23 (xi 66 21 22 (.v 1) (.v 3))))]) (.cond 6 (.seq (.run 0
 [.asg 2 (.c (.bool false))]) (.ret)) (.skip)))) (.run 0 [.asg 3 (xk .add 2 15 (.int .i64 1) (.v 3))])))))) (.seq (.run 0 [.asg 2 (.c (.bool true))]) (.ret))))
theorem c327:TF E 327 n327 [(2,none)] t327 26 := zo (F := f327) rfl (by kernel_rfl) (by decide)

def n329:List Nat := [0,2,3,5]
def t329:TC := .seq (.run 0 [u9E 1 (.alloc 73) .nil none,u9A 2 0]) (.seq (.run 0 [.asg 3 (.n (.call 0 (.f 354) [(.t 4)]) (.cons 4 (.v 0) .nil)),.eff none
 none (.store 73 (.t 2) (.t 6)) (.cons 2 (.v 1) (.cons 6 (xe 5 0 (.v 3)) .nil)) none,.asg 2 (xe 5 1 (.v 3))]) (.ret))
theorem c329:TF E 329 n329 [(1,some 73),(2,none)] t329 8 := zo (F := f329) rfl (by kernel_rfl) (by decide)

def n331:List Nat := [0,1,4,5,12]
def t331:TC := .seq (.run 0 [u9E 2 (.alloc 73) .nil none]) (.seq (.run 0 [u9E 3 (.alloc 73) .nil none,.eff none none (.store 73 (.t 5) (.t 8)) (.cons 5 (.v 3) (.cons
 8 (.n (.call 0 (.f 364) [(.t 7)]) (.cons 7 (.n (.s2b 53 30 (.t 6)) (.cons 6 (.v 0) .nil)) .nil)) .nil)) none]) (.seq (.run 0 [u9E 4 (.call 1 (.f 365) [(.t 11)])
 (.cons 11 (.n (.bslice false 74 2 [(0,(.t 9)),(1,(.t 10))]) (.cons 9 (.n (.slice 73 (.t 5) none none none) (.cons 5 (.v 3) .nil)) (.cons 10 (.v 1) .nil))) .nil) none,.eff
 none none (.store 73 (.t 4) (.t 13)) (.cons 4 (.v 2) (.cons 13 (.n (.call 0 (.f 364) [(.t 12)]) (.cons 12 (.v 4) .nil)) .nil)) none]) (.ret)))
theorem c331:TF E 331 n331 [(2,some 73)] t331 14 := zo (F := f331) rfl (by kernel_rfl) (by decide)

def n334:List Nat := [0,1,2,3,4,5,6,8,12,21,22,24,25,26,27,29,43,54,57]
def t334:TC := .seq (.run 0 [.asg 1 (.n (.ibox 71 (.t 0)) (.cons 0 (.v 0) .nil)),.asg 2 (.c (.imm .exact [])),u9A 3 0]) (.seq (.seq (.run 0 [.asg 4 (.n (.call 0 (.f 355)
 [(.t 9)]) (.cons 9 (.n (.iload 71 (.t 1)) (.cons 1 (.v 1) .nil)) .nil))]) (.seq (.run 0 [.asg 8 (xk .neq 3 11 (.int .i64 0) (.v 4))]) (.cond 8 (.seq (.run 0 [.asg 2 (.c (.imm
 .exact [])),.asg 3 (.v 4)]) (.ret)) (.skip)))) (.seq (.run 0 [u9E 9 (.mkcall (.f 366) [(.t 20)]) (.cons 20 (.n (.bslice false 6 3 [(0,(.t 15)),(1,(.t 17)),
 (2,(.t 19))]) (.cons 15 (.n (.iload 2 (.t 14)) (.cons 14 (xf 71 1 0 (.v 1)) .nil)) (.cons 17 (.n (.iload 2 (.t 16)) (.cons 16 (xf 71 1 1 (.v 1)) .nil)) (.cons 19 (.n (.iload
 2 (.t 18)) (.cons 18 (xf 71 1 2 (.v 1)) .nil)) .nil)))) .nil) none,u9E 10 (.mkcall (.f 366) [(.c (.imm .exact []))]) .nil none,u9E 5 (.alloc 55)
 .nil none,u9E 6 (.alloc 55) .nil none,.eff none none (.store 55 (.t 5) (.t 21)) (.cons 5 (.v 5) (.cons 21 (.v 9) .nil)) none,.eff none none (.store 55 (.t 6)
 (.t 22)) (.cons 6 (.v 6) (.cons 22 (.v 10) .nil)) none]) (.seq (.seq (.run 0 [.asg 11 (.n (.iload 66 (.t 23)) (.cons 23 (xf 71 1 3 (.v 1)) .nil)),.asg 12 (xn 66 24 (.v 11)),
 u9A 13 0]) (.block 0 (.loop (.seq (.run 0 [.asg 14 (xb .lss 2 26 25 (.v 13) (.v 12))]) (.seq (.cond 14 (.skip) (.exit 0)) (.seq (.block 1 (.seq (.run 0 [.asg
 15 (xl 72 28 (xi 66 24 26 (.v 11) (.v 13))),u9E 7 (.alloc 72) .nil none,.eff none none (.store 72 (.t 8) (.t 29)) (.cons 8 (.v 7) (.cons 29 (.v 15) .nil)) none])
 (.run 16 [u9E 16 (.append 0 56 56 (.t 31) (.t 42)) (.cons 31 (xl 56 30 (xf 55 6 3 (.v 6))) (.cons 42 (.n (.bslice false 56 1 [(0,(.t 41))]) (.cons 41 (.n (.call
 0 (.f 366) [(.t 40)]) (.cons 40 (.n (.bslice false 6 3 [(0,(.t 34)),(1,(.t 37)),(2,(.t 39))]) (.cons 34 (xl 2 33 (xf 65 32 0 (xf 72 8 0 (.v 7)))) (.cons 37 (xl 2 36 (xf
 65 35 1 (xf 72 8 0 (.v 7)))) (.cons 39 (xl 2 38 (xf 72 8 1 (.v 7))) .nil)))) .nil)) .nil)) .nil)) (some 13),.eff none none (.store 56 (.t 44) (.t 43)) (.cons 44 (xf 55 6 3
 (.v 6)) (.cons 43 (.v 16) .nil)) (some 15)]))) (.run 0 [.asg 13 (xk .add 2 26 (.int .i64 1) (.v 13))]))))))) (.seq (.run 11 [u9E 17 (.append 0 56 56 (.t 47) (.t
 53)) (.cons 47 (xl 56 46 (xf 55 5 3 (.v 5))) (.cons 53 (.n (.bslice false 56 2 [(0,(.t 48)),(1,(.t 52))]) (.cons 48 (xl 55 6 (.v 6)) (.cons 52 (.n (.build 55 [(0,(.c (.int
 .i64 2))),(2,(.t 51))]) (.cons 51 (.n (.b2s 30 53 (.t 50)) (.cons 50 (.n (.slice 73 (.t 49) none none none) (.cons 49 (xf 71 1 4 (.v 1)) .nil)) .nil)) .nil)) .nil))) .nil))
 (some 8),.eff none none (.store 56 (.t 55) (.t 54)) (.cons 55 (xf 55 5 3 (.v 5)) (.cons 54 (.v 17) .nil)) (some 10)]) (.seq (.run 0 [.asg 18 (.n (.call 0 (.f 264) [(.t 56)])
 (.cons 56 (xl 55 5 (.v 5)) .nil)),.asg 2 (xe 57 0 (.v 18)),.asg 3 (xe 57 1 (.v 18))]) (.ret))))))
theorem c334:TF E 334 n334 [(2,none),(3,none)] t334 60 := zo (F := f334) rfl (by kernel_rfl) (by decide)

def n335:List Nat := [0,1,2,3,4]
def t335:TC := .seq (.run 0 [.asg 2 (.n (.ibox 73 (.t 0)) (.cons 0 (.v 0) .nil)),.asg 3 (.n (.ibox 73 (.t 1)) (.cons 1 (.v 1) .nil)),u9E 4 (.alloc 73) .nil none]) (.seq (.run
 6 [.eff none none (.store 73 (.t 4) (.t 9)) (.cons 4 (.v 4) (.cons 9 (.n (.call 0 (.f 331) [(.c (.str [99,104,97,105,110])),(.t 8)]) (.cons 8 (.n (.call 0 (.f 365) [(.t
 7)]) (.cons 7 (.n (.bslice false 74 2 [(0,(.t 5)),(1,(.t 6))]) (.cons 5 (.n (.slice 73 (.t 2) none none none) (.cons 2 (.v 2) .nil)) (.cons 6 (.n (.slice 73 (.t 3) none
 none none) (.cons 3 (.v 3) .nil)) .nil))) .nil)) .nil)) .nil)) (some 5)]) (.ret))
theorem c335:TF E 335 n335 [(4,some 73)] t335 10 := zo (F := f335) rfl (by kernel_rfl) (by decide)

def n337:List Nat := [0,1,2,3,4]
def t337:TC := .seq (.run 0 [.asg 2 (.n (.ibox 71 (.t 0)) (.cons 0 (.v 0) .nil)),.asg 3 (.n (.ibox 71 (.t 1)) (.cons 1 (.v 1) .nil)),.asg 4 (.c (.bool false))]) (.seq (.run 0 [.asg 4 (.ite
 (.ite (.ite (.ite (xb .eql 2 6 8 (.n (.iload 2 (.t 5)) (.cons 5 (xf 71 2 0 (.v 2)) .nil)) (.n (.iload 2 (.t 7)) (.cons 7 (xf 71 3 0 (.v 3)) .nil))) (xb .eql 2 12 14 (.n (.iload
 2 (.t 11)) (.cons 11 (xf 71 2 1 (.v 2)) .nil)) (.n (.iload 2 (.t 13)) (.cons 13 (xf 71 3 1 (.v 3)) .nil))) (.c (.bool false))) (xb .eql 2 19 21 (.n (.iload 2 (.t 18)) (.cons
 18 (xf 71 2 2 (.v 2)) .nil)) (.n (.iload 2 (.t 20)) (.cons 20 (xf 71 3 2 (.v 3)) .nil))) (.c (.bool false))) (xb .eql 73 26 28 (.n (.iload 73 (.t 25)) (.cons 25 (xf 71 2 4
 (.v 2)) .nil)) (.n (.iload 73 (.t 27)) (.cons 27 (xf 71 3 4 (.v 3)) .nil))) (.c (.bool false))) (.n (.call 0 (.f 327) [(.t 33),(.t 35)]) (.cons 33 (.n (.iload 66 (.t 32))
 (.cons 32 (xf 71 2 3 (.v 2)) .nil)) (.cons 35 (.n (.iload 66 (.t 34)) (.cons 34 (xf 71 3 3 (.v 3)) .nil)) .nil))) (.c (.bool false)))]) (.ret))
theorem c337:TF E 337 n337 [(4,none)] t337 38 := zo (F := f337) rfl (by kernel_rfl) (by decide)

def n353:List Nat := [0,2,10]
def t353:TC := .seq (.run 0 [.asg 1 (.c (.imm .exact []))]) (.seq (.run 0 [u9E 2 (.bslice true 66 2 [(0,(.t 5)),(1,(.t 9))]) (.cons 5 (.n (.build 72 [(0,(.t 3)),(1,(.t
 4))]) (.cons 3 (.n (.build 65 [(0,(.c (.int .i64 1))),(1,(.c (.int .i64 3)))]) .nil) (.cons 4 (.v 0) .nil))) (.cons 9 (.n (.build 72 [(0,(.t 6)),(1,(.t 8))]) (.cons 6
 (.n (.build 65 [(0,(.c (.int .i64 4)))]) .nil) (.cons 8 (.n (.un .neg (.t 7)) (.cons 7 (.v 0) .nil)) .nil))) .nil)) none,.asg 1 (.v 2)]) (.ret))
theorem c353:TF E 353 n353 [(1,none)] t353 11 := zo (F := f353) rfl (by kernel_rfl) (by decide)

def n354:List Nat := [0,2,3,5,6,7,8,9,10,14,16,17,18,19,21,25,30,31,32,33,36,61,63,67]
def t354:TC := .seq (.run 0 [u9E 1 (.alloc 73) .nil none,u9A 2 0]) (.seq (.seq (.run 0 [.asg 9 (xk .gtr 2 13 (.int .i64 65536) (xn 70 12 (.v 0)))]) (.cond
 9 (.seq (.run 0 [.eff none none (.store 73 (.t 2) (.t 15)) (.cons 2 (.v 1) (.cons 15 (xl 73 2 (.v 1)) .nil)) none,u9A 2 2]) (.ret)) (.skip))) (.seq (.seq
 (.run 0 [.asg 10 (.v 0),.asg 11 (xn 70 16 (.v 10)),u9A 12 0]) (.block 0 (.loop (.seq (.run 0 [.asg 13 (xb .lss 2 18 17 (.v 12) (.v 11))]) (.seq (.cond 13
 (.skip) (.exit 0)) (.seq (.block 1 (.seq (.run 0 [.asg 14 (xl 71 20 (xi 70 16 18 (.v 10) (.v 12))),u9E 3 (.alloc 71) .nil none,.eff none none (.store 71 (.t
 5) (.t 21)) (.cons 5 (.v 3) (.cons 21 (.v 14) .nil)) none]) (.seq (.run 0 [.asg 4 (.n (.call 0 (.f 355) [(.t 22)]) (.cons 22 (xl 71 5 (.v 3)) .nil))]) (.seq (.run 0 [.asg 15
 (xk .neq 3 24 (.int .i64 0) (.v 4))]) (.cond 15 (.seq (.run 0 [.eff none none (.store 73 (.t 2) (.t 26)) (.cons 2 (.v 1) (.cons 26 (xl 73 2 (.v 1)) .nil)) none,.asg 2 (.v
 4)]) (.ret)) (.skip)))))) (.run 0 [.asg 12 (xk .add 2 18 (.int .i64 1) (.v 12))]))))))) (.seq (.run 0 [u9E 5 (.alloc 73) .nil none,.eff none none (.store 73 (.t
 7) (.t 29)) (.cons 7 (.v 5) (.cons 29 (.n (.call 0 (.f 331) [(.c (.str [112,111,115,116,105,110,103,115])),(.c (.imm .exact []))]) .nil) .nil)) none]) (.seq (.seq (.run
 0 [.asg 16 (.v 0),.asg 17 (xn 70 30 (.v 16)),u9A 18 0]) (.block 2 (.loop (.seq (.run 0 [.asg 19 (xb .lss 2 32 31 (.v 18) (.v 17))]) (.seq (.cond 19 (.skip)
 (.exit 2)) (.seq (.block 3 (.seq (.run 0 [.asg 20 (xl 71 35 (xi 70 30 32 (.v 16) (.v 18))),u9E 7 (.alloc 71) .nil none,.asg 6 (.v 18),.eff none none (.store
 71 (.t 9) (.t 36)) (.cons 9 (.v 7) (.cons 36 (.v 20) .nil)) none]) (.seq (.seq (.run 25 [.asg 21 (.ite (.ite (xb .neq 2 38 39 (xl 2 37 (xf 71 9 0 (.v 7))) (.v 6)) (.c (.bool
 true)) (.ite (xk .gtr 2 42 (.int .i64 0) (.v 6)) (xb .gtr 2 50 52 (xl 2 49 (xf 71 48 1 (xi 70 45 47 (.v 0) (xk .sub 2 46 (.int .i64 1) (.v 6))))) (xl 2 51 (xf 71 9 1 (.v 7))))
 (.c (.bool false)))) (.c (.bool true)) (xb .neq 73 58 59 (xl 73 57 (xf 71 9 4 (.v 7))) (xl 73 7 (.v 5))))]) (.cond 21 (.seq (.run 0 [.eff none none (.store 73 (.t 2) (.t 62))
 (.cons 2 (.v 1) (.cons 62 (xl 73 2 (.v 1)) .nil)) none,u9A 2 410]) (.ret)) (.skip))) (.seq (.run 0 [.asg 22 (.n (.call 0 (.f 334) [(.t 64)]) (.cons 64 (xl
 71 9 (.v 7)) .nil)),.asg 23 (xe 63 1 (.v 22)),.asg 8 (xe 63 0 (.v 22))]) (.run 5 [.eff none none (.store 73 (.t 7) (.t 71)) (.cons 7 (.v 5) (.cons 71 (.n (.call 0 (.f 335)
 [(.t 68),(.t 70)]) (.cons 68 (xl 73 7 (.v 5)) (.cons 70 (.n (.call 0 (.f 331) [(.c (.str [112,111,115,116,105,110,103])),(.t 69)]) (.cons 69 (.v 8) .nil)) .nil))) .nil))
 (some 4)]))))) (.run 0 [.asg 18 (xk .add 2 32 (.int .i64 1) (.v 18))]))))))) (.seq (.run 0 [.eff none none (.store 73 (.t 2) (.t 73)) (.cons 2 (.v 1) (.cons 73 (xl 73 7 (.v
 5)) .nil)) none,u9A 2 0]) (.ret))))))
theorem c354:TF E 354 n354 [(1,some 73),(2,none)] t354 74 := zo (F := f354) rfl (by kernel_rfl) (by decide)

def n355:List Nat := [0,1,2,3,4,5,47,49,50,51,52,55,92,107,114]
def t355:TC := .seq (.run 0 [.asg 1 (.n (.ibox 71 (.t 0)) (.cons 0 (.v 0) .nil)),u9A 2 0]) (.seq (.seq (.run 0 [.asg 6 (.ite (.ite (.ite (.ite (.ite (.ite (.ite (xk .lss
 2 7 (.int .i64 0) (.n (.iload 2 (.t 6)) (.cons 6 (xf 71 1 0 (.v 1)) .nil))) (.c (.bool true)) (xk .geq 2 11 (.int .i64 65536) (.n (.iload 2 (.t 10)) (.cons 10 (xf 71 1 0 (.v
 1)) .nil)))) (.c (.bool true)) (xk .lss 2 16 (.int .i64 0) (.n (.iload 2 (.t 15)) (.cons 15 (xf 71 1 1 (.v 1)) .nil)))) (.c (.bool true)) (xk .geq 2 21 (.int .i64 1440) (.n
 (.iload 2 (.t 20)) (.cons 20 (xf 71 1 1 (.v 1)) .nil)))) (.c (.bool true)) (xk .lss 2 26 (.int .i64 (-1)) (.n (.iload 2 (.t 25)) (.cons 25 (xf 71 1 2 (.v 1)) .nil)))) (.c (.bool
 true)) (xb .geq 2 31 33 (.n (.iload 2 (.t 30)) (.cons 30 (xf 71 1 2 (.v 1)) .nil)) (.n (.iload 2 (.t 32)) (.cons 32 (xf 71 1 0 (.v 1)) .nil)))) (.c (.bool true)) (xk .lss 2
 39 (.int .i64 2) (xn 66 38 (.n (.iload 66 (.t 37)) (.cons 37 (xf 71 1 3 (.v 1)) .nil))))) (.c (.bool true)) (xk .gtr 2 45 (.int .i64 4096) (xn 66 44 (.n (.iload 66 (.t 43))
 (.cons 43 (xf 71 1 3 (.v 1)) .nil)))))]) (.cond 6 (.seq (.run 0 [u9A 2 410]) (.ret)) (.skip))) (.seq (.run 0 [u9A 3 0]) (.seq (.seq (.run
 0 [.asg 7 (.n (.iload 66 (.t 48)) (.cons 48 (xf 71 1 3 (.v 1)) .nil)),.asg 8 (xn 66 49 (.v 7)),u9A 9 0]) (.block 0 (.loop (.seq (.run 0 [.asg 10 (xb .lss
 2 51 50 (.v 9) (.v 8))]) (.seq (.cond 10 (.skip) (.exit 0)) (.seq (.block 1 (.seq (.run 0 [.asg 11 (xl 72 54 (xi 66 49 51 (.v 7) (.v 9))),u9E 5 (.alloc 72) .nil
 none,.asg 4 (.v 9),.eff none none (.store 72 (.t 5) (.t 55)) (.cons 5 (.v 5) (.cons 55 (.v 11) .nil)) none]) (.seq (.seq (.run 0 [.asg 12 (.ite (.ite (.ite (.ite (.ite (.ite
 (xk .lss 2 58 (.int .i64 1) (xl 2 57 (xf 65 56 0 (xf 72 5 0 (.v 5))))) (.c (.bool true)) (xk .gtr 2 63 (.int .i64 5) (xl 2 62 (xf 65 61 0 (xf 72 5 0 (.v 5)))))) (.c (.bool
 true)) (xk .lss 2 69 (.int .i64 (-1)) (xl 2 68 (xf 65 67 1 (xf 72 5 0 (.v 5)))))) (.c (.bool true)) (xk .gtr 2 75 (.int .i64 4095) (xl 2 74 (xf 65 73 1 (xf 72 5 0 (.v 5))))))
 (.c (.bool true)) (xk .eql 2 80 (.int .i64 0) (xl 2 79 (xf 72 5 1 (.v 5))))) (.c (.bool true)) (xk .lss 2 85 (.int .i64 (-1099511627776)) (xl 2 84 (xf 72 5 1 (.v 5))))) (.c
 (.bool true)) (xk .gtr 2 90 (.int .i64 1099511627776) (xl 2 89 (xf 72 5 1 (.v 5)))))]) (.cond 12 (.seq (.run 0 [u9A 2 410]) (.ret)) (.skip))) (.seq (.seq
 (.run 15 [.asg 13 (.ite (xk .gtr 2 93 (.int .i64 0) (.v 4)) (xk .geq 2 105 (.int .i64 0) (.n (.call 0 (.f 362) [(.t 102),(.t 104)]) (.cons 102 (xl 65 101 (xf 72 100 0 (xi
 66 97 99 (.n (.iload 66 (.t 96)) (.cons 96 (xf 71 1 3 (.v 1)) .nil)) (xk .sub 2 98 (.int .i64 1) (.v 4))))) (.cons 104 (xl 65 103 (xf 72 5 0 (.v 5))) .nil)))) (.c (.bool false)))])
 (.cond 13 (.seq (.run 0 [u9A 2 410]) (.ret)) (.skip))) (.run 0 [.asg 3 (xb .add 2 108 110 (.v 3) (xl 2 109 (xf 72 5 1 (.v 5))))]))))) (.run 0 [.asg 9 (xk
 .add 2 51 (.int .i64 1) (.v 9))]))))))) (.seq (.seq (.run 0 [.asg 14 (xk .neq 2 113 (.int .i64 0) (.v 3))]) (.cond 14 (.seq (.run 0 [u9A 2 411]) (.ret)) (.skip)))
 (.seq (.run 0 [u9A 2 0]) (.ret))))))
theorem c355:TF E 355 n355 [(2,none)] t355 115 := zo (F := f355) rfl (by kernel_rfl) (by decide)

def n356:List Nat := [0,2,7]
def t356:TC := .seq (.run 0 [.asg 1 (.c (.imm .exact []))]) (.seq (.run 0 [u9E 2 (.append 1 70 70 (.t 5) (.t 6)) (.cons 5 (.n (.bslice false 70 0 []) .nil) (.cons 6 (.v 0) .nil))
 none,.asg 1 (.v 2)]) (.ret))
theorem c356:TF E 356 n356 [(1,none)] t356 8 := zo (F := f356) rfl (by kernel_rfl) (by decide)

def n357:List Nat := [0,2,3,4,5,6,10,17]
def t357:TC := .seq (.run 0 [u9E 1 (.alloc 73) .nil none,u9A 2 0]) (.seq (.run 0 [.asg 3 (.n (.call 0 (.f 360) [(.t 7)]) (.cons 7 (.v 0) .nil))]) (.seq (.seq
 (.run 0 [.asg 6 (xk .neq 3 9 (.int .i64 0) (.v 3))]) (.cond 6 (.seq (.run 0 [.eff none none (.store 73 (.t 2) (.t 11)) (.cons 2 (.v 1) (.cons 11 (.n (.build 73 []) .nil) .nil))
 none,.asg 2 (.v 3)]) (.ret)) (.skip))) (.seq (.run 0 [u9E 4 (.alloc 73) .nil none,.eff none none (.store 73 (.t 5) (.t 13)) (.cons 5 (.v 4) (.cons 13 (.n (.call
 0 (.f 376) []) .nil) .nil)) none]) (.seq (.seq (.run 0 [u9A 5 0]) (.block 0 (.loop (.seq (.seq (.run 0 [.asg 7 (xb .lss 2 14 16 (.v 5) (xn 70 15 (.v 0)))])
 (.cond 7 (.skip) (.exit 0))) (.seq (.block 1 (.run 7 [.eff none none (.store 73 (.t 5) (.t 25)) (.cons 5 (.v 4) (.cons 25 (.n (.call 0 (.f 377) [(.t 20),(.t 24)]) (.cons 20
 (xl 73 5 (.v 4)) (.cons 24 (xl 71 23 (xi 70 21 22 (.v 0) (.v 5))) .nil))) .nil)) (some 6)])) (.run 0 [.asg 5 (xk .add 2 18 (.int .i64 1) (.v 5))])))))) (.seq (.run 0 [.eff
 none none (.store 73 (.t 2) (.t 26)) (.cons 2 (.v 1) (.cons 26 (xl 73 5 (.v 4)) .nil)) none,u9A 2 0]) (.ret))))))
theorem c357:TF E 357 n357 [(1,some 73),(2,none)] t357 27 := zo (F := f357) rfl (by kernel_rfl) (by decide)

def n358:List Nat := [0,1,2,38,42]
def t358:TC := .seq (.run 0 [.asg 1 (.n (.ibox 71 (.t 0)) (.cons 0 (.v 0) .nil)),u9A 2 0]) (.seq (.seq (.run 0 [.asg 3 (.ite (.ite (.ite (.ite (.ite (.ite (xk .lss 2 4
 (.int .i64 0) (.n (.iload 2 (.t 3)) (.cons 3 (xf 71 1 0 (.v 1)) .nil))) (.c (.bool true)) (xk .gtr 2 8 (.int .i64 65535) (.n (.iload 2 (.t 7)) (.cons 7 (xf 71 1 0 (.v 1)) .nil))))
 (.c (.bool true)) (xk .lss 2 13 (.int .i64 0) (.n (.iload 2 (.t 12)) (.cons 12 (xf 71 1 1 (.v 1)) .nil)))) (.c (.bool true)) (xk .geq 2 18 (.int .i64 1440) (.n (.iload 2 (.t
 17)) (.cons 17 (xf 71 1 1 (.v 1)) .nil)))) (.c (.bool true)) (xk .lss 2 23 (.int .i64 (-1)) (.n (.iload 2 (.t 22)) (.cons 22 (xf 71 1 2 (.v 1)) .nil)))) (.c (.bool true)) (xb
 .geq 2 28 30 (.n (.iload 2 (.t 27)) (.cons 27 (xf 71 1 2 (.v 1)) .nil)) (.n (.iload 2 (.t 29)) (.cons 29 (xf 71 1 0 (.v 1)) .nil)))) (.c (.bool true)) (.n (.un .not (.t 36))
 (.cons 36 (.n (.call 0 (.f 378) [(.t 35)]) (.cons 35 (.n (.iload 66 (.t 34)) (.cons 34 (xf 71 1 3 (.v 1)) .nil)) .nil)) .nil)))]) (.cond 3 (.seq (.run 0 [u9A 2 410]) (.ret)) (.skip))) (.seq (.seq (.run 0 [.asg 4 (xk .neq 2 41 (.int .i64 0) (.n (.call 0 (.f 379) [(.t 40)]) (.cons 40 (.n (.iload 66 (.t 39)) (.cons 39 (xf 71 1 3 (.v
 1)) .nil)) .nil)))]) (.cond 4 (.seq (.run 0 [u9A 2 411]) (.ret)) (.skip))) (.seq (.run 0 [u9A 2 0]) (.ret))))
theorem c358:TF E 358 n358 [(2,none)] t358 43 := zo (F := f358) rfl (by kernel_rfl) (by decide)

def n359:List Nat := [0,1,2]
def t359:TC := .seq (.run 0 [.asg 1 (.n (.ibox 70 (.t 0)) (.cons 0 (.v 0) .nil)),.asg 2 (.c .nilfn)]) (.seq (.run 0 [.asg 2 (.n (.mkfn 380 [(.t 1)]) (.cons 1 (.v 1) .nil))]) (.ret))
theorem c359:TF E 359 n359 [(2,none)] t359 4 := zo (F := f359) rfl (by kernel_rfl) (by decide)

def n360:List Nat := [0,2,3,4,5,6,9,13,22,28,64]
def t360:TC := .seq (.run 0 [u9A 1 0]) (.seq (.seq (.run 0 [.asg 6 (xk .gtr 2 8 (.int .i64 65536) (xn 70 7 (.v 0)))]) (.cond 6 (.seq (.run 0 [u9A 1 2])
 (.ret)) (.skip))) (.seq (.seq (.run 0 [u9A 2 0]) (.block 0 (.loop (.seq (.seq (.run 0 [.asg 7 (xb .lss 2 10 12 (.v 2) (xn 70 11 (.v 0)))]) (.cond 7 (.skip)
 (.exit 0))) (.seq (.block 1 (.seq (.run 0 [.asg 3 (.n (.call 0 (.f 358) [(.t 19)]) (.cons 19 (xl 71 18 (xi 70 16 17 (.v 0) (.v 2))) .nil))]) (.seq (.run 0 [.asg 8 (xk .neq
 3 21 (.int .i64 0) (.v 3))]) (.cond 8 (.seq (.run 0 [.asg 1 (.v 3)]) (.ret)) (.skip))))) (.run 0 [.asg 2 (xk .add 2 14 (.int .i64 1) (.v 2))])))))) (.seq (.run 0 [u9E 4 (.alloc 73) .nil none,.eff none none (.store 73 (.t 5) (.t 24)) (.cons 5 (.v 4) (.cons 24 (.n (.call 0 (.f 376) []) .nil) .nil)) none]) (.seq (.seq (.run 0 [u9A 5 0]) (.block 2 (.loop (.seq (.seq (.run 0 [.asg 9 (xb .lss 2 25 27 (.v 5) (xn 70 26 (.v 0)))]) (.cond 9 (.skip) (.exit 2))) (.seq (.block 3 (.seq (.seq (.run
 34 [.asg 10 (.ite (.ite (xb .neq 2 35 36 (xl 2 34 (xf 71 33 0 (xi 70 31 32 (.v 0) (.v 5)))) (.v 5)) (.c (.bool true)) (.ite (xk .gtr 2 39 (.int .i64 0) (.v 5)) (xb .gtr 2 47
 52 (xl 2 46 (xf 71 45 1 (xi 70 42 44 (.v 0) (xk .sub 2 43 (.int .i64 1) (.v 5))))) (xl 2 51 (xf 71 50 1 (xi 70 48 49 (.v 0) (.v 5))))) (.c (.bool false)))) (.c (.bool true))
 (xb .neq 73 61 62 (xl 73 60 (xf 71 59 4 (xi 70 57 58 (.v 0) (.v 5)))) (xl 73 5 (.v 4))))]) (.cond 10 (.seq (.run 0 [u9A 1 410]) (.ret)) (.skip))) (.run 7
 [.eff none none (.store 73 (.t 5) (.t 70)) (.cons 5 (.v 4) (.cons 70 (.n (.call 0 (.f 377) [(.t 65),(.t 69)]) (.cons 65 (xl 73 5 (.v 4)) (.cons 69 (xl 71 68 (xi 70 66 67 (.v
 0) (.v 5))) .nil))) .nil)) (some 6)]))) (.run 0 [.asg 5 (xk .add 2 29 (.int .i64 1) (.v 5))])))))) (.seq (.run 0 [u9A 1 0]) (.ret))))))
theorem c360:TF E 360 n360 [(1,none)] t360 71 := zo (F := f360) rfl (by kernel_rfl) (by decide)

def n362:List Nat := [0,1,2,3,4]
def t362:TC := .seq (.run 0 [.asg 2 (.n (.ibox 65 (.t 0)) (.cons 0 (.v 0) .nil)),.asg 3 (.n (.ibox 65 (.t 1)) (.cons 1 (.v 1) .nil)),u9A 4 0]) (.seq (.run 13 [.asg 4 (.n
 (.call 0 (.f 105) [(.t 15)]) (.cons 15 (.n (.bslice false 6 2 [(0,(.t 9)),(1,(.t 14))]) (.cons 9 (.n (.call 0 (.f 74) [(.t 6),(.t 8)]) (.cons 6 (.n (.iload 2 (.t 5)) (.cons
 5 (xf 65 2 0 (.v 2)) .nil)) (.cons 8 (.n (.iload 2 (.t 7)) (.cons 7 (xf 65 3 0 (.v 3)) .nil)) .nil))) (.cons 14 (.n (.call 0 (.f 74) [(.t 11),(.t 13)]) (.cons 11 (.n (.iload
 2 (.t 10)) (.cons 10 (xf 65 2 1 (.v 2)) .nil)) (.cons 13 (.n (.iload 2 (.t 12)) (.cons 12 (xf 65 3 1 (.v 3)) .nil)) .nil))) .nil))) .nil))]) (.ret))
theorem c362:TF E 362 n362 [(4,none)] t362 17 := zo (F := f362) rfl (by kernel_rfl) (by decide)

def n363:List Nat := [0,2,3,4,5,8,13,25,32,44,59]
def t363:TC := .seq (.run 0 [.asg 1 (.c (.imm .exact []))]) (.seq (.seq (.run 0 [.asg 5 (xk .lss 2 7 (.int .i64 2) (xn 67 6 (.v 0)))]) (.cond 5 (.seq (.run 0 [.asg 1 (.v 0)]) (.ret)) (.skip)))
 (.seq (.seq (.run 0 [u9A 2 1]) (.block 0 (.loop (.seq (.seq (.run 0 [.asg 6 (xb .lss 2 10 12 (.v 2) (xn 67 11 (.v 0)))]) (.cond 6 (.skip) (.exit 0))) (.seq
 (.block 1 (.seq (.run 10 [.asg 7 (xb .eql 65 19 24 (xl 65 18 (xi 67 16 17 (.v 0) (.v 2))) (xl 65 23 (xi 67 20 22 (.v 0) (xk .sub 2 21 (.int .i64 1) (.v 2)))))]) (.cond 7 (.seq
 (.run 0 [.asg 3 (.n (.slice 67 (.t 26) (some (.t 27)) none none) (.cons 26 (.v 0) (.cons 27 (.v 2) .nil)))]) (.seq (.seq (.run 0 [u9A 4 1]) (.block 2 (.loop
 (.seq (.seq (.run 0 [.asg 8 (xb .lss 2 29 31 (.v 4) (xn 67 30 (.v 3)))]) (.cond 8 (.skip) (.exit 2))) (.seq (.block 3 (.seq (.run 10 [.asg 9 (xb .neq 65 38 43 (xl 65 37 (xi
 67 35 36 (.v 3) (.v 4))) (xl 65 42 (xi 67 39 41 (.v 3) (xk .sub 2 40 (.int .i64 1) (.v 4)))))]) (.cond 9 (.seq (.run 0 [.eff none none (.store 65 (.t 51) (.t 50)) (.cons 51
 (xi 67 45 46 (.v 0) (.v 2)) (.cons 50 (xl 65 49 (xi 67 47 48 (.v 3) (.v 4))) .nil)) none]) (.run 0 [.asg 2 (xk .add 2 52 (.int .i64 1) (.v 2))])) (.skip)))) (.run 0 [.asg 4
 (xk .add 2 33 (.int .i64 1) (.v 4))])))))) (.seq (.run 0 [.eff none none (.clr 67 (.t 56)) (.cons 56 (.n (.slice 67 (.t 54) (some (.t 55)) none none) (.cons 54 (.v 0) (.cons
 55 (.v 2) .nil))) .nil) none]) (.seq (.run 0 [u9E 10 (.reslice 67 (.t 57) (.t 58)) (.cons 57 (.v 0) (.cons 58 (.v 2) .nil)) none,.asg 1 (.v 10)]) (.ret))))) (.skip))))
 (.run 0 [.asg 2 (xk .add 2 14 (.int .i64 1) (.v 2))])))))) (.seq (.run 0 [.asg 1 (.v 0)]) (.ret))))
theorem c363:TF E 363 n363 [(1,none)] t363 61 := zo (F := f363) rfl (by kernel_rfl) (by decide)

def n364:List Nat := [0,2,3,4,5,6,7,8,9,14,20,21,24,31,33,43,46,52,53,54,55,66]
def t364:TC := .seq (.run 0 [u9E 1 (.alloc 73) .nil none]) (.seq (.run 0 [.asg 8 (.n (.load 76 (.c (.iptr [(.int .u32 1779033703),(.int .u32 3144134277),(.int .u32 1013904242),
 (.int .u32 2773480762),(.int .u32 1359893119),(.int .u32 2600822924),(.int .u32 528734635),(.int .u32 1541459225)]))) .nil),u9E 2 (.alloc 77) .nil none,.eff
 none none (.store 77 (.t 3) (.t 9)) (.cons 3 (.v 2) (.cons 9 (.v 8) .nil)) none]) (.seq (.run 0 [.asg 3 (.n (.mkbfn 404 (.t 3)) (.cons 3 (.v 2) .nil))]) (.seq (.run 0 [.asg
 4 (.v 0)]) (.seq (.block 0 (.loop (.seq (.seq (.run 0 [.asg 9 (xk .geq 2 13 (.int .i64 64) (xn 30 12 (.v 4)))]) (.cond 9 (.skip) (.exit 0))) (.seq (.block 1 (.run 0 [u9E 10 (.call 2 (.t 17) [(.t 19)]) (.cons 17 (.v 3) (.cons 19 (.n (.slice 30 (.t 18) none (some (.c (.int .i64 64))) none) (.cons 18 (.v 4) .nil)) .nil)) none])) (.run 0
 [.asg 4 (.n (.slice 30 (.t 15) (some (.c (.int .i64 64))) none none) (.cons 15 (.v 4) .nil))]))))) (.seq (.run 0 [u9E 11 (.mkcap 30 (.c (.int .i64 64)) (.c (.int
 .i64 128))) .nil none,.asg 5 (.v 11)]) (.seq (.run 0 [u9E 12 (.copy 30 30 (.t 22) (.t 23)) (.cons 22 (.v 5) (.cons 23 (.v 4) .nil)) none]) (.seq (.run 0 [.eff
 none none (.store 13 (.t 28) (.c (.int .u8 128))) (.cons 28 (xi 30 25 27 (.v 5) (xn 30 26 (.v 4))) .nil) none]) (.seq (.seq (.run 0 [.asg 13 (xk .gtr 2 30 (.int .i64 55) (xn
 30 29 (.v 4)))]) (.cond 13 (.run 0 [u9E 14 (.reslice 30 (.t 32) (.c (.int .i64 128))) (.cons 32 (.v 5) .nil) none,.asg 5 (.v 14)]) (.skip))) (.seq (.run 0 [u9E 15 (.call 2 (.f 383) [(.t 38),(.t 42)]) (.cons 38 (.n (.slice 30 (.t 34) (some (.t 37)) none none) (.cons 34 (.v 5) (.cons 37 (xk .sub 2 36 (.int .i64 8) (xn 30
 35 (.v 5))) .nil))) (.cons 42 (xk .mul 63 41 (.int .u64 8) (.n (.conv 2 63 (.t 40)) (.cons 40 (xn 30 39 (.v 0)) .nil))) .nil)) none]) (.seq (.block 2 (.loop (.seq (.seq (.run
 0 [.asg 16 (xk .gtr 2 45 (.int .i64 0) (xn 30 44 (.v 5)))]) (.cond 16 (.skip) (.exit 2))) (.seq (.block 3 (.run 0 [u9E 17 (.call 2 (.t 49) [(.t 51)]) (.cons 49
 (.v 3) (.cons 51 (.n (.slice 30 (.t 50) none (some (.c (.int .i64 64))) none) (.cons 50 (.v 5) .nil)) .nil)) none])) (.run 0 [.asg 5 (.n (.slice 30 (.t 47) (some (.c (.int
 .i64 64))) none none) (.cons 47 (.v 5) .nil))]))))) (.seq (.seq (.run 0 [.asg 18 (xl 77 3 (.v 2)),u9A 19 0]) (.block 4 (.loop (.seq (.run 0 [.asg 20 (xk
 .lss 2 54 (.int .i64 8) (.v 19))]) (.seq (.cond 20 (.skip) (.exit 4)) (.seq (.block 5 (.seq (.run 0 [.asg 6 (.v 19),.asg 7 (.n (.index 77 (.t 53) (.t 54)) (.cons 53 (.v 18)
 (.cons 54 (.v 19) .nil)))]) (.run 0 [u9E 21 (.call 2 (.f 383) [(.t 63),(.t 65)]) (.cons 63 (.n (.slice 73 (.t 2) (some (.t 59)) (some (.t 62)) none) (.cons 2
 (.v 1) (.cons 59 (.n (.bin .mul 2 (.c (.int .i64 4)) (.t 58)) (.cons 58 (.v 6) .nil)) (.cons 62 (xk .add 2 61 (.int .i64 4) (.n (.bin .mul 2 (.c (.int .i64 4)) (.t 60)) (.cons
 60 (.v 6) .nil))) .nil)))) (.cons 65 (.n (.conv 78 63 (.t 64)) (.cons 64 (.v 7) .nil)) .nil)) none]))) (.run 0 [.asg 19 (xk .add 2 54 (.int .i64 1) (.v 19))]))))))) (.seq (.run
 0 [.eff none none (.store 73 (.t 2) (.t 68)) (.cons 2 (.v 1) (.cons 68 (xl 73 2 (.v 1)) .nil)) none]) (.ret)))))))))))))
theorem c364:TF E 364 n364 [(1,some 73)] t364 69 := zo (F := f364) rfl (by kernel_rfl) (by decide)

def n365:List Nat := [0,2,3,5,6,8,9,10,11,12,20,24,25,26,27,28,33]
def t365:TC := .seq (.run 0 [.asg 1 (.c (.imm .exact []))]) (.seq (.run 0 [u9A 2 0]) (.seq (.seq (.run 0 [.asg 6 (.v 0),.asg 7 (xn 74 9 (.v 6)),u9A 8 0])
 (.block 0 (.loop (.seq (.run 0 [.asg 9 (xb .lss 2 11 10 (.v 8) (.v 7))]) (.seq (.cond 9 (.skip) (.exit 0)) (.seq (.block 1 (.seq (.run 0 [.asg 3 (xl 30 13 (xi 74 9 11 (.v 6)
 (.v 8)))]) (.seq (.run 0 [.asg 2 (xb .add 2 15 17 (.v 2) (xn 30 16 (.v 3)))]) (.seq (.run 0 [.asg 10 (xk .lss 2 19 (.int .i64 0) (.v 2))]) (.cond 10 (.dead) (.skip)))))) (.run
 0 [.asg 8 (xk .add 2 11 (.int .i64 1) (.v 8))]))))))) (.seq (.run 0 [u9E 11 (.call 2 (.f 384) [(.c (.imm .exact [])),(.t 23)]) (.cons 23 (.v 2) .nil) none,.asg
 4 (.v 11)]) (.seq (.seq (.run 0 [.asg 12 (.v 0),.asg 13 (xn 74 25 (.v 12)),u9A 14 0]) (.block 2 (.loop (.seq (.run 0 [.asg 15 (xb .lss 2 27 26 (.v 14) (.v
 13))]) (.seq (.cond 15 (.skip) (.exit 2)) (.seq (.block 3 (.seq (.run 0 [.asg 5 (xl 30 29 (xi 74 25 27 (.v 12) (.v 14)))]) (.run 0 [u9E 16 (.append 0 30 30 (.t
 31) (.t 32)) (.cons 31 (.v 4) (.cons 32 (.v 5) .nil)) none,.asg 4 (.v 16)]))) (.run 0 [.asg 14 (xk .add 2 27 (.int .i64 1) (.v 14))]))))))) (.seq (.run 0 [.asg 1 (.v 4)])
 (.ret))))))
theorem c365:TF E 365 n365 [(1,none)] t365 36 := zo (F := f365) rfl (by kernel_rfl) (by decide)

def n366:List Nat := [0,2,3,5,7,8,9,10,18]
def t366:TC := .seq (.run 0 [u9E 1 (.alloc 55) .nil none]) (.seq (.run 0 [u9E 2 (.alloc 55) .nil none,.eff none none (.store 55 (.t 3) (.t 6)) (.cons 3 (.v 2) (.cons
 6 (.n (.build 55 [(0,(.c (.int .i64 3)))]) .nil) .nil)) none]) (.seq (.seq (.run 0 [.asg 4 (.v 0),.asg 5 (xn 6 7 (.v 4)),u9A 6 0]) (.block 0 (.loop (.seq
 (.run 0 [.asg 7 (xb .lss 2 9 8 (.v 6) (.v 5))]) (.seq (.cond 7 (.skip) (.exit 0)) (.seq (.block 1 (.seq (.run 0 [.asg 3 (xl 2 11 (xi 6 7 9 (.v 4) (.v 6)))]) (.run 0 [u9E 8 (.append 0 56 56 (.t 14) (.t 17)) (.cons 14 (xl 56 13 (xf 55 3 3 (.v 2))) (.cons 17 (.n (.bslice false 56 1 [(0,(.t 16))]) (.cons 16 (.n (.build 55 [(0,(.c (.int
 .i64 1))),(1,(.t 15))]) (.cons 15 (.v 3) .nil)) .nil)) .nil)) none,.eff none none (.store 56 (.t 19) (.t 18)) (.cons 19 (xf 55 3 3 (.v 2)) (.cons 18 (.v 8) .nil)) none])))
 (.run 0 [.asg 6 (xk .add 2 9 (.int .i64 1) (.v 6))]))))))) (.seq (.run 0 [.eff none none (.store 55 (.t 2) (.t 21)) (.cons 2 (.v 1) (.cons 21 (xl 55 3 (.v 2)) .nil)) none])
 (.ret))))
theorem c366:TF E 366 n366 [(1,some 55)] t366 22 := zo (F := f366) rfl (by kernel_rfl) (by decide)

def n376:List Nat := [0]
def t376:TC := .seq (.run 0 [u9E 0 (.alloc 73) .nil none]) (.seq (.run 0 [.eff none none (.store 73 (.t 0) (.t 1)) (.cons 0 (.v 0) (.cons 1 (.n (.call 0 (.f 390) [(.c (.str [112,
 111,115,116,105,110,103,115])),(.c (.imm .exact []))]) .nil) .nil)) none]) (.ret))
theorem c376:TF E 376 n376 [(0,some 73)] t376 2 := zo (F := f376) rfl (by kernel_rfl) (by decide)

def n377:List Nat := [0,1,2,3,4,5,7,11]
def t377:TC := .seq (.run 0 [.asg 2 (.n (.ibox 73 (.t 0)) (.cons 0 (.v 0) .nil)),.asg 3 (.n (.ibox 71 (.t 1)) (.cons 1 (.v 1) .nil)),u9E 4 (.alloc 73) .nil none]) (.seq (.run
 0 [.asg 6 (.n (.call 0 (.f 391) [(.t 8)]) (.cons 8 (.n (.iload 71 (.t 3)) (.cons 3 (.v 3) .nil)) .nil)),.asg 7 (xe 7 1 (.v 6)),.asg 5 (xe 7 0 (.v 6))]) (.seq (.run 5 [.eff
 none none (.store 73 (.t 4) (.t 15)) (.cons 4 (.v 4) (.cons 15 (.n (.call 0 (.f 392) [(.t 12),(.t 14)]) (.cons 12 (.n (.iload 73 (.t 2)) (.cons 2 (.v 2) .nil)) (.cons 14 (.n
 (.call 0 (.f 390) [(.c (.str [112,111,115,116,105,110,103])),(.t 13)]) (.cons 13 (.v 5) .nil)) .nil))) .nil)) (some 4)]) (.ret)))
theorem c377:TF E 377 n377 [(4,some 73)] t377 16 := zo (F := f377) rfl (by kernel_rfl) (by decide)

def n378:List Nat := [0,2,3,4,12,16,22,44,73]
def t378:TC := .seq (.run 0 [.asg 1 (.c (.bool false))]) (.seq (.seq (.run 0 [.asg 4 (.ite (xk .lss 2 6 (.int .i64 2) (xn 66 5 (.v 0))) (.c (.bool true)) (xk .gtr 2 10 (.int .i64 4096) (xn
 66 9 (.v 0))))]) (.cond 4 (.seq (.run 0 [.asg 1 (.c (.bool false))]) (.ret)) (.skip))) (.seq (.seq (.run 0 [u9A 2 0]) (.block 0 (.loop (.seq (.seq (.run 0
 [.asg 5 (xb .lss 2 13 15 (.v 2) (xn 66 14 (.v 0)))]) (.cond 5 (.skip) (.exit 0))) (.seq (.block 1 (.seq (.run 0 [.asg 6 (xl 72 21 (xi 66 19 20 (.v 0) (.v 2))),u9E 3 (.alloc 72) .nil none,.eff none none (.store 72 (.t 4) (.t 22)) (.cons 4 (.v 3) (.cons 22 (.v 6) .nil)) none]) (.seq (.seq (.run 0 [.asg 7 (.ite (.ite (.ite (xk .lss 2
 25 (.int .i64 1) (xl 2 24 (xf 65 23 0 (xf 72 4 0 (.v 3))))) (.c (.bool true)) (xk .gtr 2 30 (.int .i64 5) (xl 2 29 (xf 65 28 0 (xf 72 4 0 (.v 3)))))) (.c (.bool true)) (xk
 .lss 2 36 (.int .i64 (-1)) (xl 2 35 (xf 65 34 1 (xf 72 4 0 (.v 3)))))) (.c (.bool true)) (xk .gtr 2 42 (.int .i64 4095) (xl 2 41 (xf 65 40 1 (xf 72 4 0 (.v 3))))))]) (.cond
 7 (.seq (.run 0 [.asg 1 (.c (.bool false))]) (.ret)) (.skip))) (.seq (.run 29 [.asg 8 (.ite (.ite (.ite (xk .eql 2 46 (.int .i64 0) (xl 2 45 (xf 72 4 1 (.v 3)))) (.c (.bool
 true)) (xk .lss 2 50 (.int .i64 (-1099511627776)) (xl 2 49 (xf 72 4 1 (.v 3))))) (.c (.bool true)) (xk .gtr 2 55 (.int .i64 1099511627776) (xl 2 54 (xf 72 4 1 (.v 3))))) (.c
 (.bool true)) (.ite (xk .gtr 2 59 (.int .i64 0) (.v 2)) (.n (.un .not (.t 70)) (.cons 70 (.n (.call 0 (.f 393) [(.t 67),(.t 69)]) (.cons 67 (xl 65 66 (xf 72 65 0 (xi 66 62
 64 (.v 0) (xk .sub 2 63 (.int .i64 1) (.v 2))))) (.cons 69 (xl 65 68 (xf 72 4 0 (.v 3))) .nil))) .nil)) (.c (.bool false))))]) (.cond 8 (.seq (.run 0 [.asg 1 (.c (.bool false))])
 (.ret)) (.skip)))))) (.run 0 [.asg 2 (xk .add 2 17 (.int .i64 1) (.v 2))])))))) (.seq (.run 0 [.asg 1 (.c (.bool true))]) (.ret))))
theorem c378:TF E 378 n378 [(1,none)] t378 74 := zo (F := f378) rfl (by kernel_rfl) (by decide)

def n379:List Nat := [0,2,3,4,8]
def t379:TC := .seq (.run 0 [u9A 1 0]) (.seq (.run 0 [u9A 2 0]) (.seq (.seq (.run 0 [u9A 3 0]) (.block 0 (.loop (.seq (.seq (.run 0 [.asg
 4 (xb .lss 2 5 7 (.v 3) (xn 66 6 (.v 0)))]) (.cond 4 (.skip) (.exit 0))) (.seq (.block 1 (.run 0 [.asg 2 (xb .add 2 11 16 (.v 2) (xl 2 15 (xf 72 14 1 (xi 66 12 13 (.v 0) (.v
 3)))))])) (.run 0 [.asg 3 (xk .add 2 9 (.int .i64 1) (.v 3))])))))) (.seq (.run 0 [.asg 1 (.v 2)]) (.ret))))
theorem c379:TF E 379 n379 [(1,none)] t379 19 := zo (F := f379) rfl (by kernel_rfl) (by decide)

def n380:List Nat := [0,1,4,6,7,8,9,10,12,14,15,16,17,19,24,25]
def t380:TC := .seq (.run 0 [.asg 4 (xl 70 1 (.v 1)),.asg 5 (xn 70 7 (.v 4)),u9A 6 0]) (.block 0 (.loop (.seq (.run 0 [.asg 7 (xb .lss 2 9 8 (.v 6) (.v 5))]) (.seq (.cond
 7 (.skip) (.exit 0)) (.seq (.block 1 (.seq (.run 0 [.asg 8 (xl 71 11 (xi 70 7 9 (.v 4) (.v 6))),u9E 2 (.alloc 71) .nil none,.eff none none (.store 71 (.t 4)
 (.t 12)) (.cons 4 (.v 2) (.cons 12 (.v 8) .nil)) none]) (.seq (.run 0 [.asg 9 (xl 66 13 (xf 71 4 3 (.v 2))),.asg 10 (xn 66 14 (.v 9)),u9A 11 0]) (.block
 2 (.loop (.seq (.run 0 [.asg 12 (xb .lss 2 16 15 (.v 11) (.v 10))]) (.seq (.cond 12 (.skip) (.exit 2)) (.seq (.block 3 (.seq (.run 0 [.asg 13 (xl 72 18 (xi 66 14 16 (.v 9)
 (.v 11))),u9E 3 (.alloc 72) .nil none,.eff none none (.store 72 (.t 6) (.t 19)) (.cons 6 (.v 3) (.cons 19 (.v 13) .nil)) none]) (.seq (.run 0 [u9E 14 (.call 2 (.t 20) [(.t 22),(.t 23)]) (.cons 20 (.v 0) (.cons 22 (xl 2 21 (xf 71 4 1 (.v 2))) (.cons 23 (xl 72 6 (.v 3)) .nil))) none,.asg 15 (.n (.un .not (.t 24)) (.cons
 24 (.v 14) .nil))]) (.cond 15 (.ret) (.skip))))) (.run 0 [.asg 11 (xk .add 2 16 (.int .i64 1) (.v 11))]))))))))) (.run 0 [.asg 6 (xk .add 2 9 (.int .i64 1) (.v 6))]))))))
theorem c380:TF E 380 n380 [] t380 28 := zo (F := f380) rfl (by kernel_rfl) (by decide)

def n383:List Nat := [0,1,4,6,7,8]
def t383:TC := .seq (.run 0 [.asg 3 (xn 30 5 (.v 0)),u9A 4 0]) (.block 0 (.loop (.seq (.run 0 [.asg 5 (xb .lss 2 7 6 (.v 4) (.v 3))]) (.seq (.cond 5 (.skip) (.exit 0))
 (.seq (.block 1 (.seq (.run 0 [.asg 2 (.v 4)]) (.run 0 [.eff none none (.store 13 (.t 21) (.t 20)) (.cons 21 (xi 30 10 15 (.v 0) (xb .sub 2 13 14 (xk .sub 2 12 (.int .i64 1)
 (xn 30 11 (.v 0))) (.v 2))) (.cons 20 (.n (.conv 63 13 (.t 19)) (.cons 19 (xb .shr 63 16 18 (.v 1) (.n (.bin .mul 2 (.c (.int .i64 8)) (.t 17)) (.cons 17 (.v 2) .nil))) .nil))
 .nil)) none]))) (.run 0 [.asg 4 (xk .add 2 7 (.int .i64 1) (.v 4))]))))))
theorem c383:TF E 383 n383 [] t383 23 := zo (F := f383) rfl (by kernel_rfl) (by decide)

def n386:List Nat := [0,1,2,3,4]
def t386:TC := .seq (.run 0 [.asg 2 (.n (.ibox 65 (.t 0)) (.cons 0 (.v 0) .nil)),.asg 3 (.n (.ibox 65 (.t 1)) (.cons 1 (.v 1) .nil)),u9A 4 0]) (.seq (.run 13 [.asg 4 (.n
 (.call 0 (.f 105) [(.t 15)]) (.cons 15 (.n (.bslice false 6 2 [(0,(.t 9)),(1,(.t 14))]) (.cons 9 (.n (.call 0 (.f 74) [(.t 6),(.t 8)]) (.cons 6 (.n (.iload 2 (.t 5)) (.cons
 5 (xf 65 2 0 (.v 2)) .nil)) (.cons 8 (.n (.iload 2 (.t 7)) (.cons 7 (xf 65 3 0 (.v 3)) .nil)) .nil))) (.cons 14 (.n (.call 0 (.f 74) [(.t 11),(.t 13)]) (.cons 11 (.n (.iload
 2 (.t 10)) (.cons 10 (xf 65 2 1 (.v 2)) .nil)) (.cons 13 (.n (.iload 2 (.t 12)) (.cons 12 (xf 65 3 1 (.v 3)) .nil)) .nil))) .nil))) .nil))]) (.ret))
theorem c386:TF E 386 n386 [(4,none)] t386 17 := zo (F := f386) rfl (by kernel_rfl) (by decide)

def n390:List Nat := [0,1,4,5,11,13]
def t390:TC := .seq (.run 0 [u9E 2 (.alloc 73) .nil none]) (.seq (.run 0 [u9E 3 (.alloc 73) .nil none,.eff none none (.store 73 (.t 5) (.t 8)) (.cons 5 (.v 3) (.cons
 8 (.n (.call 0 (.f 410) [(.t 7)]) (.cons 7 (.n (.s2b 53 30 (.t 6)) (.cons 6 (.v 0) .nil)) .nil)) .nil)) none]) (.seq (.run 0 [u9E 4 (.append 0 30 30 (.t 9) (.t
 10)) (.cons 9 (.n (.bslice false 30 0 []) .nil) (.cons 10 (.n (.slice 73 (.t 5) none none none) (.cons 5 (.v 3) .nil)) .nil)) none,u9E 5 (.append 0 30 30 (.t
 11) (.t 12)) (.cons 11 (.v 4) (.cons 12 (.v 1) .nil)) none,.eff none none (.store 73 (.t 4) (.t 14)) (.cons 4 (.v 2) (.cons 14 (.n (.call 0 (.f 410) [(.t 13)]) (.cons 13 (.v
 5) .nil)) .nil)) none]) (.ret)))
theorem c390:TF E 390 n390 [(2,some 73)] t390 15 := zo (F := f390) rfl (by kernel_rfl) (by decide)

def n391:List Nat := [0,1,2,3,4,5,6,7,8,12,19,26,42,61]
def t391:TC := .seq (.run 0 [.asg 1 (.n (.ibox 71 (.t 0)) (.cons 0 (.v 0) .nil)),.asg 2 (.c (.imm .exact [])),u9A 3 0]) (.seq (.run 0 [.asg 4 (.n (.call 0 (.f 358) [(.t
 9)]) (.cons 9 (.n (.iload 71 (.t 1)) (.cons 1 (.v 1) .nil)) .nil))]) (.seq (.seq (.run 0 [.asg 9 (xk .neq 3 11 (.int .i64 0) (.v 4))]) (.cond 9 (.seq (.run 0 [.asg 2 (.c (.imm
 .exact [])),.asg 3 (.v 4)]) (.ret)) (.skip))) (.seq (.run 0 [.asg 5 (.n (.bslice false 56 0 []) .nil)]) (.seq (.seq (.run 0 [u9A 6 0]) (.block 0 (.loop (.seq
 (.seq (.run 0 [.asg 10 (xb .lss 2 15 18 (.v 6) (xn 66 17 (.n (.iload 66 (.t 16)) (.cons 16 (xf 71 1 3 (.v 1)) .nil))))]) (.cond 10 (.skip) (.exit 0))) (.seq (.block 1 (.seq
 (.run 0 [.asg 11 (xl 72 25 (xi 66 23 24 (.n (.iload 66 (.t 22)) (.cons 22 (xf 71 1 3 (.v 1)) .nil)) (.v 6))),u9E 7 (.alloc 72) .nil none,.eff none none (.store
 72 (.t 7) (.t 26)) (.cons 7 (.v 7) (.cons 26 (.v 11) .nil)) none]) (.run 17 [u9E 12 (.append 0 56 56 (.t 27) (.t 41)) (.cons 27 (.v 5) (.cons 41 (.n (.bslice false
 56 1 [(0,(.t 40))]) (.cons 40 (.n (.build 55 [(0,(.c (.int .i64 3))),(3,(.t 39))]) (.cons 39 (.n (.bslice false 56 3 [(0,(.t 31)),(1,(.t 35)),(2,(.t 38))]) (.cons
 31 (.n (.call 0 (.f 411) [(.t 30)]) (.cons 30 (xl 2 29 (xf 65 28 0 (xf 72 7 0 (.v 7)))) .nil)) (.cons 35 (.n (.call 0 (.f 411) [(.t 34)]) (.cons 34 (xl 2 33 (xf 65 32 1 (xf
 72 7 0 (.v 7)))) .nil)) (.cons 38 (.n (.call 0 (.f 411) [(.t 37)]) (.cons 37 (xl 2 36 (xf 72 7 1 (.v 7))) .nil)) .nil)))) .nil)) .nil)) .nil)) (some 15),.asg 5 (.v 12)])))
 (.run 0 [.asg 6 (xk .add 2 20 (.int .i64 1) (.v 6))])))))) (.seq (.run 19 [u9E 8 (.alloc 55) .nil (some 17),.eff none none (.store 55 (.t 8) (.t 59)) (.cons 8
 (.v 8) (.cons 59 (.n (.build 55 [(0,(.c (.int .i64 3))),(3,(.t 58))]) (.cons 58 (.n (.bslice false 56 5 [(0,(.t 45)),(1,(.t 48)),(2,(.t 51)),(3,(.t 53)),(4,(.t
 57))]) (.cons 45 (.n (.call 0 (.f 411) [(.t 44)]) (.cons 44 (.n (.iload 2 (.t 43)) (.cons 43 (xf 71 1 0 (.v 1)) .nil)) .nil)) (.cons 48 (.n (.call 0 (.f 411) [(.t 47)]) (.cons
 47 (.n (.iload 2 (.t 46)) (.cons 46 (xf 71 1 1 (.v 1)) .nil)) .nil)) (.cons 51 (.n (.call 0 (.f 411) [(.t 50)]) (.cons 50 (.n (.iload 2 (.t 49)) (.cons 49 (xf 71 1 2 (.v 1))
 .nil)) .nil)) (.cons 53 (.n (.build 55 [(0,(.c (.int .i64 3))),(3,(.t 52))]) (.cons 52 (.v 5) .nil)) (.cons 57 (.n (.build 55 [(0,(.c (.int .i64 2))),(2,(.t 56))]) (.cons
 56 (.n (.b2s 30 53 (.t 55)) (.cons 55 (.n (.slice 73 (.t 54) none none none) (.cons 54 (xf 71 1 4 (.v 1)) .nil)) .nil)) .nil)) .nil)))))) .nil)) .nil)) (some 18)]) (.seq (.run
 0 [.asg 13 (.n (.call 0 (.f 270) [(.t 60)]) (.cons 60 (xl 55 8 (.v 8)) .nil)),.asg 2 (xe 61 0 (.v 13)),.asg 3 (xe 61 1 (.v 13))]) (.ret)))))))
theorem c391:TF E 391 n391 [(2,none),(3,none)] t391 64 := zo (F := f391) rfl (by kernel_rfl) (by decide)

def n392:List Nat := [0,1,2,3,4,7,9]
def t392:TC := .seq (.run 0 [.asg 2 (.n (.ibox 73 (.t 0)) (.cons 0 (.v 0) .nil)),.asg 3 (.n (.ibox 73 (.t 1)) (.cons 1 (.v 1) .nil)),u9E 4 (.alloc 73) .nil none]) (.seq (.run
 7 [u9E 5 (.append 0 30 30 (.t 5) (.t 6)) (.cons 5 (.n (.bslice false 30 0 []) .nil) (.cons 6 (.n (.slice 73 (.t 2) none none none) (.cons 2 (.v 2) .nil)) .nil))
 (some 2),u9E 6 (.append 0 30 30 (.t 7) (.t 8)) (.cons 7 (.v 5) (.cons 8 (.n (.slice 73 (.t 3) none none none) (.cons 3 (.v 3) .nil)) .nil)) (some 4),.eff none
 none (.store 73 (.t 4) (.t 10)) (.cons 4 (.v 4) (.cons 10 (.n (.call 0 (.f 390) [(.c (.str [99,104,97,105,110])),(.t 9)]) (.cons 9 (.v 6) .nil)) .nil)) (some 6)]) (.ret))
theorem c392:TF E 392 n392 [(4,some 73)] t392 11 := zo (F := f392) rfl (by kernel_rfl) (by decide)

def n393:List Nat := [0,1,2,3,4]
def t393:TC := .seq (.run 0 [.asg 2 (.n (.ibox 65 (.t 0)) (.cons 0 (.v 0) .nil)),.asg 3 (.n (.ibox 65 (.t 1)) (.cons 1 (.v 1) .nil)),.asg 4 (.c (.bool false))]) (.seq (.run 0 [.asg 4 (.ite
 (xb .lss 2 6 8 (.n (.iload 2 (.t 5)) (.cons 5 (xf 65 2 0 (.v 2)) .nil)) (.n (.iload 2 (.t 7)) (.cons 7 (xf 65 3 0 (.v 3)) .nil))) (.c (.bool true)) (.ite (xb .eql 2 12 14 (.n
 (.iload 2 (.t 11)) (.cons 11 (xf 65 2 0 (.v 2)) .nil)) (.n (.iload 2 (.t 13)) (.cons 13 (xf 65 3 0 (.v 3)) .nil))) (xb .lss 2 18 20 (.n (.iload 2 (.t 17)) (.cons 17 (xf 65
 2 1 (.v 2)) .nil)) (.n (.iload 2 (.t 19)) (.cons 19 (xf 65 3 1 (.v 3)) .nil))) (.c (.bool false))))]) (.ret))
theorem c393:TF E 393 n393 [(4,none)] t393 24 := zo (F := f393) rfl (by kernel_rfl) (by decide)

def n404:List Nat := [0,1,4,5,6,7,8,9,10,11,12,13,14,15,22,26,68,69,70,118,129,130]
def t404:TC := .seq (.run 0 [u9E 2 (.alloc 80) .nil none]) (.seq (.seq (.run 0 [u9A 12 0]) (.block 0 (.loop (.seq (.run 0 [.asg 13 (xk .lss 2 14 (.int .i64
 16) (.v 12))]) (.seq (.cond 13 (.skip) (.exit 0)) (.seq (.block 1 (.seq (.run 0 [.asg 3 (.v 12)]) (.run 0 [u9E 14 (.call 3 (.f 405) [(.t 21)]) (.cons 21 (.n (.slice
 30 (.t 18) (some (.t 20)) none none) (.cons 18 (.v 1) (.cons 20 (.n (.bin .mul 2 (.c (.int .i64 4)) (.t 19)) (.cons 19 (.v 3) .nil)) .nil))) .nil) none,.eff none none (.store
 78 (.t 23) (.t 22)) (.cons 23 (xi 80 4 17 (.v 2) (.v 3)) (.cons 22 (.v 14) .nil)) none]))) (.run 0 [.asg 12 (xk .add 2 14 (.int .i64 1) (.v 12))]))))))) (.seq (.seq (.run 0
 [u9A 4 16]) (.block 2 (.loop (.seq (.seq (.run 0 [.asg 15 (xk .lss 2 25 (.int .i64 64) (.v 4))]) (.cond 15 (.skip) (.exit 2))) (.seq (.block 3 (.seq (.run
 10 [.asg 5 (xl 78 31 (xi 80 4 30 (.v 2) (xk .sub 2 29 (.int .i64 15) (.v 4)))),.asg 6 (xl 78 35 (xi 80 4 34 (.v 2) (xk .sub 2 33 (.int .i64 2) (.v 4))))]) (.run 30 [.eff none
 none (.store 78 (.t 65) (.t 64)) (.cons 65 (xi 80 4 37 (.v 2) (.v 4)) (.cons 64 (xb .add 78 55 63 (xb .add 78 50 54 (xb .add 78 41 49 (xl 78 40 (xi 80 4 39 (.v 2) (xk .sub
 2 38 (.int .i64 16) (.v 4)))) (xb .xor 78 46 48 (xb .xor 78 43 45 (.n (.call 0 (.f 406) [(.t 42),(.c (.int .i64 (-7)))]) (.cons 42 (.v 5) .nil)) (.n (.call 0 (.f 406) [(.t
 44),(.c (.int .i64 (-18)))]) (.cons 44 (.v 5) .nil))) (xk .shr 78 47 (.int .u64 3) (.v 5)))) (xl 78 53 (xi 80 4 52 (.v 2) (xk .sub 2 51 (.int .i64 7) (.v 4))))) (xb .xor 78
 60 62 (xb .xor 78 57 59 (.n (.call 0 (.f 406) [(.t 56),(.c (.int .i64 (-17)))]) (.cons 56 (.v 6) .nil)) (.n (.call 0 (.f 406) [(.t 58),(.c (.int .i64 (-19)))]) (.cons 58
 (.v 6) .nil))) (xk .shr 78 61 (.int .u64 10) (.v 6)))) .nil)) (some 29)]))) (.run 0 [.asg 4 (xk .add 2 27 (.int .i64 1) (.v 4))])))))) (.seq (.run 0 [.asg 16 (xl 77 67 (.n
 (.nilc (.t 66)) (.cons 66 (.v 0) .nil))),u9E 7 (.alloc 77) .nil none,.eff none none (.store 77 (.t 9) (.t 68)) (.cons 9 (.v 7) (.cons 68 (.v 16) .nil)) none])
 (.seq (.seq (.run 0 [u9A 17 0]) (.block 4 (.loop (.seq (.run 0 [.asg 18 (xk .lss 2 69 (.int .i64 64) (.v 17))]) (.seq (.cond 18 (.skip) (.exit 4)) (.seq (.block
 5 (.seq (.run 0 [.asg 8 (.v 17)]) (.seq (.run 27 [.asg 9 (xb .add 78 93 96 (xb .add 78 89 92 (xb .add 78 77 88 (xb .add 78 73 76 (xl 78 72 (.n (.iaddr 77 (.t 9) (.c (.int .i64
 7))) (.cons 9 (.v 7) .nil))) (.n (.call 0 (.f 407) [(.t 75),(.c (.int .i64 6)),(.c (.int .i64 11)),(.c (.int .i64 25))]) (.cons 75 (xl 78 74 (.n (.iaddr 77 (.t 9) (.c (.int
 .i64 4))) (.cons 9 (.v 7) .nil))) .nil))) (xb .xor 78 79 87 (xl 78 78 (.n (.iaddr 77 (.t 9) (.c (.int .i64 6))) (.cons 9 (.v 7) .nil))) (xb .and 78 81 86 (xl 78 80 (.n (.iaddr
 77 (.t 9) (.c (.int .i64 4))) (.cons 9 (.v 7) .nil))) (xb .xor 78 83 85 (xl 78 82 (.n (.iaddr 77 (.t 9) (.c (.int .i64 5))) (.cons 9 (.v 7) .nil))) (xl 78 84 (.n (.iaddr 77
 (.t 9) (.c (.int .i64 6))) (.cons 9 (.v 7) .nil))))))) (xl 78 91 (.n (.iaddr 80 (.c (.iptr [(.int .u32 1116352408),(.int .u32 1899447441),(.int .u32 3049323471),(.int .u32
 3921009573),(.int .u32 961987163),(.int .u32 1508970993),(.int .u32 2453635748),(.int .u32 2870763221),(.int .u32 3624381080),(.int .u32 310598401),(.int .u32 607225278),
 (.int .u32 1426881987),(.int .u32 1925078388),(.int .u32 2162078206),(.int .u32 2614888103),(.int .u32 3248222580),(.int .u32 3835390401),(.int .u32 4022224774),(.int
 .u32 264347078),(.int .u32 604807628),(.int .u32 770255983),(.int .u32 1249150122),(.int .u32 1555081692),(.int .u32 1996064986),(.int .u32 2554220882),(.int .u32 2821834349),
 (.int .u32 2952996808),(.int .u32 3210313671),(.int .u32 3336571891),(.int .u32 3584528711),(.int .u32 113926993),(.int .u32 338241895),(.int .u32 666307205),(.int .u32
 773529912),(.int .u32 1294757372),(.int .u32 1396182291),(.int .u32 1695183700),(.int .u32 1986661051),(.int .u32 2177026350),(.int .u32 2456956037),(.int .u32 2730485921),
 (.int .u32 2820302411),(.int .u32 3259730800),(.int .u32 3345764771),(.int .u32 3516065817),(.int .u32 3600352804),(.int .u32 4094571909),(.int .u32 275423344),(.int
 .u32 430227734),(.int .u32 506948616),(.int .u32 659060556),(.int .u32 883997877),(.int .u32 958139571),(.int .u32 1322822218),(.int .u32 1537002063),(.int .u32 1747873779),
 (.int .u32 1955562222),(.int .u32 2024104815),(.int .u32 2227730452),(.int .u32 2361852424),(.int .u32 2428436474),(.int .u32 2756734187),(.int .u32 3204031479),(.int
 .u32 3329325298)])) (.t 90)) (.cons 90 (.v 8) .nil)))) (xl 78 95 (xi 80 4 94 (.v 2) (.v 8))))]) (.seq (.run 19 [.asg 10 (xb .add 78 100 114 (.n (.call 0 (.f 407) [(.t 99),
 (.c (.int .i64 2)),(.c (.int .i64 13)),(.c (.int .i64 22))]) (.cons 99 (xl 78 98 (.n (.iaddr 77 (.t 9) (.c (.int .i64 0))) (.cons 9 (.v 7) .nil))) .nil)) (xb .or 78 105 113
 (xb .and 78 102 104 (xl 78 101 (.n (.iaddr 77 (.t 9) (.c (.int .i64 0))) (.cons 9 (.v 7) .nil))) (xl 78 103 (.n (.iaddr 77 (.t 9) (.c (.int .i64 1))) (.cons 9 (.v 7) .nil))))
 (xb .and 78 107 112 (xl 78 106 (.n (.iaddr 77 (.t 9) (.c (.int .i64 2))) (.cons 9 (.v 7) .nil))) (xb .or 78 109 111 (xl 78 108 (.n (.iaddr 77 (.t 9) (.c (.int .i64 0))) (.cons
 9 (.v 7) .nil))) (xl 78 110 (.n (.iaddr 77 (.t 9) (.c (.int .i64 1))) (.cons 9 (.v 7) .nil)))))))]) (.seq (.run 3 [u9E 19 (.copy 81 81 (.t 116) (.t 117)) (.cons
 116 (.n (.slice 77 (.t 9) (some (.c (.int .i64 1))) none none) (.cons 9 (.v 7) .nil)) (.cons 117 (.n (.slice 77 (.t 9) none (some (.c (.int .i64 7))) none) (.cons 9 (.v 7)
 .nil)) .nil)) (some 2)]) (.seq (.run 0 [.eff none none (.store 78 (.t 123) (.t 122)) (.cons 123 (.n (.iaddr 77 (.t 9) (.c (.int .i64 4))) (.cons 9 (.v 7) .nil)) (.cons 122
 (xb .add 78 120 121 (xl 78 119 (.n (.iaddr 77 (.t 9) (.c (.int .i64 4))) (.cons 9 (.v 7) .nil))) (.v 9)) .nil)) none]) (.run 0 [.eff none none (.store 78 (.t 127) (.t 126))
 (.cons 127 (.n (.iaddr 77 (.t 9) (.c (.int .i64 0))) (.cons 9 (.v 7) .nil)) (.cons 126 (xb .add 78 124 125 (.v 9) (.v 10)) .nil)) none]))))))) (.run 0 [.asg 17 (xk .add 2 69
 (.int .i64 1) (.v 17))]))))))) (.seq (.run 0 [u9A 20 0]) (.block 6 (.loop (.seq (.run 0 [.asg 21 (xk .lss 2 129 (.int .i64 8) (.v 20))]) (.seq (.cond 21 (.skip)
 (.exit 6)) (.seq (.block 7 (.seq (.run 0 [.asg 11 (.v 20)]) (.run 12 [.eff none none (.store 78 (.t 142) (.t 140)) (.cons 142 (xi 77 141 133 (.n (.nilc (.t 132)) (.cons 132
 (.v 0) .nil)) (.v 11)) (.cons 140 (xb .add 78 136 139 (xl 78 135 (xi 77 134 133 (.n (.nilc (.t 132)) (.cons 132 (.v 0) .nil)) (.v 11))) (xl 78 138 (xi 77 9 137 (.v 7) (.v 11))))
 .nil)) (some 11)]))) (.run 0 [.asg 20 (xk .add 2 129 (.int .i64 1) (.v 20))])))))))))))
theorem c404:TF E 404 n404 [] t404 144 := zo (F := f404) rfl (by kernel_rfl) (by decide)

def n405:List Nat := [0,2,4,6,7,8,9]
def t405:TC := .seq (.run 0 [.asg 1 (.c (.int .u32 0))]) (.seq (.seq (.run 0 [.asg 3 (.n (.slice 30 (.t 5) none (some (.c (.int .i64 4))) none) (.cons 5 (.v 0) .nil)),.asg 4 (xn 30 6 (.v
 3)),u9A 5 0]) (.block 0 (.loop (.seq (.run 0 [.asg 6 (xb .lss 2 8 7 (.v 5) (.v 4))]) (.seq (.cond 6 (.skip) (.exit 0)) (.seq (.block 1 (.seq (.run 0 [.asg
 2 (xl 13 10 (xi 30 6 8 (.v 3) (.v 5)))]) (.run 0 [.asg 1 (xb .or 78 13 15 (xk .shl 78 12 (.int .u64 8) (.v 1)) (.n (.conv 13 78 (.t 14)) (.cons 14 (.v 2) .nil)))]))) (.run
 0 [.asg 5 (xk .add 2 8 (.int .i64 1) (.v 5))]))))))) (.seq (.run 0 [.asg 1 (.v 1)]) (.ret)))
theorem c405:TF E 405 n405 [(1,none)] t405 19 := zo (F := f405) rfl (by kernel_rfl) (by decide)

def n406:List Nat := [0,1,4,5]
def t406:TC := .seq (.run 0 [.asg 2 (.c (.int .u32 0))]) (.seq (.run 0 [.asg 3 (xk .and 12 7 (.int .u64 31) (.n (.conv 2 12 (.t 6)) (.cons 6 (.v 1) .nil)))]) (.seq (.run 0 [.asg 2 (xb .or
 78 11 15 (xb .shl 78 9 10 (.v 0) (.v 3)) (xb .shr 78 12 14 (.v 0) (.n (.bin .sub 12 (.c (.int .u64 32)) (.t 13)) (.cons 13 (.v 3) .nil))))]) (.ret)))
theorem c406:TF E 406 n406 [(2,none)] t406 17 := zo (F := f406) rfl (by kernel_rfl) (by decide)

def n407:List Nat := [0,1,2,3,8]
def t407:TC := .seq (.run 0 [.asg 4 (.c (.int .u32 0))]) (.seq (.run 0 [.asg 4 (xb .xor 78 17 21 (xb .xor 78 12 16 (.n (.call 0 (.f 406) [(.t 9),(.t 11)]) (.cons 9 (.v 0) (.cons 11 (.n (.un
 .neg (.t 10)) (.cons 10 (.v 1) .nil)) .nil))) (.n (.call 0 (.f 406) [(.t 13),(.t 15)]) (.cons 13 (.v 0) (.cons 15 (.n (.un .neg (.t 14)) (.cons 14 (.v 2) .nil)) .nil)))) (.n
 (.call 0 (.f 406) [(.t 18),(.t 20)]) (.cons 18 (.v 0) (.cons 20 (.n (.un .neg (.t 19)) (.cons 19 (.v 3) .nil)) .nil))))]) (.ret))
theorem c407:TF E 407 n407 [(4,none)] t407 23 := zo (F := f407) rfl (by kernel_rfl) (by decide)

def n410:List Nat := [0,2,3,4,5,6,7,14,26]
def t410:TC := .seq (.run 0 [u9E 1 (.alloc 73) .nil none]) (.seq (.run 0 [u9E 2 (.alloc 76) .nil none,.eff none none (.store 76 (.t 3) (.t 8)) (.cons 3 (.v 2) (.cons
 8 (.n (.build 76 [(0,(.c (.int .u32 1779033703))),(1,(.c (.int .u32 3144134277))),(2,(.c (.int .u32 1013904242))),(3,(.c (.int .u32 2773480762))),(4,(.c (.int .u32
 1359893119))),(5,(.c (.int .u32 2600822924))),(6,(.c (.int .u32 528734635))),(7,(.c (.int .u32 1541459225)))]) .nil) .nil)) none]) (.seq (.run 0 [.asg 3 (.n (.call 0
 (.f 418) [(.t 9)]) (.cons 9 (.v 0) .nil))]) (.seq (.seq (.run 0 [u9A 4 0]) (.block 0 (.loop (.seq (.seq (.run 0 [.asg 7 (xb .lss 2 11 13 (.v 4) (xn 30 12
 (.v 3)))]) (.cond 7 (.skip) (.exit 0))) (.seq (.block 1 (.run 8 [.eff none none (.store 76 (.t 3) (.t 23)) (.cons 3 (.v 2) (.cons 23 (.n (.call 0 (.f 419) [(.t 17),(.t 22)])
 (.cons 17 (xl 76 3 (.v 2)) (.cons 22 (.n (.slice 30 (.t 18) (some (.t 19)) (some (.t 21)) none) (.cons 18 (.v 3) (.cons 19 (.v 4) (.cons 21 (xk .add 2 20 (.int .i64 64) (.v
 4)) .nil)))) .nil))) .nil)) (some 7)])) (.run 0 [.asg 4 (xk .add 2 15 (.int .i64 64) (.v 4))])))))) (.seq (.run 0 [u9E 5 (.alloc 73) .nil none,.eff none none
 (.store 73 (.t 6) (.t 24)) (.cons 6 (.v 5) (.cons 24 (.n (.build 73 []) .nil) .nil)) none]) (.seq (.seq (.run 0 [u9A 6 0]) (.block 2 (.loop (.seq (.seq (.run
 0 [.asg 8 (xk .lss 2 25 (.int .i64 32) (.v 6))]) (.cond 8 (.skip) (.exit 2))) (.seq (.block 3 (.run 0 [.eff none none (.store 13 (.t 40) (.t 39)) (.cons 40 (xi 73 6 29 (.v
 5) (.v 6)) (.cons 39 (.n (.conv 78 13 (.t 38)) (.cons 38 (xb .shr 78 33 37 (xl 78 32 (xi 76 3 31 (.v 2) (xk .quo 2 30 (.int .i64 4) (.v 6)))) (.n (.bin .sub 2 (.c (.int .i64
 24)) (.t 36)) (.cons 36 (.n (.bin .mul 2 (.c (.int .i64 8)) (.t 35)) (.cons 35 (xk .rem 2 34 (.int .i64 4) (.v 6)) .nil)) .nil))) .nil)) .nil)) none])) (.run 0 [.asg 6 (xk
 .add 2 27 (.int .i64 1) (.v 6))])))))) (.seq (.run 0 [.eff none none (.store 73 (.t 2) (.t 41)) (.cons 2 (.v 1) (.cons 41 (xl 73 6 (.v 5)) .nil)) none]) (.ret)))))))
theorem c410:TF E 410 n410 [(1,some 73)] t410 42 := zo (F := f410) rfl (by kernel_rfl) (by decide)

def n411:List Nat := [0,2]
def t411:TC := .seq (.run 0 [u9E 1 (.alloc 55) .nil none]) (.seq (.run 0 [.eff none none (.store 55 (.t 2) (.t 4)) (.cons 2 (.v 1) (.cons 4 (.n (.build 55 [(0,(.c (.int .i64
 1))),(1,(.t 3))]) (.cons 3 (.v 0) .nil)) .nil)) none]) (.ret))
theorem c411:TF E 411 n411 [(1,some 55)] t411 5 := zo (F := f411) rfl (by kernel_rfl) (by decide)

def n418:List Nat := [0,2,3,4,5,8,10,14,17,23,33]
def t418:TC := .seq (.run 0 [.asg 1 (.c (.imm .exact []))]) (.seq (.run 0 [u9E 5 (.append 0 30 30 (.t 6) (.t 7)) (.cons 6 (.n (.bslice false 30 0 []) .nil) (.cons 7 (.v 0) .nil))
 none,u9E 6 (.append 0 30 30 (.t 8) (.t 9)) (.cons 8 (.v 5) (.cons 9 (.n (.bslice false 30 1 [(0,(.c (.int .u8 128)))]) .nil) .nil)) none,.asg 2 (.v 6)]) (.seq
 (.block 0 (.loop (.seq (.seq (.run 0 [.asg 7 (xk .neq 2 13 (.int .i64 56) (xk .rem 2 12 (.int .i64 64) (xn 30 11 (.v 2))))]) (.cond 7 (.skip) (.exit 0))) (.block 1 (.run 0
 [u9E 8 (.append 0 30 30 (.t 15) (.t 16)) (.cons 15 (.v 2) (.cons 16 (.n (.bslice false 30 1 [(0,(.c (.int .u8 0)))]) .nil) .nil)) none,.asg 2 (.v 8)]))))) (.seq
 (.run 0 [.asg 3 (xk .mul 63 20 (.int .u64 8) (.n (.conv 2 63 (.t 19)) (.cons 19 (xn 30 18 (.v 0)) .nil)))]) (.seq (.seq (.run 0 [u9A 4 7]) (.block 2 (.loop
 (.seq (.seq (.run 0 [.asg 9 (xk .geq 2 22 (.int .i64 0) (.v 4))]) (.cond 9 (.skip) (.exit 2))) (.seq (.block 3 (.run 0 [u9E 10 (.append 0 30 30 (.t 26) (.t 32))
 (.cons 26 (.v 2) (.cons 32 (.n (.bslice false 30 1 [(0,(.t 31))]) (.cons 31 (.n (.conv 63 13 (.t 30)) (.cons 30 (xb .shr 63 27 29 (.v 3) (.n (.bin .mul 2 (.c (.int .i64 8))
 (.t 28)) (.cons 28 (.v 4) .nil))) .nil)) .nil)) .nil)) none,.asg 2 (.v 10)])) (.run 0 [.asg 4 (xk .sub 2 24 (.int .i64 1) (.v 4))])))))) (.seq (.run 0 [.asg 1 (.v 2)]) (.ret))))))
theorem c418:TF E 418 n418 [(1,none)] t418 35 := zo (F := f418) rfl (by kernel_rfl) (by decide)

def n419:List Nat := [0,1,2,4,5,6,7,8,9,10,11,12,13,14,15,16,17,18,19,20,21,24,38,96]
def t419:TC := .seq (.run 0 [.asg 2 (.n (.ibox 76 (.t 0)) (.cons 0 (.v 0) .nil)),u9E 3 (.alloc 76) .nil none]) (.seq (.run 0 [u9E 4 (.alloc 80) .nil none,.eff
 none none (.store 80 (.t 5) (.t 22)) (.cons 5 (.v 4) (.cons 22 (.n (.build 80 []) .nil) .nil)) none]) (.seq (.seq (.run 0 [u9A 5 0]) (.block 0 (.loop (.seq
 (.seq (.run 0 [.asg 21 (xk .lss 2 23 (.int .i64 16) (.v 5))]) (.cond 21 (.skip) (.exit 0))) (.seq (.block 1 (.run 0 [.eff none none (.store 78 (.t 36) (.t 35)) (.cons 36 (xi
 80 5 27 (.v 4) (.v 5)) (.cons 35 (.n (.call 0 (.f 421) [(.t 34)]) (.cons 34 (.n (.slice 30 (.t 28) (some (.t 30)) (some (.t 33)) none) (.cons 28 (.v 1) (.cons 30 (.n (.bin
 .mul 2 (.c (.int .i64 4)) (.t 29)) (.cons 29 (.v 5) .nil)) (.cons 33 (xk .add 2 32 (.int .i64 4) (.n (.bin .mul 2 (.c (.int .i64 4)) (.t 31)) (.cons 31 (.v 5) .nil))) .nil))))
 .nil)) .nil)) none])) (.run 0 [.asg 5 (xk .add 2 25 (.int .i64 1) (.v 5))])))))) (.seq (.seq (.run 0 [u9A 6 16]) (.block 2 (.loop (.seq (.seq (.run 0 [.asg
 22 (xk .lss 2 37 (.int .i64 64) (.v 6))]) (.cond 22 (.skip) (.exit 2))) (.seq (.block 3 (.seq (.run 0 [.asg 7 (xl 78 43 (xi 80 5 42 (.v 4) (xk .sub 2 41 (.int .i64 15) (.v
 6))))]) (.seq (.run 0 [.asg 8 (xl 78 47 (xi 80 5 46 (.v 4) (xk .sub 2 45 (.int .i64 2) (.v 6))))]) (.run 30 [.eff none none (.store 78 (.t 77) (.t 76)) (.cons 77 (xi 80 5 49
 (.v 4) (.v 6)) (.cons 76 (xb .add 78 67 75 (xb .add 78 62 66 (xb .add 78 53 61 (xl 78 52 (xi 80 5 51 (.v 4) (xk .sub 2 50 (.int .i64 16) (.v 6)))) (xb .xor 78 58 60 (xb .xor
 78 55 57 (.n (.call 0 (.f 422) [(.t 54),(.c (.int .i64 7))]) (.cons 54 (.v 7) .nil)) (.n (.call 0 (.f 422) [(.t 56),(.c (.int .i64 18))]) (.cons 56 (.v 7) .nil))) (xk .shr
 78 59 (.int .u64 3) (.v 7)))) (xl 78 65 (xi 80 5 64 (.v 4) (xk .sub 2 63 (.int .i64 7) (.v 6))))) (xb .xor 78 72 74 (xb .xor 78 69 71 (.n (.call 0 (.f 422) [(.t 68),(.c (.int
 .i64 17))]) (.cons 68 (.v 8) .nil)) (.n (.call 0 (.f 422) [(.t 70),(.c (.int .i64 19))]) (.cons 70 (.v 8) .nil))) (xk .shr 78 73 (.int .u64 10) (.v 8)))) .nil)) (some 29)]))))
 (.run 0 [.asg 6 (xk .add 2 39 (.int .i64 1) (.v 6))])))))) (.seq (.run 0 [u9E 9 (.alloc 80) .nil none,.eff none none (.store 80 (.t 10) (.t 78)) (.cons 10 (.v
 9) (.cons 78 (.n (.call 0 (.f 423) []) .nil) .nil)) none]) (.seq (.run 24 [.asg 10 (.n (.iload 78 (.t 79)) (.cons 79 (.n (.iaddr 76 (.t 2) (.c (.int .i64 0))) (.cons 2 (.v
 2) .nil)) .nil)),.asg 11 (.n (.iload 78 (.t 81)) (.cons 81 (.n (.iaddr 76 (.t 2) (.c (.int .i64 1))) (.cons 2 (.v 2) .nil)) .nil)),.asg 12 (.n (.iload 78 (.t 83)) (.cons
 83 (.n (.iaddr 76 (.t 2) (.c (.int .i64 2))) (.cons 2 (.v 2) .nil)) .nil)),.asg 13 (.n (.iload 78 (.t 85)) (.cons 85 (.n (.iaddr 76 (.t 2) (.c (.int .i64 3))) (.cons 2 (.v
 2) .nil)) .nil)),.asg 14 (.n (.iload 78 (.t 87)) (.cons 87 (.n (.iaddr 76 (.t 2) (.c (.int .i64 4))) (.cons 2 (.v 2) .nil)) .nil)),.asg 15 (.n (.iload 78 (.t 89)) (.cons
 89 (.n (.iaddr 76 (.t 2) (.c (.int .i64 5))) (.cons 2 (.v 2) .nil)) .nil)),.asg 16 (.n (.iload 78 (.t 91)) (.cons 91 (.n (.iaddr 76 (.t 2) (.c (.int .i64 6))) (.cons 2 (.v
 2) .nil)) .nil)),.asg 17 (.n (.iload 78 (.t 93)) (.cons 93 (.n (.iaddr 76 (.t 2) (.c (.int .i64 7))) (.cons 2 (.v 2) .nil)) .nil))]) (.seq (.seq (.run 0 [u9A 18 0]) (.block 4 (.loop (.seq (.seq (.run 0 [.asg 23 (xk .lss 2 95 (.int .i64 64) (.v 18))]) (.cond 23 (.skip) (.exit 4))) (.seq (.block 5 (.seq (.run 28 [.asg 19 (xb .add
 78 121 124 (xb .add 78 117 120 (xb .add 78 108 116 (xb .add 78 99 107 (.v 17) (xb .xor 78 104 106 (xb .xor 78 101 103 (.n (.call 0 (.f 422) [(.t 100),(.c (.int .i64 6))])
 (.cons 100 (.v 14) .nil)) (.n (.call 0 (.f 422) [(.t 102),(.c (.int .i64 11))]) (.cons 102 (.v 14) .nil))) (.n (.call 0 (.f 422) [(.t 105),(.c (.int .i64 25))]) (.cons 105
 (.v 14) .nil)))) (xb .xor 78 111 115 (xb .and 78 109 110 (.v 14) (.v 15)) (xb .and 78 113 114 (.n (.un .xor (.t 112)) (.cons 112 (.v 14) .nil)) (.v 16)))) (xl 78 119 (xi 80
 10 118 (.v 9) (.v 18)))) (xl 78 123 (xi 80 5 122 (.v 4) (.v 18))))]) (.seq (.run 0 [.asg 20 (xb .add 78 133 144 (xb .xor 78 130 132 (xb .xor 78 127 129 (.n (.call 0 (.f 422)
 [(.t 126),(.c (.int .i64 2))]) (.cons 126 (.v 10) .nil)) (.n (.call 0 (.f 422) [(.t 128),(.c (.int .i64 13))]) (.cons 128 (.v 10) .nil))) (.n (.call 0 (.f 422) [(.t 131),
 (.c (.int .i64 22))]) (.cons 131 (.v 10) .nil))) (xb .xor 78 140 143 (xb .xor 78 136 139 (xb .and 78 134 135 (.v 10) (.v 11)) (xb .and 78 137 138 (.v 10) (.v 12))) (xb .and
 78 141 142 (.v 11) (.v 12))))]) (.run 0 [.asg 17 (.v 16),.asg 16 (.v 15),.asg 15 (.v 14),.asg 14 (xb .add 78 149 150 (.v 13) (.v 19)),.asg 13 (.v 12),.asg 12 (.v 11),
 .asg 11 (.v 10),.asg 10 (xb .add 78 155 156 (.v 19) (.v 20))])))) (.run 0 [.asg 18 (xk .add 2 97 (.int .i64 1) (.v 18))])))))) (.seq (.run 0 [.eff none none (.store 76 (.t
 4) (.t 190)) (.cons 4 (.v 3) (.cons 190 (.n (.build 76 [(0,(.t 161)),(1,(.t 165)),(2,(.t 169)),(3,(.t 173)),(4,(.t 177)),(5,(.t 181)),(6,(.t 185)),(7,(.t 189))])
 (.cons 161 (xb .add 78 159 160 (.n (.iload 78 (.t 158)) (.cons 158 (.n (.iaddr 76 (.t 2) (.c (.int .i64 0))) (.cons 2 (.v 2) .nil)) .nil)) (.v 10)) (.cons 165 (xb .add 78 163
 164 (.n (.iload 78 (.t 162)) (.cons 162 (.n (.iaddr 76 (.t 2) (.c (.int .i64 1))) (.cons 2 (.v 2) .nil)) .nil)) (.v 11)) (.cons 169 (xb .add 78 167 168 (.n (.iload 78 (.t 166))
 (.cons 166 (.n (.iaddr 76 (.t 2) (.c (.int .i64 2))) (.cons 2 (.v 2) .nil)) .nil)) (.v 12)) (.cons 173 (xb .add 78 171 172 (.n (.iload 78 (.t 170)) (.cons 170 (.n (.iaddr 76
 (.t 2) (.c (.int .i64 3))) (.cons 2 (.v 2) .nil)) .nil)) (.v 13)) (.cons 177 (xb .add 78 175 176 (.n (.iload 78 (.t 174)) (.cons 174 (.n (.iaddr 76 (.t 2) (.c (.int .i64 4)))
 (.cons 2 (.v 2) .nil)) .nil)) (.v 14)) (.cons 181 (xb .add 78 179 180 (.n (.iload 78 (.t 178)) (.cons 178 (.n (.iaddr 76 (.t 2) (.c (.int .i64 5))) (.cons 2 (.v 2) .nil)) .nil))
 (.v 15)) (.cons 185 (xb .add 78 183 184 (.n (.iload 78 (.t 182)) (.cons 182 (.n (.iaddr 76 (.t 2) (.c (.int .i64 6))) (.cons 2 (.v 2) .nil)) .nil)) (.v 16)) (.cons 189 (xb
 .add 78 187 188 (.n (.iload 78 (.t 186)) (.cons 186 (.n (.iaddr 76 (.t 2) (.c (.int .i64 7))) (.cons 2 (.v 2) .nil)) .nil)) (.v 17)) .nil))))))))) .nil)) none]) (.ret))))))))
theorem c419:TF E 419 n419 [(3,some 76)] t419 191 := zo (F := f419) rfl (by kernel_rfl) (by decide)

def n421:List Nat := [0,2]
def t421:TC := .seq (.run 0 [.asg 1 (.c (.int .u32 0))]) (.seq (.run 23 [.asg 1 (xb .or 78 19 23 (xb .or 78 13 18 (xb .or 78 7 12 (xk .shl 78 6 (.int .u64 24) (.n (.conv 13 78 (.t 5)) (.cons
 5 (xl 13 4 (.n (.iaddr 30 (.t 3) (.c (.int .i64 0))) (.cons 3 (.v 0) .nil))) .nil))) (xk .shl 78 11 (.int .u64 16) (.n (.conv 13 78 (.t 10)) (.cons 10 (xl 13 9 (.n (.iaddr
 30 (.t 8) (.c (.int .i64 1))) (.cons 8 (.v 0) .nil))) .nil)))) (xk .shl 78 17 (.int .u64 8) (.n (.conv 13 78 (.t 16)) (.cons 16 (xl 13 15 (.n (.iaddr 30 (.t 14) (.c (.int .i64
 2))) (.cons 14 (.v 0) .nil))) .nil)))) (.n (.conv 13 78 (.t 22)) (.cons 22 (xl 13 21 (.n (.iaddr 30 (.t 20) (.c (.int .i64 3))) (.cons 20 (.v 0) .nil))) .nil)))]) (.ret))
theorem c421:TF E 421 n421 [(1,none)] t421 25 := zo (F := f421) rfl (by kernel_rfl) (by decide)

def n422:List Nat := [0,1,4]
def t422:TC := .seq (.run 0 [.asg 2 (.c (.int .u32 0))]) (.seq (.run 9 [.asg 2 (xb .or 78 7 11 (xb .shr 78 5 6 (.v 0) (.v 1)) (xb .shl 78 8 10 (.v 0) (.n (.bin .sub 2 (.c (.int .i64 32))
 (.t 9)) (.cons 9 (.v 1) .nil))))]) (.ret))
theorem c422:TF E 422 n422 [(2,none)] t422 13 := zo (F := f422) rfl (by kernel_rfl) (by decide)

def n423:List Nat := [0]
def t423:TC := .seq (.run 0 [u9E 0 (.alloc 80) .nil none]) (.seq (.run 0 [.eff none none (.store 80 (.t 0) (.t 1)) (.cons 0 (.v 0) (.cons 1 (.n (.build 80 [(0,(.c (.int .u32
 1116352408))),(1,(.c (.int .u32 1899447441))),(2,(.c (.int .u32 3049323471))),(3,(.c (.int .u32 3921009573))),(4,(.c (.int .u32 961987163))),(5,(.c (.int .u32 1508970993))),
 (6,(.c (.int .u32 2453635748))),(7,(.c (.int .u32 2870763221))),(8,(.c (.int .u32 3624381080))),(9,(.c (.int .u32 310598401))),(10,(.c (.int .u32 607225278))),(11,
 (.c (.int .u32 1426881987))),(12,(.c (.int .u32 1925078388))),(13,(.c (.int .u32 2162078206))),(14,(.c (.int .u32 2614888103))),(15,(.c (.int .u32 3248222580))),(16,
 (.c (.int .u32 3835390401))),(17,(.c (.int .u32 4022224774))),(18,(.c (.int .u32 264347078))),(19,(.c (.int .u32 604807628))),(20,(.c (.int .u32 770255983))),(21,
 (.c (.int .u32 1249150122))),(22,(.c (.int .u32 1555081692))),(23,(.c (.int .u32 1996064986))),(24,(.c (.int .u32 2554220882))),(25,(.c (.int .u32 2821834349))),(26,
 (.c (.int .u32 2952996808))),(27,(.c (.int .u32 3210313671))),(28,(.c (.int .u32 3336571891))),(29,(.c (.int .u32 3584528711))),(30,(.c (.int .u32 113926993))),(31,
 (.c (.int .u32 338241895))),(32,(.c (.int .u32 666307205))),(33,(.c (.int .u32 773529912))),(34,(.c (.int .u32 1294757372))),(35,(.c (.int .u32 1396182291))),(36,
 (.c (.int .u32 1695183700))),(37,(.c (.int .u32 1986661051))),(38,(.c (.int .u32 2177026350))),(39,(.c (.int .u32 2456956037))),(40,(.c (.int .u32 2730485921))),(41,
 (.c (.int .u32 2820302411))),(42,(.c (.int .u32 3259730800))),(43,(.c (.int .u32 3345764771))),(44,(.c (.int .u32 3516065817))),(45,(.c (.int .u32 3600352804))),(46,
 (.c (.int .u32 4094571909))),(47,(.c (.int .u32 275423344))),(48,(.c (.int .u32 430227734))),(49,(.c (.int .u32 506948616))),(50,(.c (.int .u32 659060556))),(51,(.c
 (.int .u32 883997877))),(52,(.c (.int .u32 958139571))),(53,(.c (.int .u32 1322822218))),(54,(.c (.int .u32 1537002063))),(55,(.c (.int .u32 1747873779))),(56,(.c
 (.int .u32 1955562222))),(57,(.c (.int .u32 2024104815))),(58,(.c (.int .u32 2227730452))),(59,(.c (.int .u32 2361852424))),(60,(.c (.int .u32 2428436474))),(61,(.c
 (.int .u32 2756734187))),(62,(.c (.int .u32 3204031479))),(63,(.c (.int .u32 3329325298)))]) .nil) .nil)) none]) (.ret))
theorem c423:TF E 423 n423 [(0,some 80)] t423 2 := zo (F := f423) rfl (by kernel_rfl) (by decide)

theorem ty_0:E.ty 0=⟨.struct [(0,10),(1,9),(2,14)],3,72,[(.imm .exact []),(.imm .exact []),(.imm .exact [])],false⟩ := rfl
theorem ty_2:E.ty 2=⟨.int .i64,1,8,[(.int .i64 0)],false⟩ := rfl
theorem ty_3:E.ty 3=⟨.int .i64,1,8,[(.int .i64 0)],false⟩ := rfl
theorem ty_6:E.ty 6=⟨.slice 2,1,24,[(.imm .exact [])],false⟩ := rfl
theorem ty_7:E.ty 7=⟨.bool,1,1,[(.bool false)],false⟩ := rfl
theorem ty_9:E.ty 9=⟨.slice 6,1,24,[(.imm .exact [])],false⟩ := rfl
theorem yd9:E.ty 10=⟨.slice 20,1,24,[(.imm .exact [])],false⟩ := rfl
theorem yd8:E.ty 12=⟨.int .u64,1,8,[(.int .u64 0)],false⟩ := rfl
theorem yd7:E.ty 13=⟨.int .u8,1,1,[(.int .u8 0)],false⟩ := rfl
theorem yd6:E.ty 14=⟨.slice 15,1,24,[(.imm .exact [])],false⟩ := rfl
theorem yd5:E.ty 15=⟨.struct [(0,2),(1,2),(2,6),(3,16)],4,64,[(.int .i64 0),(.int .i64 0),(.imm .exact []),(.imm .exact [])],false⟩ := rfl
theorem yd4:E.ty 16=⟨.slice 17,1,24,[(.imm .exact [])],false⟩ := rfl
theorem yd3:E.ty 17=⟨.struct [(0,2),(1,2),(2,2),(3,18)],4,48,[(.int .i64 0),(.int .i64 0),(.int .i64 0),(.imm .exact [])],false⟩ := rfl
theorem yd2:E.ty 18=⟨.slice 19,1,24,[(.imm .exact [])],false⟩ := rfl
theorem yd1:E.ty 19=⟨.struct [(0,20),(3,2)],4,32,[(.bool false),(.int .i64 0),(.int .i64 0),(.int .i64 0)],true⟩ := rfl
theorem yd0:E.ty 20=⟨.struct [(0,7),(1,2),(2,2)],3,24,[(.bool false),(.int .i64 0),(.int .i64 0)],true⟩ := rfl
theorem ycz:E.ty 21=⟨.map 20 7,1,8,[(.map none)],false⟩ := rfl
theorem ycy:E.ty 30=⟨.slice 13,1,24,[(.imm .exact [])],false⟩ := rfl
theorem ycx:E.ty 36=⟨.slice 37,1,24,[(.imm .exact [])],false⟩ := rfl
theorem ycw:E.ty 37=⟨.struct [(0,2),(1,2),(2,2)],3,24,[(.int .i64 0),(.int .i64 0),(.int .i64 0)],true⟩ := rfl
theorem ycv:E.ty 53=⟨.str,1,16,[(.str [])],false⟩ := rfl
theorem ycu:E.ty 54=⟨.int .i8,1,1,[(.int .i8 0)],false⟩ := rfl
theorem yct:E.ty 55=⟨.struct [(0,2),(1,2),(2,53),(3,56)],4,56,[(.int .i64 0),(.int .i64 0),(.str []),(.imm .exact [])],false⟩ := rfl
theorem ycs:E.ty 56=⟨.slice 55,1,24,[(.imm .exact [])],false⟩ := rfl
theorem ycr:E.ty 57=⟨.arr 4 58,4,32,[.nilfn,.nilfn,.nilfn,.nilfn],false⟩ := rfl
theorem ycq:E.ty 58=⟨.struct [(0,59)],1,8,[.nilfn],false⟩ := rfl
theorem ycp:E.ty 59=⟨.func,1,8,[.nilfn],false⟩ := rfl
theorem yco:E.ty 60=⟨.struct [(0,30)],1,24,[(.imm .exact [])],false⟩ := rfl
theorem ycn:E.ty 62=⟨.ptr 57,1,8,[.nilp],false⟩ := rfl
theorem ycm:E.ty 63=⟨.int .u64,1,8,[(.int .u64 0)],false⟩ := rfl
theorem ycl:E.ty 64=⟨.arr 4 7,4,4,[(.bool false),(.bool false),(.bool false),(.bool false)],true⟩ := rfl
theorem yck:E.ty 65=⟨.struct [(0,2),(1,2)],2,16,[(.int .i64 0),(.int .i64 0)],true⟩ := rfl
theorem ycj:E.ty 66=⟨.slice 72,1,24,[(.imm .exact [])],false⟩ := rfl
theorem yci:E.ty 67=⟨.slice 65,1,24,[(.imm .exact [])],false⟩ := rfl
theorem ych:E.ty 68=⟨.struct [(0,2),(1,2),(2,66)],3,40,[(.int .i64 0),(.int .i64 0),(.imm .exact [])],false⟩ := rfl
theorem ycg:E.ty 69=⟨.slice 68,1,24,[(.imm .exact [])],false⟩ := rfl
theorem ycf:E.ty 70=⟨.slice 71,1,24,[(.imm .exact [])],false⟩ := rfl
theorem yce:E.ty 71=⟨.struct [(0,2),(1,2),(2,2),(3,66),(4,73)],36,80,[(.int .i64 0),(.int .i64 0),(.int .i64 0),(.imm .exact []),(.int .u8 0),(.int .u8 0),(.int .u8 0),(.int .u8 0),(.int .u8 0),(.int .u8 0),(.int .u8 0),(.int .u8 0),(.int .u8 0),(.int .u8 0),(.int .u8 0),(.int .u8 0),(.int .u8 0),(.int .u8 0),(.int .u8 0),(.int .u8 0),(.int .u8 0),(.int .u8 0),(.int .u8 0),(.int .u8 0),(.int .u8 0),(.int .u8 0),(.int .u8 0),(.int .u8 0),(.int .u8 0),(.int .u8 0),(.int .u8 0),(.int .u8 0),(.int .u8 0),(.int .u8 0),(.int .u8 0),(.int .u8 0)],false⟩ := rfl
theorem ycd:E.ty 72=⟨.struct [(0,65),(2,2)],3,24,[(.int .i64 0),(.int .i64 0),(.int .i64 0)],true⟩ := rfl
theorem ycc:E.ty 73=⟨.arr 32 13,32,32,[(.int .u8 0),(.int .u8 0),(.int .u8 0),(.int .u8 0),(.int .u8 0),(.int .u8 0),(.int .u8 0),(.int .u8 0),(.int .u8 0),(.int .u8 0),(.int .u8 0),(.int .u8 0),(.int .u8 0),(.int .u8 0),(.int .u8 0),(.int .u8 0),(.int .u8 0),(.int .u8 0),(.int .u8 0),(.int .u8 0),(.int .u8 0),(.int .u8 0),(.int .u8 0),(.int .u8 0),(.int .u8 0),(.int .u8 0),(.int .u8 0),(.int .u8 0),(.int .u8 0),(.int .u8 0),(.int .u8 0),(.int .u8 0)],true⟩ := rfl
theorem ycb:E.ty 74=⟨.slice 30,1,24,[(.imm .exact [])],false⟩ := rfl
theorem yca:E.ty 75=⟨.map 65 2,1,8,[(.map none)],false⟩ := rfl
theorem yc9:E.ty 76=⟨.arr 8 78,8,32,[(.int .u32 0),(.int .u32 0),(.int .u32 0),(.int .u32 0),(.int .u32 0),(.int .u32 0),(.int .u32 0),(.int .u32 0)],true⟩ := rfl
theorem yc8:E.ty 77=⟨.arr 8 78,8,32,[(.int .u32 0),(.int .u32 0),(.int .u32 0),(.int .u32 0),(.int .u32 0),(.int .u32 0),(.int .u32 0),(.int .u32 0)],true⟩ := rfl
theorem yc7:E.ty 78=⟨.int .u32,1,4,[(.int .u32 0)],false⟩ := rfl
theorem yc6:E.ty 79=⟨.int .i64,1,8,[(.int .i64 0)],false⟩ := rfl
theorem yc5:E.ty 80=⟨.arr 64 78,64,256,[(.int .u32 0),(.int .u32 0),(.int .u32 0),(.int .u32 0),(.int .u32 0),(.int .u32 0),(.int .u32 0),(.int .u32 0),(.int .u32 0),(.int .u32 0),(.int .u32 0),(.int .u32 0),(.int .u32 0),(.int .u32 0),(.int .u32 0),(.int .u32 0),(.int .u32 0),(.int .u32 0),(.int .u32 0),(.int .u32 0),(.int .u32 0),(.int .u32 0),(.int .u32 0),(.int .u32 0),(.int .u32 0),(.int .u32 0),(.int .u32 0),(.int .u32 0),(.int .u32 0),(.int .u32 0),(.int .u32 0),(.int .u32 0),(.int .u32 0),(.int .u32 0),(.int .u32 0),(.int .u32 0),(.int .u32 0),(.int .u32 0),(.int .u32 0),(.int .u32 0),(.int .u32 0),(.int .u32 0),(.int .u32 0),(.int .u32 0),(.int .u32 0),(.int .u32 0),(.int .u32 0),(.int .u32 0),(.int .u32 0),(.int .u32 0),(.int .u32 0),(.int .u32 0),(.int .u32 0),(.int .u32 0),(.int .u32 0),(.int .u32 0),(.int .u32 0),(.int .u32 0),(.int .u32 0),(.int .u32 0),(.int .u32 0),(.int .u32 0),(.int .u32 0),(.int .u32 0)],true⟩ := rfl
theorem yc4:E.ty 81=⟨.slice 78,1,24,[(.imm .exact [])],false⟩ := rfl
theorem yc3:E.ty 82=⟨.int .u64,1,8,[(.int .u64 0)],false⟩ := rfl
theorem zvt:E.mp 291=true := rfl
theorem zvs:E.mp 292=true := rfl
theorem zvr:E.mp 305=true := rfl
theorem zvq:E.mp 306=true := rfl
theorem zvp:E.mp 308=true := rfl

end Dv
