/- Texts that a proof of this claim uses, joined: Dv.Code. -/
import Derived.Test.YtejanbpdkinjfaaDoorDva
set_option linter.all false
namespace Dv
open Go (IntKind BinOp UnOp)

abbrev oO (n : Nat) (x : DOp) : DOpr := ⟨some n,x,none⟩
abbrev oE (x : DOp) : DOpr := ⟨none,x,none⟩
abbrev oM (n k : Nat) : DOpr := ⟨some n,.move (.t k),none⟩
abbrev u9I (k : Int) : Opd := .c (.int .i64 k)
abbrev u9B (k : Bool) : Opd := .c (.bool k)
abbrev u9G (n : Nat) (x : DOp) (k : Nat) : DOpr := ⟨some n,x,some (k,false)⟩
abbrev oL (n t a : Nat) : DOpr := ⟨some n,.load t (.t a),none⟩
abbrev oF (n t a k : Nat) : DOpr := ⟨some n,.faddr t (.t a) k,none⟩
abbrev oI (n t a b : Nat) : DOpr := ⟨some n,.iaddr t (.t a) (.t b),none⟩
abbrev oN (n t a : Nat) : DOpr := ⟨some n,.len t (.t a),none⟩
abbrev oA (n a : Nat) : DOpr := ⟨some n,.assign (.t a),none⟩
abbrev rg (l : List DOpr) : DC := .region false [] l
def f74 : DFn := ⟨20,[.tmp 4],
 .seq (rg [oO 4 (.assign (u9I 0))])
(.seq (rg [oM 7 0,
 oO 8 (.call 0 (.f 107) [(.t 7)]),
 oA 5 8])
(.seq (rg [oM 9 1,
 oO 10 (.call 0 (.f 107) [(.t 9)]),
 oA 6 10])
(.seq (.seq (rg [oM 11 5])
(.cond (.t 11) (.seq (.seq (rg [oM 12 6])
(.cond (.t 12) (.seq (rg [oO 4 (.assign (u9I 0))])
(.ret)) (.skip)))
(.seq (rg [oO 4 (.assign (.c (.int .i64 (-1))))])
(.ret))) (.skip)))
(.seq (.seq (rg [oM 13 6])
(.cond (.t 13) (.seq (rg [oO 4 (.assign (u9I 1))])
(.ret)) (.skip)))
(.seq (.seq (rg [oM 14 0,
 oM 15 1,
 oO 16 (.bin .lss 2 (.t 14) (.t 15))])
(.cond (.t 16) (.seq (rg [oO 4 (.assign (.c (.int .i64 (-1))))])
(.ret)) (.skip)))
(.seq (.seq (rg [oM 17 0,
 oM 18 1,
 oO 19 (.bin .gtr 2 (.t 17) (.t 18))])
(.cond (.t 19) (.seq (rg [oO 4 (.assign (u9I 1))])
(.ret)) (.skip)))
(.seq (rg [oO 4 (.assign (u9I 0))])
(.ret))))))))⟩

def f105 : DFn := ⟨18,[.tmp 2],
 .seq (rg [oO 2 (.assign (u9I 0))])
(.seq (rg [oO 3 (.assign (u9I 0))])
(.seq (.seq (rg [oM 6 0,
 oN 7 6 6,
 oO 8 (.move (u9I 0))])
(.block 0 (.loop (.seq (rg [oO 9 (.bin .lss 2 (.t 8) (.t 7))])
(.seq (.cond (.t 9) (.skip) (.exit 0))
(.seq (.block 1 (.seq (rg [oI 10 6 6 8,
 oL 11 2 10,
 oA 5 11])
(.seq (rg [oM 12 5,
 oM 13 3,
 oO 14 (.bin .neq 2 (.t 12) (.t 13))])
(.cond (.t 14) (.seq (rg [oM 15 5,
 oA 2 15])
(.ret)) (.skip)))))
(rg [oO 16 (.bin .add 2 (.t 8) (u9I 1)),
 oM 8 16])))))))
(.seq (rg [oM 17 3,
 oA 2 17])
(.ret))))⟩

def f107 : DFn := ⟨6,[.tmp 2],
 .seq (rg [oO 2 (.assign (u9B false))])
(.seq (rg [oM 3 0,
 oM 4 0,
 oO 5 (.bin .neq 2 (.t 3) (.t 4)),
 oA 2 5])
(.ret))⟩

def f264 : DFn := ⟨19,[.tmp 2,.tmp 3],
 .seq (rg [oO 1 (.ibox 55 (.t 0)),
 oO 2 (.assign (.c (.imm .exact []))),
 oO 3 (.assign (u9I 0))])
(.seq (.seq (rg [oO 5 (.iload 55 (.t 1)),
 oO 6 (.call 0 (.f 281) [(.t 5)]),
 oA 4 6])
(.seq (rg [oM 7 4,
 oO 8 (.bin .neq 3 (.t 7) (u9I 0))])
(.cond (.t 8) (.seq (rg [oM 9 4,
 oO 2 (.assign (.c (.imm .exact []))),
 oA 3 9])
(.ret)) (.skip))))
(.seq (.region true [] [
 oO 10 (.call 4 (.f 282) []),
 oF 11 55 1 0,
 oO 12 (.iload 2 (.t 11)),
 oO 13 (.nilc (.t 10)),
 oI 14 57 13 12,
 oF 15 58 14 0,
 oL 16 59 15,
 oO 17 (.iload 55 (.t 1)),
 oO 18 (.call 2 (.t 16) [(.c (.imm .exact [])),(.t 17)]),
 oA 2 18,
 oO 3 (.assign (u9I 0))])
(.ret)))⟩

def f281 : DFn := ⟨16,[.tmp 2],
 .seq (rg [oO 1 (.ibox 55 (.t 0)),
 oO 2 (.assign (u9I 0))])
(.seq (rg [oO 6 (.iload 55 (.t 1)),
 oO 7 (.call 0 (.f 297) [(.t 6)]),
 oM 5 7,
 oO 8 (.extract (.t 5) 0),
 oO 9 (.extract (.t 5) 1),
 oA 3 8,
 oA 4 9])
(.seq (.block 0 (.seq (rg [oM 11 4,
 oO 12 (.un .not (.t 11)),
 oA 10 12])
(.cond (.t 10) (.seq (rg [oO 2 (.assign (u9I 1))])
(.ret)) (.seq (rg [oM 14 3,
 oO 15 (.bin .gtr 2 (.t 14) (u9I 16)),
 oA 13 15])
(.cond (.t 13) (.seq (rg [oO 2 (.assign (u9I 2))])
(.ret)) (.skip))))))
(.seq (rg [oO 2 (.assign (u9I 0))])
(.ret))))⟩

def f282 : DFn := ⟨18,[.tmp 0],
 .seq (rg [oO 0 (.assign (.c .nilp))])
(.seq (rg [oO 2 (.build 57 []),
 oO 3 (.box 57 (.t 2)),
 oO 1 (.alloc 62),
 oE (.store 62 (.t 1) (.t 3))])
(.seq (rg [oL 4 62 1,
 oO 5 (.nilc (.t 4)),
 oO 6 (.iaddr 57 (.t 5) (u9I 1)),
 oF 7 58 6 0,
 oE (.store 59 (.t 7) (.f 298))])
(.seq (rg [oL 8 62 1,
 oO 9 (.nilc (.t 8)),
 oO 10 (.iaddr 57 (.t 9) (u9I 2)),
 oF 11 58 10 0,
 oE (.store 59 (.t 11) (.f 299))])
(.seq (rg [oL 12 62 1,
 oO 13 (.mkfn 300 [(.t 1)]),
 oO 14 (.nilc (.t 12)),
 oO 15 (.iaddr 57 (.t 14) (u9I 3)),
 oF 16 58 15 0,
 oE (.store 59 (.t 16) (.t 13))])
(.seq (rg [oL 17 62 1,
 oA 0 17])
(.ret))))))⟩

def f297 : DFn := ⟨74,[.tmp 2,.tmp 3],
 .seq (rg [oO 1 (.ibox 55 (.t 0)),
 oO 2 (.assign (u9I 0)),
 oO 3 (.assign (u9B false))])
(.seq (rg [oF 9 55 1 2,
 oO 10 (.iload 53 (.t 9)),
 oO 11 (.bin .eql 53 (.t 10) (.c (.str []))),
 oM 12 11,
⟨(some 13),.faddr 55 (.t 1) 3,(some (12,true))⟩,
⟨(some 14),.iload 56 (.t 13),(some (12,true))⟩,
⟨(some 15),.len 56 (.t 14),(some (12,true))⟩,
⟨(some 16),.bin .eql 2 (.t 15) (u9I 0),(some (12,true))⟩,
 oO 17 (.pick (.t 12) (.t 16) (u9B false)),
 oF 18 55 1 1,
 oO 19 (.iload 2 (.t 18)),
 oO 20 (.bin .eql 2 (.t 19) (u9I 0)),
 oM 21 20,
⟨(some 22),.faddr 55 (.t 1) 3,(some (21,true))⟩,
⟨(some 23),.iload 56 (.t 22),(some (21,true))⟩,
⟨(some 24),.len 56 (.t 23),(some (21,true))⟩,
⟨(some 25),.bin .eql 2 (.t 24) (u9I 0),(some (21,true))⟩,
 oO 26 (.pick (.t 21) (.t 25) (u9B false)),
 oF 27 55 1 1,
 oO 28 (.iload 2 (.t 27)),
 oO 29 (.bin .eql 2 (.t 28) (u9I 0)),
 oM 30 29,
⟨(some 31),.faddr 55 (.t 1) 2,(some (30,true))⟩,
⟨(some 32),.iload 53 (.t 31),(some (30,true))⟩,
⟨(some 33),.bin .eql 53 (.t 32) (.c (.str [])),(some (30,true))⟩,
 oO 34 (.pick (.t 30) (.t 33) (u9B false)),
 oO 35 (.build 64 [(1,(.t 17)),(2,(.t 26)),(3,(.t 34))]),
 oO 4 (.alloc 64),
 oE (.store 64 (.t 4) (.t 35))])
(.seq (.seq (rg [oF 36 55 1 0,
 oO 37 (.iload 2 (.t 36)),
 oO 38 (.bin .lss 2 (.t 37) (u9I 1)),
 oM 39 38,
 u9G 40 (.faddr 55 (.t 1) 0) 39,
 u9G 41 (.iload 2 (.t 40)) 39,
 u9G 42 (.bin .gtr 2 (.t 41) (u9I 3)) 39,
 oO 43 (.pick (.t 39) (u9B true) (.t 42)),
 oM 44 43,
 u9G 45 (.faddr 55 (.t 1) 0) 44,
 u9G 46 (.iload 2 (.t 45)) 44,
 u9G 47 (.iaddr 64 (.t 4) (.t 46)) 44,
 u9G 48 (.load 7 (.t 47)) 44,
 u9G 49 (.un .not (.t 48)) 44,
 oO 50 (.pick (.t 44) (u9B true) (.t 49))])
(.cond (.t 50) (.seq (rg [oO 2 (.assign (u9I 0)),
 oO 3 (.assign (u9B false))])
(.ret)) (.skip)))
(.seq (.seq (rg [oF 51 55 1 0,
 oO 52 (.iload 2 (.t 51)),
 oO 53 (.bin .lss 2 (.t 52) (u9I 3))])
(.cond (.t 53) (.seq (rg [oO 2 (.assign (u9I 0)),
 oO 3 (.assign (u9B true))])
(.ret)) (.skip)))
(.seq (.seq (rg [oF 54 55 1 3,
 oO 55 (.iload 56 (.t 54)),
 oN 56 56 55,
 oO 57 (.move (u9I 0))])
(.block 0 (.loop (.seq (rg [oO 58 (.bin .lss 2 (.t 57) (.t 56))])
(.seq (.cond (.t 58) (.skip) (.exit 0))
(.seq (.block 1 (.seq (rg [oI 59 56 55 57,
 oL 60 55 59,
 oO 6 (.alloc 55),
 oE (.store 55 (.t 6) (.t 60))])
(.seq (rg [oL 62 55 6,
 oO 63 (.call 0 (.f 297) [(.t 62)]),
 oM 61 63,
 oO 64 (.extract (.t 61) 0),
 oO 65 (.extract (.t 61) 1),
 oA 7 64,
 oA 8 65])
(.seq (.seq (rg [oM 66 8,
 oO 67 (.un .not (.t 66))])
(.cond (.t 67) (.seq (rg [oO 2 (.assign (u9I 0)),
 oO 3 (.assign (u9B false))])
(.ret)) (.skip)))
(rg [oM 68 2,
 oM 69 7,
 oO 70 (.maxi [(.t 68),(.t 69)]),
 oA 2 70])))))
(rg [oO 71 (.bin .add 2 (.t 57) (u9I 1)),
 oM 57 71])))))))
(.seq (rg [oM 72 2,
 oO 73 (.bin .add 2 (.t 72) (u9I 1)),
 oA 2 73,
 oO 3 (.assign (u9B true))])
(.ret))))))⟩

def f298 : DFn := ⟨12,[.tmp 4],
 .seq (rg [oO 3 (.ibox 55 (.t 1)),
 oO 4 (.assign (.c (.imm .exact [])))])
(.seq (.region true [] [
 oM 5 0,
 oO 6 (.bslice false 30 1 [(0,(.c (.int .u8 1)))]),
 oO 7 (.append 0 30 30 (.t 5) (.t 6)),
 oF 8 55 3 1,
 oO 9 (.iload 2 (.t 8)),
 oO 10 (.call 0 (.f 311) [(.t 9)]),
 oO 11 (.call 2 (.f 312) [(.t 7),(.t 10)]),
 oA 4 11])
(.ret))⟩

def f299 : DFn := ⟨16,[.tmp 4],
 .seq (rg [oO 3 (.ibox 55 (.t 1)),
 oO 4 (.assign (.c (.imm .exact [])))])
(.seq (.region true [] [
 oM 5 0,
 oO 6 (.bslice false 30 1 [(0,(.c (.int .u8 2)))]),
 oO 7 (.append 0 30 30 (.t 5) (.t 6)),
 oF 8 55 3 2,
 oO 9 (.iload 53 (.t 8)),
 oN 10 53 9,
 oO 11 (.conv 2 63 (.t 10)),
 oO 12 (.call 2 (.f 312) [(.t 7),(.t 11)]),
 oF 13 55 3 2,
 oO 14 (.iload 53 (.t 13)),
 oO 15 (.append 0 30 53 (.t 12) (.t 14)),
 oA 4 15])
(.ret))⟩

def f300 : DFn := ⟨35,[.tmp 5],
 .seq (rg [oO 4 (.ibox 55 (.t 1)),
 oO 5 (.assign (.c (.imm .exact [])))])
(.seq (.region true [] [
 oM 8 0,
 oO 9 (.bslice false 30 1 [(0,(.c (.int .u8 3)))]),
 oO 10 (.append 0 30 30 (.t 8) (.t 9)),
 oF 11 55 4 3,
 oO 12 (.iload 56 (.t 11)),
 oN 13 56 12,
 oO 14 (.conv 2 63 (.t 13)),
 oO 15 (.call 2 (.f 312) [(.t 10),(.t 14)]),
 oA 0 15])
(.seq (.seq (rg [oF 16 55 4 3,
 oO 17 (.iload 56 (.t 16)),
 oN 18 56 17,
 oO 19 (.move (u9I 0))])
(.block 0 (.loop (.seq (rg [oO 20 (.bin .lss 2 (.t 19) (.t 18))])
(.seq (.cond (.t 20) (.skip) (.exit 0))
(.seq (.block 1 (.seq (rg [oI 21 56 17 19,
 oL 22 55 21,
 oO 7 (.alloc 55),
 oE (.store 55 (.t 7) (.t 22))])
(.region true [] [
 oL 23 62 2,
 oF 24 55 7 0,
 oL 25 2 24,
 oO 26 (.nilc (.t 23)),
 oI 27 57 26 25,
 oF 28 58 27 0,
 oL 29 59 28,
 oM 30 0,
 oL 31 55 7,
 oO 32 (.call 2 (.t 29) [(.t 30),(.t 31)]),
 oA 0 32])))
(rg [oO 33 (.bin .add 2 (.t 19) (u9I 1)),
 oM 19 33])))))))
(.seq (rg [oM 34 0,
 oA 5 34])
(.ret))))⟩

def f311 : DFn := ⟨10,[.tmp 2],
 .seq (rg [oO 2 (.assign (.c (.int .u64 0)))])
(.seq (rg [oM 3 0,
 oO 4 (.conv 2 63 (.t 3)),
 oO 5 (.bin .shl 63 (.t 4) (.c (.int .u64 1))),
 oM 6 0,
 oO 7 (.bin .shr 2 (.t 6) (.c (.int .u64 63))),
 oO 8 (.conv 2 63 (.t 7)),
 oO 9 (.bin .xor 63 (.t 5) (.t 8)),
 oA 2 9])
(.ret))⟩

def f312 : DFn := ⟨20,[.tmp 4],
 .seq (rg [oO 4 (.assign (.c (.imm .exact [])))])
(.seq (.block 0 (.loop (.seq (.seq (rg [oM 5 1,
 oO 6 (.bin .geq 63 (.t 5) (.c (.int .u64 128)))])
(.cond (.t 6) (.skip) (.exit 0)))
(.seq (.block 1 (rg [oM 9 0,
 oM 10 1,
 oO 11 (.conv 63 13 (.t 10)),
 oO 12 (.bin .or 13 (.t 11) (.c (.int .u8 128))),
 oO 13 (.bslice false 30 1 [(0,(.t 12))]),
 oO 14 (.append 0 30 30 (.t 9) (.t 13)),
 oA 0 14]))
(rg [oM 7 1,
 oO 8 (.bin .shr 63 (.t 7) (.c (.int .u64 7))),
 oA 1 8])))))
(.seq (rg [oM 15 0,
 oM 16 1,
 oO 17 (.conv 63 13 (.t 16)),
 oO 18 (.bslice false 30 1 [(0,(.t 17))]),
 oO 19 (.append 0 30 30 (.t 15) (.t 18)),
 oA 4 19])
(.ret)))⟩

def f314 : DFn := ⟨210,[.tmp 0],
 .seq (rg [oO 0 (.assign (u9B false))])
(.seq (rg [oO 26 (.build 65 [(0,(u9I 1)),(1,(u9I 3))]),
 oO 1 (.alloc 65),
 oE (.store 65 (.t 1) (.t 26))])
(.seq (rg [oO 28 (.call 0 (.f 353) [(u9I 7)]),
 oO 29 (.call 0 (.f 316) [(.c (.imm .exact [])),(u9I 5),(.c (.int .i64 (-1))),(.t 28)]),
 oM 27 29,
 oO 30 (.extract (.t 27) 0),
 oO 31 (.extract (.t 27) 1),
 oA 2 30,
 oA 3 31])
(.seq (rg [oM 33 2,
 oO 34 (.call 0 (.f 353) [(.c (.int .i64 (-2)))]),
 oO 35 (.call 0 (.f 316) [(.t 33),(u9I 9),(u9I 0),(.t 34)]),
 oM 32 35,
 oO 36 (.extract (.t 32) 0),
 oO 37 (.extract (.t 32) 1),
 oA 4 36,
 oA 5 37])
(.seq (rg [oO 39 (.call 0 (.f 353) [(u9I 7)]),
 oO 40 (.call 0 (.f 316) [(.c (.imm .exact [])),(u9I 5),(u9I 0),(.t 39)]),
 oM 38 40,
 oO 41 (.extract (.t 38) 0),
 oO 42 (.extract (.t 38) 1),
 oA 6 41,
 oA 7 42])
(.seq (rg [oO 43 (.call 2 (.f 353) [(u9I 3)]),
 oA 8 43])
(.seq (rg [oM 44 8,
 oO 45 (.iaddr 66 (.t 44) (u9I 1)),
 oF 46 72 45 1,
 oE (.store 2 (.t 46) (.c (.int .i64 (-2))))])
(.seq (rg [oM 48 8,
 oO 49 (.call 1 (.f 316) [(.c (.imm .exact [])),(u9I 5),(.c (.int .i64 (-1))),(.t 48)]),
 oM 47 49,
 oO 50 (.extract (.t 47) 0),
 oO 51 (.extract (.t 47) 1),
 oA 9 50,
 oA 10 51])
(.seq (rg [oM 53 2,
 oO 54 (.call 0 (.f 353) [(u9I 1)]),
 oO 55 (.call 0 (.f 316) [(.t 53),(u9I 4),(u9I 0),(.t 54)]),
 oM 52 55,
 oO 56 (.extract (.t 52) 0),
 oO 57 (.extract (.t 52) 1),
 oA 11 56,
 oA 12 57])
(.seq (rg [oM 59 4,
 oL 60 65 1,
 oO 61 (.call 0 (.f 318) [(.t 59),(.t 60),(u9I 8)]),
 oM 58 61,
 oO 62 (.extract (.t 58) 0),
 oO 63 (.extract (.t 58) 1),
 oA 13 62,
 oA 14 63])
(.seq (rg [oM 65 4,
 oL 66 65 1,
 oO 67 (.call 0 (.f 318) [(.t 65),(.t 66),(u9I 9)]),
 oM 64 67,
 oO 68 (.extract (.t 64) 0),
 oO 69 (.extract (.t 64) 1),
 oA 15 68,
 oA 16 69])
(.seq (rg [oL 71 65 1,
 oO 72 (.call 0 (.f 318) [(.c (.imm .exact [])),(.t 71),(u9I 1439)]),
 oM 70 72,
 oO 73 (.extract (.t 70) 0),
 oO 74 (.extract (.t 70) 1),
 oA 17 73,
 oA 18 74])
(.seq (rg [oO 76 (.build 71 []),
 oO 77 (.call 0 (.f 334) [(.t 76)]),
 oM 75 77,
 oO 78 (.extract (.t 75) 0),
 oO 79 (.extract (.t 75) 1),
 oA 19 78,
 oA 20 79])
(.seq (rg [oM 81 2,
 oO 82 (.call 0 (.f 329) [(.t 81)]),
 oM 80 82,
 oO 83 (.extract (.t 80) 0),
 oO 84 (.extract (.t 80) 1),
 oO 21 (.alloc 73),
 oE (.store 73 (.t 21) (.t 83)),
 oA 22 84])
(.seq (rg [oO 86 (.call 0 (.f 329) [(.c (.imm .exact []))]),
 oM 85 86,
 oO 87 (.extract (.t 85) 0),
 oO 88 (.extract (.t 85) 1),
 oO 23 (.alloc 73),
 oE (.store 73 (.t 23) (.t 87)),
 oA 24 88])
(.seq (.seq (rg [oM 89 3,
 oO 90 (.bin .neq 3 (.t 89) (u9I 0)),
 oM 91 90,
 u9G 92 (.move (.t 5)) 91,
 u9G 93 (.bin .neq 3 (.t 92) (u9I 0)) 91,
 oO 94 (.pick (.t 91) (u9B true) (.t 93)),
 oM 95 94,
 u9G 96 (.move (.t 7)) 95,
 u9G 97 (.bin .neq 3 (.t 96) (u9I 410)) 95,
 oO 98 (.pick (.t 95) (u9B true) (.t 97)),
 oM 99 98,
 u9G 100 (.move (.t 10)) 99,
 u9G 101 (.bin .neq 3 (.t 100) (u9I 411)) 99,
 oO 102 (.pick (.t 99) (u9B true) (.t 101)),
 oM 103 102,
 u9G 104 (.move (.t 12)) 103,
 u9G 105 (.bin .neq 3 (.t 104) (u9I 410)) 103,
 oO 106 (.pick (.t 103) (u9B true) (.t 105)),
 oM 107 106,
 u9G 108 (.move (.t 14)) 107,
 u9G 109 (.bin .neq 3 (.t 108) (u9I 0)) 107,
 oO 110 (.pick (.t 107) (u9B true) (.t 109)),
 oM 111 110,
 u9G 112 (.move (.t 16)) 111,
 u9G 113 (.bin .neq 3 (.t 112) (u9I 0)) 111,
 oO 114 (.pick (.t 111) (u9B true) (.t 113)),
 oM 115 114,
 u9G 116 (.move (.t 18)) 115,
 u9G 117 (.bin .neq 3 (.t 116) (u9I 0)) 115,
 oO 118 (.pick (.t 115) (u9B true) (.t 117)),
 oM 119 118,
 u9G 120 (.move (.t 20)) 119,
 u9G 121 (.bin .neq 3 (.t 120) (u9I 410)) 119,
 oO 122 (.pick (.t 119) (u9B true) (.t 121)),
 oM 123 122,
 u9G 124 (.move (.t 22)) 123,
 u9G 125 (.bin .neq 3 (.t 124) (u9I 0)) 123,
 oO 126 (.pick (.t 123) (u9B true) (.t 125)),
 oM 127 126,
 u9G 128 (.move (.t 24)) 127,
 u9G 129 (.bin .neq 3 (.t 128) (u9I 0)) 127,
 oO 130 (.pick (.t 127) (u9B true) (.t 129)),
 oM 131 130,
 u9G 132 (.move (.t 4)) 131,
 u9G 133 (.len 70 (.t 132)) 131,
 u9G 134 (.bin .neq 2 (.t 133) (u9I 2)) 131,
 oO 135 (.pick (.t 131) (u9B true) (.t 134))])
(.cond (.t 135) (.seq (rg [oO 0 (.assign (u9B false))])
(.ret)) (.skip)))
(.seq (rg [oM 136 4,
 oO 137 (.call 0 (.f 325) [(.t 136)]),
 oA 25 137])
(.seq (.region true [] [
 oM 138 13,
 oO 139 (.bin .eql 2 (.t 138) (u9I 7)),
 oM 140 139,
⟨(some 141),.move (.t 15),(some (140,true))⟩,
⟨(some 142),.bin .eql 2 (.t 141) (u9I 5),(some (140,true))⟩,
 oO 143 (.pick (.t 140) (.t 142) (u9B false)),
 oM 144 143,
⟨(some 145),.move (.t 17),(some (144,true))⟩,
⟨(some 146),.bin .eql 2 (.t 145) (u9I 0),(some (144,true))⟩,
 oO 147 (.pick (.t 144) (.t 146) (u9B false)),
 oM 148 147,
⟨(some 149),.move (.t 4),(some (148,true))⟩,
⟨(some 150),.iaddr 70 (.t 149) (u9I 1),(some (148,true))⟩,
⟨(some 151),.faddr 71 (.t 150) 4,(some (148,true))⟩,
⟨(some 152),.load 73 (.t 151),(some (148,true))⟩,
⟨(some 153),.load 73 (.t 21),(some (148,true))⟩,
⟨(some 154),.bin .eql 73 (.t 152) (.t 153),(some (148,true))⟩,
 oO 155 (.pick (.t 148) (.t 154) (u9B false)),
 oM 156 155,
⟨(some 157),.move (.t 2),(some (156,true))⟩,
⟨(some 158),.iaddr 70 (.t 157) (u9I 0),(some (156,true))⟩,
⟨(some 159),.faddr 71 (.t 158) 4,(some (156,true))⟩,
⟨(some 160),.load 73 (.t 159),(some (156,true))⟩,
⟨(some 161),.load 73 (.t 23),(some (156,true))⟩,
⟨(some 162),.bin .eql 73 (.t 160) (.t 161),(some (156,true))⟩,
 oO 163 (.pick (.t 156) (.t 162) (u9B false)),
 oM 164 163,
⟨(some 165),.load 73 (.t 23),(some (164,true))⟩,
⟨(some 166),.call 0 (.f 331) [(.c (.str [112,111,115,116,105,110,103,115])),(.c (.imm .exact []))],(some (164,true))⟩,
⟨(some 167),.bin .eql 73 (.t 165) (.t 166),(some (164,true))⟩,
 oO 168 (.pick (.t 164) (.t 167) (u9B false)),
 oM 169 168,
⟨(some 170),.move (.t 4),(some (169,true))⟩,
⟨(some 171),.iaddr 70 (.t 170) (u9I 1),(some (169,true))⟩,
⟨(some 172),.faddr 71 (.t 171) 2,(some (169,true))⟩,
⟨(some 173),.load 2 (.t 172),(some (169,true))⟩,
⟨(some 174),.bin .eql 2 (.t 173) (u9I 0),(some (169,true))⟩,
 oO 175 (.pick (.t 169) (.t 174) (u9B false)),
 oM 176 175,
⟨(some 177),.move (.t 4),(some (176,true))⟩,
⟨(some 178),.iaddr 70 (.t 177) (u9I 1),(some (176,true))⟩,
⟨(some 179),.faddr 71 (.t 178) 0,(some (176,true))⟩,
⟨(some 180),.load 2 (.t 179),(some (176,true))⟩,
⟨(some 181),.bin .eql 2 (.t 180) (u9I 1),(some (176,true))⟩,
 oO 182 (.pick (.t 176) (.t 181) (u9B false)),
 oM 183 182,
⟨(some 184),.move (.t 25),(some (183,true))⟩,
⟨(some 185),.len 67 (.t 184),(some (183,true))⟩,
⟨(some 186),.bin .eql 2 (.t 185) (u9I 2),(some (183,true))⟩,
 oO 187 (.pick (.t 183) (.t 186) (u9B false)),
 oM 188 187,
⟨(some 189),.move (.t 25),(some (188,true))⟩,
⟨(some 190),.iaddr 67 (.t 189) (u9I 0),(some (188,true))⟩,
⟨(some 191),.load 65 (.t 190),(some (188,true))⟩,
⟨(some 192),.load 65 (.t 1),(some (188,true))⟩,
⟨(some 193),.bin .eql 65 (.t 191) (.t 192),(some (188,true))⟩,
 oO 194 (.pick (.t 188) (.t 193) (u9B false)),
 oM 195 194,
⟨(some 196),.move (.t 4),(some (195,true))⟩,
⟨(some 197),.call 0 (.f 324) [(.t 196)],(some (195,true))⟩,
⟨(some 198),.bin .eql 3 (.t 197) (u9I 0),(some (195,true))⟩,
 oO 199 (.pick (.t 195) (.t 198) (u9B false)),
 oM 200 199,
⟨(some 201),.call 0 (.f 324) [(.c (.imm .exact []))],(some (200,true))⟩,
⟨(some 202),.bin .eql 3 (.t 201) (u9I 0),(some (200,true))⟩,
 oO 203 (.pick (.t 200) (.t 202) (u9B false)),
 oM 204 203,
⟨(some 205),.move (.t 4),(some (204,true))⟩,
⟨(some 206),.slice 70 (.t 205) (some (u9I 1)) none none,(some (204,true))⟩,
⟨(some 207),.call 0 (.f 324) [(.t 206)],(some (204,true))⟩,
⟨(some 208),.bin .eql 3 (.t 207) (u9I 410),(some (204,true))⟩,
 oO 209 (.pick (.t 204) (.t 208) (u9B false)),
 oA 0 209])
(.ret))))))))))))))))))⟩

def f316 : DFn := ⟨56,[.tmp 8,.tmp 9],
 .seq (rg [oO 8 (.assign (.c (.imm .exact []))),
 oO 9 (.assign (u9I 0))])
(.seq (rg [oM 15 0,
 oO 16 (.call 0 (.f 354) [(.t 15)]),
 oM 14 16,
 oO 17 (.extract (.t 14) 0),
 oO 18 (.extract (.t 14) 1),
 oO 10 (.alloc 73),
 oE (.store 73 (.t 10) (.t 17)),
 oA 9 18])
(.seq (.seq (rg [oM 19 9,
 oO 20 (.bin .neq 3 (.t 19) (u9I 0))])
(.cond (.t 20) (.seq (rg [oM 21 9,
 oO 8 (.assign (.c (.imm .exact []))),
 oA 9 21])
(.ret)) (.skip)))
(.seq (.seq (rg [oM 22 0,
 oN 23 70 22,
 oO 24 (.bin .eql 2 (.t 23) (u9I 65536))])
(.cond (.t 24) (.seq (rg [oO 8 (.assign (.c (.imm .exact []))),
 oO 9 (.assign (u9I 2))])
(.ret)) (.skip)))
(.seq (.seq (rg [oM 25 0,
 oN 26 70 25,
 oA 11 26])
(.seq (rg [oM 27 11,
 oO 28 (.bin .gtr 2 (.t 27) (u9I 0)),
 oM 29 28,
⟨(some 30),.move (.t 0),(some (29,true))⟩,
⟨(some 31),.move (.t 11),(some (29,true))⟩,
⟨(some 32),.bin .sub 2 (.t 31) (u9I 1),(some (29,true))⟩,
⟨(some 33),.iaddr 70 (.t 30) (.t 32),(some (29,true))⟩,
⟨(some 34),.faddr 71 (.t 33) 1,(some (29,true))⟩,
⟨(some 35),.load 2 (.t 34),(some (29,true))⟩,
⟨(some 36),.move (.t 1),(some (29,true))⟩,
⟨(some 37),.bin .gtr 2 (.t 35) (.t 36),(some (29,true))⟩,
 oO 38 (.pick (.t 29) (.t 37) (u9B false))])
(.cond (.t 38) (.seq (rg [oO 8 (.assign (.c (.imm .exact []))),
 oO 9 (.assign (u9I 410))])
(.ret)) (.skip))))
(.seq (rg [oM 39 0,
 oN 40 70 39,
 oM 41 1,
 oM 42 2,
 oM 43 3,
 oL 44 73 10,
 oO 45 (.build 71 [(0,(.t 40)),(1,(.t 41)),(2,(.t 42)),(3,(.t 43)),(4,(.t 44))]),
 oO 12 (.alloc 71),
 oE (.store 71 (.t 12) (.t 45))])
(.seq (.seq (rg [oL 46 71 12,
 oO 47 (.call 0 (.f 355) [(.t 46)]),
 oA 13 47])
(.seq (rg [oM 48 13,
 oO 49 (.bin .neq 3 (.t 48) (u9I 0))])
(.cond (.t 49) (.seq (rg [oM 50 13,
 oO 8 (.assign (.c (.imm .exact []))),
 oA 9 50])
(.ret)) (.skip))))
(.seq (.region true [] [
 oM 51 0,
 oO 52 (.mkcall (.f 356) [(.t 51)]),
 oL 53 71 12,
 oO 54 (.bslice false 70 1 [(0,(.t 53))]),
 oO 55 (.append 2 70 70 (.t 52) (.t 54)),
 oA 8 55,
 oO 9 (.assign (u9I 0))])
(.ret))))))))⟩

def f318 : DFn := ⟨34,[.cell 6 2,.tmp 7],
 .seq (rg [oO 4 (.ibox 65 (.t 1)),
 oO 5 (.ibox 2 (.t 2)),
 oO 6 (.alloc 2),
 oO 7 (.assign (u9I 0))])
(.seq (.seq (rg [oM 11 0,
 oO 12 (.call 0 (.f 324) [(.t 11)]),
 oA 8 12])
(.seq (rg [oM 13 8,
 oO 14 (.bin .neq 3 (.t 13) (u9I 0))])
(.cond (.t 14) (.seq (rg [oM 15 8,
 oE (.store 2 (.t 6) (u9I 0)),
 oA 7 15])
(.ret)) (.skip))))
(.seq (.seq (rg [oM 16 0,
 oO 17 (.call 0 (.f 359) [(.t 16)])])
(.block 0 (.rfunc (.t 17) [18,19] (.seq (rg [oA 9 18])
(rg [oO 10 (.alloc 72),
 oE (.store 72 (.t 10) (.t 19))])) (.block 1 (.seq (rg [oM 20 9,
 oO 21 (.iload 2 (.t 5)),
 oO 22 (.bin .leq 2 (.t 20) (.t 21)),
 oM 23 22,
⟨(some 24),.faddr 72 (.t 10) 0,(some (23,true))⟩,
⟨(some 25),.load 65 (.t 24),(some (23,true))⟩,
⟨(some 26),.iload 65 (.t 4),(some (23,true))⟩,
⟨(some 27),.bin .eql 65 (.t 25) (.t 26),(some (23,true))⟩,
 oO 28 (.pick (.t 23) (.t 27) (u9B false))])
(.cond (.t 28) (rg [oL 29 2 6,
 oF 30 72 10 1,
 oL 31 2 30,
 oO 32 (.bin .add 2 (.t 29) (.t 31)),
 oE (.store 2 (.t 6) (.t 32))]) (.skip)))))))
(.seq (rg [oL 33 2 6,
 oE (.store 2 (.t 6) (.t 33)),
 oO 7 (.assign (u9I 0))])
(.ret))))⟩

def f320 : DFn := ⟨27,[.tmp 4],
 .seq (rg [oO 4 (.assign (u9B false))])
(.seq (.seq (rg [oM 6 0,
 oN 7 70 6,
 oM 8 1,
 oN 9 70 8,
 oO 10 (.bin .neq 2 (.t 7) (.t 9))])
(.cond (.t 10) (.seq (rg [oO 4 (.assign (u9B false))])
(.ret)) (.skip)))
(.seq (.seq (rg [oO 5 (.assign (u9I 0))])
(.block 0 (.loop (.seq (.seq (rg [oM 11 5,
 oM 12 0,
 oN 13 70 12,
 oO 14 (.bin .lss 2 (.t 11) (.t 13))])
(.cond (.t 14) (.skip) (.exit 0)))
(.seq (.block 1 (.seq (.region true [] [
 oM 17 0,
 oM 18 5,
 oI 19 70 17 18,
 oL 20 71 19,
 oM 21 1,
 oM 22 5,
 oI 23 70 21 22,
 oL 24 71 23,
 oO 25 (.call 0 (.f 337) [(.t 20),(.t 24)]),
 oO 26 (.un .not (.t 25))])
(.cond (.t 26) (.seq (rg [oO 4 (.assign (u9B false))])
(.ret)) (.skip))))
(rg [oM 15 5,
 oO 16 (.bin .add 2 (.t 15) (u9I 1)),
 oA 5 16]))))))
(.seq (rg [oO 4 (.assign (u9B true))])
(.ret))))⟩

def f322 : DFn := ⟨19,[.tmp 2],
 .seq (rg [oO 2 (.assign (u9B false))])
(.seq (.seq (rg [oM 5 0,
 oN 6 69 5,
 oO 7 (.move (u9I 0))])
(.block 0 (.loop (.seq (rg [oO 8 (.bin .lss 2 (.t 7) (.t 6))])
(.seq (.cond (.t 8) (.skip) (.exit 0))
(.seq (.block 1 (.seq (rg [oI 9 69 5 7,
 oL 10 68 9,
 oO 4 (.alloc 68),
 oE (.store 68 (.t 4) (.t 10))])
(.seq (rg [oF 11 68 4 2,
 oL 12 66 11,
 oN 13 66 12,
 oO 14 (.bin .gtr 2 (.t 13) (u9I 12))])
(.cond (.t 14) (.seq (rg [oO 2 (.assign (u9B false))])
(.ret)) (.skip)))))
(rg [oO 15 (.bin .add 2 (.t 7) (u9I 1)),
 oM 7 15])))))))
(.seq (rg [oM 16 0,
 oN 17 69 16,
 oO 18 (.bin .leq 2 (.t 17) (u9I 12)),
 oA 2 18])
(.ret)))⟩

def f323 : DFn := ⟨29,[.tmp 2],
 .seq (rg [oO 2 (.assign (.c (.imm .exact [])))])
(.seq (.seq (rg [oM 7 0,
 oN 8 69 7,
 oO 9 (.move (u9I 0))])
(.block 0 (.loop (.seq (rg [oO 10 (.bin .lss 2 (.t 9) (.t 8))])
(.seq (.cond (.t 10) (.skip) (.exit 0))
(.seq (.block 1 (.seq (rg [oI 11 69 7 9,
 oL 12 68 11,
 oO 4 (.alloc 68),
 oE (.store 68 (.t 4) (.t 12))])
(.seq (rg [oM 14 2,
 oF 15 68 4 0,
 oL 16 2 15,
 oF 17 68 4 1,
 oL 18 2 17,
 oF 19 68 4 2,
 oL 20 66 19,
 oO 21 (.call 0 (.f 316) [(.t 14),(.t 16),(.t 18),(.t 20)]),
 oM 13 21,
 oO 22 (.extract (.t 13) 0),
 oO 23 (.extract (.t 13) 1),
 oA 5 22,
 oA 6 23])
(.seq (rg [oM 24 6,
 oO 25 (.bin .eql 3 (.t 24) (u9I 0))])
(.cond (.t 25) (rg [oM 26 5,
 oA 2 26]) (.skip))))))
(rg [oO 27 (.bin .add 2 (.t 9) (u9I 1)),
 oM 9 27])))))))
(.seq (rg [oM 28 2,
 oA 2 28])
(.ret)))⟩

def f324 : DFn := ⟨9,[.tmp 2],
 .seq (rg [oO 2 (.assign (u9I 0))])
(.seq (rg [oM 4 0,
 oO 5 (.call 0 (.f 354) [(.t 4)]),
 oM 3 5,
 oO 6 (.extract (.t 3) 0),
 oO 7 (.extract (.t 3) 1),
 oA 2 7])
(.seq (rg [oM 8 2,
 oA 2 8])
(.ret)))⟩

def f325 : DFn := ⟨18,[.cell 2 67],
 .seq (rg [oO 2 (.alloc 67)])
(.seq (.seq (rg [oM 5 0,
 oO 6 (.call 0 (.f 359) [(.t 5)])])
(.block 0 (.rfunc (.t 6) [7,8] (rg [oO 4 (.alloc 72),
 oE (.store 72 (.t 4) (.t 8))]) (.block 1 (rg [oL 9 67 2,
 oF 10 72 4 0,
 oL 11 65 10,
 oO 12 (.bslice false 67 1 [(0,(.t 11))]),
 oO 13 (.append 2 67 67 (.t 9) (.t 12)),
 oE (.store 67 (.t 2) (.t 13))])))))
(.seq (rg [oL 14 67 2,
 oO 15 (.call 2 (.f 361) [(.t 14),(.f 362)])])
(.seq (rg [oL 16 67 2,
 oO 17 (.call 2 (.f 363) [(.t 16)]),
 oE (.store 67 (.t 2) (.t 17))])
(.ret))))⟩

def f326 : DFn := ⟨214,[.tmp 8],
 .seq (rg [oO 5 (.ibox 68 (.t 1)),
 oO 6 (.ibox 65 (.t 2)),
 oO 8 (.assign (u9B false))])
(.seq (.seq (rg [oO 33 (.call 0 (.f 314) []),
 oO 34 (.un .not (.t 33))])
(.cond (.t 34) (.seq (rg [oO 8 (.assign (u9B false))])
(.ret)) (.skip)))
(.seq (.seq (.region true [] [
 oO 35 (.bslice false 69 0 []),
 oM 36 0,
 oO 37 (.append 0 69 69 (.t 35) (.t 36)),
 oO 38 (.iload 68 (.t 5)),
 oO 39 (.bslice false 69 1 [(0,(.t 38))]),
 oO 40 (.append 0 69 69 (.t 37) (.t 39)),
 oO 41 (.call 0 (.f 322) [(.t 40)]),
 oO 42 (.un .not (.t 41))])
(.cond (.t 42) (.seq (rg [oO 8 (.assign (u9B true))])
(.ret)) (.skip)))
(.seq (rg [oM 43 0,
 oO 44 (.call 0 (.f 323) [(.t 43)]),
 oA 9 44])
(.seq (rg [oM 46 9,
 oF 47 68 5 0,
 oO 48 (.iload 2 (.t 47)),
 oF 49 68 5 1,
 oO 50 (.iload 2 (.t 49)),
 oF 51 68 5 2,
 oO 52 (.iload 66 (.t 51)),
 oO 53 (.call 0 (.f 316) [(.t 46),(.t 48),(.t 50),(.t 52)]),
 oM 45 53,
 oO 54 (.extract (.t 45) 0),
 oO 55 (.extract (.t 45) 1),
 oA 10 54,
 oA 11 55])
(.seq (.seq (rg [oM 56 11,
 oO 57 (.bin .neq 3 (.t 56) (u9I 0))])
(.cond (.t 57) (.seq (rg [oM 58 10,
 oN 59 70 58,
 oO 60 (.bin .eql 2 (.t 59) (u9I 0)),
 oA 8 60])
(.ret)) (.skip)))
(.seq (rg [oM 61 9,
 oN 62 70 61,
 oA 12 62])
(.seq (.seq (.region true [] [
 oM 63 10,
 oN 64 70 63,
 oM 65 12,
 oO 66 (.bin .add 2 (.t 65) (u9I 1)),
 oO 67 (.bin .neq 2 (.t 64) (.t 66)),
 oM 68 67,
 u9G 69 (.move (.t 10)) 68,
 u9G 70 (.move (.t 12)) 68,
 u9G 71 (.slice 70 (.t 69) none (some (.t 70)) none) 68,
 u9G 72 (.move (.t 9)) 68,
 u9G 73 (.call 0 (.f 320) [(.t 71),(.t 72)]) 68,
 u9G 74 (.un .not (.t 73)) 68,
 oO 75 (.pick (.t 68) (u9B true) (.t 74)),
 oM 76 75,
 u9G 77 (.move (.t 10)) 76,
 u9G 78 (.call 0 (.f 324) [(.t 77)]) 76,
 u9G 79 (.bin .neq 3 (.t 78) (u9I 0)) 76,
 oO 80 (.pick (.t 76) (u9B true) (.t 79)),
 oM 81 80,
 u9G 82 (.move (.t 10)) 81,
 u9G 83 (.move (.t 12)) 81,
 u9G 84 (.iaddr 70 (.t 82) (.t 83)) 81,
 u9G 85 (.faddr 71 (.t 84) 3) 81,
 u9G 86 (.load 66 (.t 85)) 81,
 u9G 87 (.faddr 68 (.t 5) 2) 81,
 u9G 88 (.iload 66 (.t 87)) 81,
 u9G 89 (.call 0 (.f 327) [(.t 86),(.t 88)]) 81,
 u9G 90 (.un .not (.t 89)) 81,
 oO 91 (.pick (.t 81) (u9B true) (.t 90))])
(.cond (.t 91) (.seq (rg [oO 8 (.assign (u9B false))])
(.ret)) (.skip)))
(.seq (rg [oO 13 (.assign (.c (.imm .exact [])))])
(.seq (rg [oO 92 (.iload 65 (.t 6)),
 oO 93 (.bslice false 67 1 [(0,(.t 92))]),
 oA 14 93])
(.seq (.seq (rg [oF 94 68 5 2,
 oO 95 (.iload 66 (.t 94)),
 oN 96 66 95,
 oO 97 (.move (u9I 0))])
(.block 0 (.loop (.seq (rg [oO 98 (.bin .lss 2 (.t 97) (.t 96))])
(.seq (.cond (.t 98) (.skip) (.exit 0))
(.seq (.block 1 (.seq (rg [oI 99 66 95 97,
 oL 100 72 99,
 oO 16 (.alloc 72),
 oE (.store 72 (.t 16) (.t 100))])
(.seq (rg [oM 101 14,
 oF 102 72 16 0,
 oL 103 65 102,
 oO 104 (.bslice false 67 1 [(0,(.t 103))]),
 oO 105 (.append 0 67 67 (.t 101) (.t 104)),
 oA 14 105])
(.seq (rg [oF 106 72 16 1,
 oL 107 2 106,
 oO 108 (.un .neg (.t 107)),
 oF 109 72 16 1,
 oE (.store 2 (.t 109) (.t 108))])
(rg [oM 110 13,
 oL 111 72 16,
 oO 112 (.bslice false 66 1 [(0,(.t 111))]),
 oO 113 (.append 0 66 66 (.t 110) (.t 112)),
 oA 13 113])))))
(rg [oO 114 (.bin .add 2 (.t 97) (u9I 1)),
 oM 97 114])))))))
(.seq (rg [oM 116 10,
 oF 117 68 5 0,
 oO 118 (.iload 2 (.t 117)),
 oM 119 12,
 oM 120 13,
 oO 121 (.call 0 (.f 316) [(.t 116),(.t 118),(.t 119),(.t 120)]),
 oM 115 121,
 oO 122 (.extract (.t 115) 0),
 oO 123 (.extract (.t 115) 1),
 oA 17 122,
 oA 18 123])
(.seq (.seq (rg [oM 124 18,
 oO 125 (.bin .neq 3 (.t 124) (u9I 0))])
(.cond (.t 125) (.seq (rg [oM 126 12,
 oO 127 (.bin .add 2 (.t 126) (u9I 1)),
 oO 128 (.bin .geq 2 (.t 127) (u9I 65536)),
 oA 8 128])
(.ret)) (.skip)))
(.seq (.seq (rg [oM 129 14,
 oN 130 67 129,
 oO 131 (.move (u9I 0))])
(.block 2 (.loop (.seq (rg [oO 132 (.bin .lss 2 (.t 131) (.t 130))])
(.seq (.cond (.t 132) (.skip) (.exit 2))
(.seq (.block 3 (.seq (rg [oI 133 67 129 131,
 oL 134 65 133,
 oO 20 (.alloc 65),
 oE (.store 65 (.t 20) (.t 134))])
(.seq (rg [oO 21 (.assign (u9I 0))])
(.seq (.seq (rg [oF 135 68 5 2,
 oO 136 (.iload 66 (.t 135)),
 oN 137 66 136,
 oO 138 (.move (u9I 0))])
(.block 4 (.loop (.seq (rg [oO 139 (.bin .lss 2 (.t 138) (.t 137))])
(.seq (.cond (.t 139) (.skip) (.exit 4))
(.seq (.block 5 (.seq (rg [oI 140 66 136 138,
 oL 141 72 140,
 oO 23 (.alloc 72),
 oE (.store 72 (.t 23) (.t 141))])
(.seq (rg [oF 142 72 23 0,
 oL 143 65 142,
 oL 144 65 20,
 oO 145 (.bin .eql 65 (.t 143) (.t 144))])
(.cond (.t 145) (rg [oM 146 21,
 oF 147 72 23 1,
 oL 148 2 147,
 oO 149 (.bin .add 2 (.t 146) (.t 148)),
 oA 21 149]) (.skip)))))
(rg [oO 150 (.bin .add 2 (.t 138) (u9I 1)),
 oM 138 150])))))))
(.seq (rg [oM 151 3,
 oF 152 68 5 0,
 oO 153 (.iload 2 (.t 152)),
 oF 154 68 5 0,
 oO 155 (.iload 2 (.t 154)),
 oO 156 (.bin .sub 2 (.t 155) (u9I 1)),
 oO 157 (.bslice false 6 3 [(0,(.t 151)),(1,(.t 153)),(2,(.t 156))]),
 oN 158 6 157,
 oO 159 (.move (u9I 0))])
(.block 6 (.loop (.seq (rg [oO 160 (.bin .lss 2 (.t 159) (.t 158))])
(.seq (.cond (.t 160) (.skip) (.exit 6))
(.seq (.block 7 (.seq (rg [oI 161 6 157 159,
 oL 162 2 161,
 oA 25 162])
(.seq (rg [oM 164 9,
 oL 165 65 20,
 oM 166 25,
 oO 167 (.call 0 (.f 318) [(.t 164),(.t 165),(.t 166)]),
 oM 163 167,
 oO 168 (.extract (.t 163) 0),
 oO 169 (.extract (.t 163) 1),
 oA 26 168,
 oA 27 169])
(.seq (rg [oM 171 10,
 oL 172 65 20,
 oM 173 25,
 oO 174 (.call 0 (.f 318) [(.t 171),(.t 172),(.t 173)]),
 oM 170 174,
 oO 175 (.extract (.t 170) 0),
 oO 176 (.extract (.t 170) 1),
 oA 28 175,
 oA 29 176])
(.seq (rg [oM 178 17,
 oL 179 65 20,
 oM 180 25,
 oO 181 (.call 0 (.f 318) [(.t 178),(.t 179),(.t 180)]),
 oM 177 181,
 oO 182 (.extract (.t 177) 0),
 oO 183 (.extract (.t 177) 1),
 oA 30 182,
 oA 31 183])
(.seq (rg [oM 184 26,
 oA 32 184])
(.seq (.seq (rg [oM 185 25,
 oF 186 68 5 0,
 oO 187 (.iload 2 (.t 186)),
 oO 188 (.bin .geq 2 (.t 185) (.t 187))])
(.cond (.t 188) (rg [oM 189 32,
 oM 190 21,
 oO 191 (.bin .add 2 (.t 189) (.t 190)),
 oA 32 191]) (.skip)))
(.seq (rg [oM 192 27,
 oO 193 (.bin .neq 3 (.t 192) (u9I 0)),
 oM 194 193,
 u9G 195 (.move (.t 29)) 194,
 u9G 196 (.bin .neq 3 (.t 195) (u9I 0)) 194,
 oO 197 (.pick (.t 194) (u9B true) (.t 196)),
 oM 198 197,
 u9G 199 (.move (.t 31)) 198,
 u9G 200 (.bin .neq 3 (.t 199) (u9I 0)) 198,
 oO 201 (.pick (.t 198) (u9B true) (.t 200)),
 oM 202 201,
 u9G 203 (.move (.t 28)) 202,
 u9G 204 (.move (.t 32)) 202,
 u9G 205 (.bin .neq 2 (.t 203) (.t 204)) 202,
 oO 206 (.pick (.t 202) (u9B true) (.t 205)),
 oM 207 206,
 u9G 208 (.move (.t 30)) 207,
 u9G 209 (.move (.t 26)) 207,
 u9G 210 (.bin .neq 2 (.t 208) (.t 209)) 207,
 oO 211 (.pick (.t 207) (u9B true) (.t 210))])
(.cond (.t 211) (.seq (rg [oO 8 (.assign (u9B false))])
(.ret)) (.skip))))))))))
(rg [oO 212 (.bin .add 2 (.t 159) (u9I 1)),
 oM 159 212])))))))))))
(rg [oO 213 (.bin .add 2 (.t 131) (u9I 1)),
 oM 131 213])))))))
(.seq (rg [oO 8 (.assign (u9B true))])
(.ret)))))))))))))))⟩

def f327 : DFn := ⟨26,[.tmp 4],
 .seq (rg [oO 4 (.assign (u9B false))])
(.seq (.seq (rg [oM 6 0,
 oN 7 66 6,
 oM 8 1,
 oN 9 66 8,
 oO 10 (.bin .neq 2 (.t 7) (.t 9))])
(.cond (.t 10) (.seq (rg [oO 4 (.assign (u9B false))])
(.ret)) (.skip)))
(.seq (.seq (rg [oO 5 (.assign (u9I 0))])
(.block 0 (.loop (.seq (.seq (rg [oM 11 5,
 oM 12 0,
 oN 13 66 12,
 oO 14 (.bin .lss 2 (.t 11) (.t 13))])
(.cond (.t 14) (.skip) (.exit 0)))
(.seq (.block 1 (.seq (.region true [] [
 oM 17 0,
 oM 18 5,
 oI 19 66 17 18,
 oL 20 72 19,
 oM 21 1,
 oM 22 5,
 oI 23 66 21 22,
 oL 24 72 23,
 oO 25 (.bin .neq 72 (.t 20) (.t 24))])
(.cond (.t 25) (.seq (rg [oO 4 (.assign (u9B false))])
(.ret)) (.skip))))
(rg [oM 15 5,
 oO 16 (.bin .add 2 (.t 15) (u9I 1)),
 oA 5 16]))))))
(.seq (rg [oO 4 (.assign (u9B true))])
(.ret))))⟩

def f329 : DFn := ⟨8,[.cell 2 73,.tmp 3],
 .seq (rg [oO 2 (.alloc 73),
 oO 3 (.assign (u9I 0))])
(.seq (rg [oM 4 0,
 oO 5 (.call 0 (.f 354) [(.t 4)]),
 oO 6 (.extract (.t 5) 0),
 oO 7 (.extract (.t 5) 1),
 oE (.store 73 (.t 2) (.t 6)),
 oA 3 7])
(.ret))⟩

def f331 : DFn := ⟨14,[.cell 4 73],
 .seq (rg [oO 4 (.alloc 73)])
(.seq (rg [oM 6 0,
 oO 7 (.s2b 53 30 (.t 6)),
 oO 8 (.call 0 (.f 364) [(.t 7)]),
 oO 5 (.alloc 73),
 oE (.store 73 (.t 5) (.t 8))])
(.seq (rg [oO 9 (.slice 73 (.t 5) none none none),
 oM 10 1,
 oO 11 (.bslice false 74 2 [(0,(.t 9)),(1,(.t 10))]),
 oO 12 (.call 1 (.f 365) [(.t 11)]),
 oO 13 (.call 0 (.f 364) [(.t 12)]),
 oE (.store 73 (.t 4) (.t 13))])
(.ret)))⟩

def f334 : DFn := ⟨60,[.tmp 2,.tmp 3],
 .seq (rg [oO 1 (.ibox 71 (.t 0)),
 oO 2 (.assign (.c (.imm .exact []))),
 oO 3 (.assign (u9I 0))])
(.seq (.seq (rg [oO 9 (.iload 71 (.t 1)),
 oO 10 (.call 0 (.f 355) [(.t 9)]),
 oA 4 10])
(.seq (rg [oM 11 4,
 oO 12 (.bin .neq 3 (.t 11) (u9I 0))])
(.cond (.t 12) (.seq (rg [oM 13 4,
 oO 2 (.assign (.c (.imm .exact []))),
 oA 3 13])
(.ret)) (.skip))))
(.seq (rg [oF 14 71 1 0,
 oO 15 (.iload 2 (.t 14)),
 oF 16 71 1 1,
 oO 17 (.iload 2 (.t 16)),
 oF 18 71 1 2,
 oO 19 (.iload 2 (.t 18)),
 oO 20 (.bslice false 6 3 [(0,(.t 15)),(1,(.t 17)),(2,(.t 19))]),
 oO 21 (.mkcall (.f 366) [(.t 20)]),
 oO 22 (.mkcall (.f 366) [(.c (.imm .exact []))]),
 oO 5 (.alloc 55),
 oO 6 (.alloc 55),
 oE (.store 55 (.t 5) (.t 21)),
 oE (.store 55 (.t 6) (.t 22))])
(.seq (.seq (rg [oF 23 71 1 3,
 oO 24 (.iload 66 (.t 23)),
 oN 25 66 24,
 oO 26 (.move (u9I 0))])
(.block 0 (.loop (.seq (rg [oO 27 (.bin .lss 2 (.t 26) (.t 25))])
(.seq (.cond (.t 27) (.skip) (.exit 0))
(.seq (.block 1 (.seq (rg [oI 28 66 24 26,
 oL 29 72 28,
 oO 8 (.alloc 72),
 oE (.store 72 (.t 8) (.t 29))])
(.region true [] [
 oF 30 55 6 3,
 oL 31 56 30,
 oF 32 72 8 0,
 oF 33 65 32 0,
 oL 34 2 33,
 oF 35 72 8 0,
 oF 36 65 35 1,
 oL 37 2 36,
 oF 38 72 8 1,
 oL 39 2 38,
 oO 40 (.bslice false 6 3 [(0,(.t 34)),(1,(.t 37)),(2,(.t 39))]),
 oO 41 (.call 0 (.f 366) [(.t 40)]),
 oO 42 (.bslice false 56 1 [(0,(.t 41))]),
 oO 43 (.append 0 56 56 (.t 31) (.t 42)),
 oF 44 55 6 3,
 oE (.store 56 (.t 44) (.t 43))])))
(rg [oO 45 (.bin .add 2 (.t 26) (u9I 1)),
 oM 26 45])))))))
(.seq (.region true [] [
 oF 46 55 5 3,
 oL 47 56 46,
 oL 48 55 6,
 oF 49 71 1 4,
 oO 50 (.slice 73 (.t 49) none none none),
 oO 51 (.b2s 30 53 (.t 50)),
 oO 52 (.build 55 [(0,(u9I 2)),(2,(.t 51))]),
 oO 53 (.bslice false 56 2 [(0,(.t 48)),(1,(.t 52))]),
 oO 54 (.append 0 56 56 (.t 47) (.t 53)),
 oF 55 55 5 3,
 oE (.store 56 (.t 55) (.t 54))])
(.seq (rg [oL 56 55 5,
 oO 57 (.call 0 (.f 264) [(.t 56)]),
 oO 58 (.extract (.t 57) 0),
 oO 59 (.extract (.t 57) 1),
 oA 2 58,
 oA 3 59])
(.ret))))))⟩

def f335 : DFn := ⟨10,[.cell 4 73],
 .seq (rg [oO 2 (.ibox 73 (.t 0)),
 oO 3 (.ibox 73 (.t 1)),
 oO 4 (.alloc 73)])
(.seq (.region true [] [
 oO 5 (.slice 73 (.t 2) none none none),
 oO 6 (.slice 73 (.t 3) none none none),
 oO 7 (.bslice false 74 2 [(0,(.t 5)),(1,(.t 6))]),
 oO 8 (.call 0 (.f 365) [(.t 7)]),
 oO 9 (.call 0 (.f 331) [(.c (.str [99,104,97,105,110])),(.t 8)]),
 oE (.store 73 (.t 4) (.t 9))])
(.ret))⟩

def f337 : DFn := ⟨38,[.tmp 4],
 .seq (rg [oO 2 (.ibox 71 (.t 0)),
 oO 3 (.ibox 71 (.t 1)),
 oO 4 (.assign (u9B false))])
(.seq (rg [oF 5 71 2 0,
 oO 6 (.iload 2 (.t 5)),
 oF 7 71 3 0,
 oO 8 (.iload 2 (.t 7)),
 oO 9 (.bin .eql 2 (.t 6) (.t 8)),
 oM 10 9,
⟨(some 11),.faddr 71 (.t 2) 1,(some (10,true))⟩,
⟨(some 12),.iload 2 (.t 11),(some (10,true))⟩,
⟨(some 13),.faddr 71 (.t 3) 1,(some (10,true))⟩,
⟨(some 14),.iload 2 (.t 13),(some (10,true))⟩,
⟨(some 15),.bin .eql 2 (.t 12) (.t 14),(some (10,true))⟩,
 oO 16 (.pick (.t 10) (.t 15) (u9B false)),
 oM 17 16,
⟨(some 18),.faddr 71 (.t 2) 2,(some (17,true))⟩,
⟨(some 19),.iload 2 (.t 18),(some (17,true))⟩,
⟨(some 20),.faddr 71 (.t 3) 2,(some (17,true))⟩,
⟨(some 21),.iload 2 (.t 20),(some (17,true))⟩,
⟨(some 22),.bin .eql 2 (.t 19) (.t 21),(some (17,true))⟩,
 oO 23 (.pick (.t 17) (.t 22) (u9B false)),
 oM 24 23,
⟨(some 25),.faddr 71 (.t 2) 4,(some (24,true))⟩,
⟨(some 26),.iload 73 (.t 25),(some (24,true))⟩,
⟨(some 27),.faddr 71 (.t 3) 4,(some (24,true))⟩,
⟨(some 28),.iload 73 (.t 27),(some (24,true))⟩,
⟨(some 29),.bin .eql 73 (.t 26) (.t 28),(some (24,true))⟩,
 oO 30 (.pick (.t 24) (.t 29) (u9B false)),
 oM 31 30,
⟨(some 32),.faddr 71 (.t 2) 3,(some (31,true))⟩,
⟨(some 33),.iload 66 (.t 32),(some (31,true))⟩,
⟨(some 34),.faddr 71 (.t 3) 3,(some (31,true))⟩,
⟨(some 35),.iload 66 (.t 34),(some (31,true))⟩,
⟨(some 36),.call 0 (.f 327) [(.t 33),(.t 35)],(some (31,true))⟩,
 oO 37 (.pick (.t 31) (.t 36) (u9B false)),
 oA 4 37])
(.ret))⟩

def f353 : DFn := ⟨11,[.tmp 2],
 .seq (rg [oO 2 (.assign (.c (.imm .exact [])))])
(.seq (rg [oO 3 (.build 65 [(0,(u9I 1)),(1,(u9I 3))]),
 oM 4 0,
 oO 5 (.build 72 [(0,(.t 3)),(1,(.t 4))]),
 oO 6 (.build 65 [(0,(u9I 4))]),
 oM 7 0,
 oO 8 (.un .neg (.t 7)),
 oO 9 (.build 72 [(0,(.t 6)),(1,(.t 8))]),
 oO 10 (.bslice true 66 2 [(0,(.t 5)),(1,(.t 9))]),
 oA 2 10])
(.ret))⟩

def f354 : DFn := ⟨74,[.cell 2 73,.tmp 3],
 .seq (rg [oO 2 (.alloc 73),
 oO 3 (.assign (u9I 0))])
(.seq (.seq (rg [oM 12 0,
 oN 13 70 12,
 oO 14 (.bin .gtr 2 (.t 13) (u9I 65536))])
(.cond (.t 14) (.seq (rg [oL 15 73 2,
 oE (.store 73 (.t 2) (.t 15)),
 oO 3 (.assign (u9I 2))])
(.ret)) (.skip)))
(.seq (.seq (rg [oM 16 0,
 oN 17 70 16,
 oO 18 (.move (u9I 0))])
(.block 0 (.loop (.seq (rg [oO 19 (.bin .lss 2 (.t 18) (.t 17))])
(.seq (.cond (.t 19) (.skip) (.exit 0))
(.seq (.block 1 (.seq (rg [oI 20 70 16 18,
 oL 21 71 20,
 oO 5 (.alloc 71),
 oE (.store 71 (.t 5) (.t 21))])
(.seq (rg [oL 22 71 5,
 oO 23 (.call 0 (.f 355) [(.t 22)]),
 oA 6 23])
(.seq (rg [oM 24 6,
 oO 25 (.bin .neq 3 (.t 24) (u9I 0))])
(.cond (.t 25) (.seq (rg [oL 26 73 2,
 oM 27 6,
 oE (.store 73 (.t 2) (.t 26)),
 oA 3 27])
(.ret)) (.skip))))))
(rg [oO 28 (.bin .add 2 (.t 18) (u9I 1)),
 oM 18 28])))))))
(.seq (rg [oO 29 (.call 0 (.f 331) [(.c (.str [112,111,115,116,105,110,103,115])),(.c (.imm .exact []))]),
 oO 7 (.alloc 73),
 oE (.store 73 (.t 7) (.t 29))])
(.seq (.seq (rg [oM 30 0,
 oN 31 70 30,
 oO 32 (.move (u9I 0))])
(.block 2 (.loop (.seq (rg [oO 33 (.bin .lss 2 (.t 32) (.t 31))])
(.seq (.cond (.t 33) (.skip) (.exit 2))
(.seq (.block 3 (.seq (rg [oM 34 32,
 oI 35 70 30 32,
 oL 36 71 35,
 oO 9 (.alloc 71),
 oA 8 34,
 oE (.store 71 (.t 9) (.t 36))])
(.seq (.seq (.region true [] [
 oF 37 71 9 0,
 oL 38 2 37,
 oM 39 8,
 oO 40 (.bin .neq 2 (.t 38) (.t 39)),
 oM 41 40,
 u9G 42 (.move (.t 8)) 41,
 u9G 43 (.bin .gtr 2 (.t 42) (u9I 0)) 41,
 u9G 44 (.move (.t 43)) 41,
⟨(some 45),.move (.t 0),(some (44,true))⟩,
⟨(some 46),.move (.t 8),(some (44,true))⟩,
⟨(some 47),.bin .sub 2 (.t 46) (u9I 1),(some (44,true))⟩,
⟨(some 48),.iaddr 70 (.t 45) (.t 47),(some (44,true))⟩,
⟨(some 49),.faddr 71 (.t 48) 1,(some (44,true))⟩,
⟨(some 50),.load 2 (.t 49),(some (44,true))⟩,
⟨(some 51),.faddr 71 (.t 9) 1,(some (44,true))⟩,
⟨(some 52),.load 2 (.t 51),(some (44,true))⟩,
⟨(some 53),.bin .gtr 2 (.t 50) (.t 52),(some (44,true))⟩,
 u9G 54 (.pick (.t 44) (.t 53) (u9B false)) 41,
 oO 55 (.pick (.t 41) (u9B true) (.t 54)),
 oM 56 55,
 u9G 57 (.faddr 71 (.t 9) 4) 56,
 u9G 58 (.load 73 (.t 57)) 56,
 u9G 59 (.load 73 (.t 7)) 56,
 u9G 60 (.bin .neq 73 (.t 58) (.t 59)) 56,
 oO 61 (.pick (.t 56) (u9B true) (.t 60))])
(.cond (.t 61) (.seq (rg [oL 62 73 2,
 oE (.store 73 (.t 2) (.t 62)),
 oO 3 (.assign (u9I 410))])
(.ret)) (.skip)))
(.seq (rg [oL 64 71 9,
 oO 65 (.call 0 (.f 334) [(.t 64)]),
 oM 63 65,
 oO 66 (.extract (.t 63) 0),
 oO 67 (.extract (.t 63) 1),
 oA 10 66,
 oA 11 67])
(.region true [] [
 oL 68 73 7,
 oM 69 10,
 oO 70 (.call 0 (.f 331) [(.c (.str [112,111,115,116,105,110,103])),(.t 69)]),
 oO 71 (.call 0 (.f 335) [(.t 68),(.t 70)]),
 oE (.store 73 (.t 7) (.t 71))])))))
(rg [oO 72 (.bin .add 2 (.t 32) (u9I 1)),
 oM 32 72])))))))
(.seq (rg [oL 73 73 7,
 oE (.store 73 (.t 2) (.t 73)),
 oO 3 (.assign (u9I 0))])
(.ret))))))⟩

def f355 : DFn := ⟨115,[.tmp 2],
 .seq (rg [oO 1 (.ibox 71 (.t 0)),
 oO 2 (.assign (u9I 0))])
(.seq (.seq (rg [oF 6 71 1 0,
 oO 7 (.iload 2 (.t 6)),
 oO 8 (.bin .lss 2 (.t 7) (u9I 0)),
 oM 9 8,
 u9G 10 (.faddr 71 (.t 1) 0) 9,
 u9G 11 (.iload 2 (.t 10)) 9,
 u9G 12 (.bin .geq 2 (.t 11) (u9I 65536)) 9,
 oO 13 (.pick (.t 9) (u9B true) (.t 12)),
 oM 14 13,
 u9G 15 (.faddr 71 (.t 1) 1) 14,
 u9G 16 (.iload 2 (.t 15)) 14,
 u9G 17 (.bin .lss 2 (.t 16) (u9I 0)) 14,
 oO 18 (.pick (.t 14) (u9B true) (.t 17)),
 oM 19 18,
 u9G 20 (.faddr 71 (.t 1) 1) 19,
 u9G 21 (.iload 2 (.t 20)) 19,
 u9G 22 (.bin .geq 2 (.t 21) (u9I 1440)) 19,
 oO 23 (.pick (.t 19) (u9B true) (.t 22)),
 oM 24 23,
 u9G 25 (.faddr 71 (.t 1) 2) 24,
 u9G 26 (.iload 2 (.t 25)) 24,
 u9G 27 (.bin .lss 2 (.t 26) (.c (.int .i64 (-1)))) 24,
 oO 28 (.pick (.t 24) (u9B true) (.t 27)),
 oM 29 28,
 u9G 30 (.faddr 71 (.t 1) 2) 29,
 u9G 31 (.iload 2 (.t 30)) 29,
 u9G 32 (.faddr 71 (.t 1) 0) 29,
 u9G 33 (.iload 2 (.t 32)) 29,
 u9G 34 (.bin .geq 2 (.t 31) (.t 33)) 29,
 oO 35 (.pick (.t 29) (u9B true) (.t 34)),
 oM 36 35,
 u9G 37 (.faddr 71 (.t 1) 3) 36,
 u9G 38 (.iload 66 (.t 37)) 36,
 u9G 39 (.len 66 (.t 38)) 36,
 u9G 40 (.bin .lss 2 (.t 39) (u9I 2)) 36,
 oO 41 (.pick (.t 36) (u9B true) (.t 40)),
 oM 42 41,
 u9G 43 (.faddr 71 (.t 1) 3) 42,
 u9G 44 (.iload 66 (.t 43)) 42,
 u9G 45 (.len 66 (.t 44)) 42,
 u9G 46 (.bin .gtr 2 (.t 45) (u9I 4096)) 42,
 oO 47 (.pick (.t 42) (u9B true) (.t 46))])
(.cond (.t 47) (.seq (rg [oO 2 (.assign (u9I 410))])
(.ret)) (.skip)))
(.seq (rg [oO 3 (.assign (u9I 0))])
(.seq (.seq (rg [oF 48 71 1 3,
 oO 49 (.iload 66 (.t 48)),
 oN 50 66 49,
 oO 51 (.move (u9I 0))])
(.block 0 (.loop (.seq (rg [oO 52 (.bin .lss 2 (.t 51) (.t 50))])
(.seq (.cond (.t 52) (.skip) (.exit 0))
(.seq (.block 1 (.seq (rg [oM 53 51,
 oI 54 66 49 51,
 oL 55 72 54,
 oO 5 (.alloc 72),
 oA 4 53,
 oE (.store 72 (.t 5) (.t 55))])
(.seq (.seq (rg [oF 56 72 5 0,
 oF 57 65 56 0,
 oL 58 2 57,
 oO 59 (.bin .lss 2 (.t 58) (u9I 1)),
 oM 60 59,
 u9G 61 (.faddr 72 (.t 5) 0) 60,
 u9G 62 (.faddr 65 (.t 61) 0) 60,
 u9G 63 (.load 2 (.t 62)) 60,
 u9G 64 (.bin .gtr 2 (.t 63) (u9I 5)) 60,
 oO 65 (.pick (.t 60) (u9B true) (.t 64)),
 oM 66 65,
 u9G 67 (.faddr 72 (.t 5) 0) 66,
 u9G 68 (.faddr 65 (.t 67) 1) 66,
 u9G 69 (.load 2 (.t 68)) 66,
 u9G 70 (.bin .lss 2 (.t 69) (.c (.int .i64 (-1)))) 66,
 oO 71 (.pick (.t 66) (u9B true) (.t 70)),
 oM 72 71,
 u9G 73 (.faddr 72 (.t 5) 0) 72,
 u9G 74 (.faddr 65 (.t 73) 1) 72,
 u9G 75 (.load 2 (.t 74)) 72,
 u9G 76 (.bin .gtr 2 (.t 75) (u9I 4095)) 72,
 oO 77 (.pick (.t 72) (u9B true) (.t 76)),
 oM 78 77,
 u9G 79 (.faddr 72 (.t 5) 1) 78,
 u9G 80 (.load 2 (.t 79)) 78,
 u9G 81 (.bin .eql 2 (.t 80) (u9I 0)) 78,
 oO 82 (.pick (.t 78) (u9B true) (.t 81)),
 oM 83 82,
 u9G 84 (.faddr 72 (.t 5) 1) 83,
 u9G 85 (.load 2 (.t 84)) 83,
 u9G 86 (.bin .lss 2 (.t 85) (.c (.int .i64 (-1099511627776)))) 83,
 oO 87 (.pick (.t 83) (u9B true) (.t 86)),
 oM 88 87,
 u9G 89 (.faddr 72 (.t 5) 1) 88,
 u9G 90 (.load 2 (.t 89)) 88,
 u9G 91 (.bin .gtr 2 (.t 90) (u9I 1099511627776)) 88,
 oO 92 (.pick (.t 88) (u9B true) (.t 91))])
(.cond (.t 92) (.seq (rg [oO 2 (.assign (u9I 410))])
(.ret)) (.skip)))
(.seq (.seq (.region true [] [
 oM 93 4,
 oO 94 (.bin .gtr 2 (.t 93) (u9I 0)),
 oM 95 94,
⟨(some 96),.faddr 71 (.t 1) 3,(some (95,true))⟩,
⟨(some 97),.iload 66 (.t 96),(some (95,true))⟩,
⟨(some 98),.move (.t 4),(some (95,true))⟩,
⟨(some 99),.bin .sub 2 (.t 98) (u9I 1),(some (95,true))⟩,
⟨(some 100),.iaddr 66 (.t 97) (.t 99),(some (95,true))⟩,
⟨(some 101),.faddr 72 (.t 100) 0,(some (95,true))⟩,
⟨(some 102),.load 65 (.t 101),(some (95,true))⟩,
⟨(some 103),.faddr 72 (.t 5) 0,(some (95,true))⟩,
⟨(some 104),.load 65 (.t 103),(some (95,true))⟩,
⟨(some 105),.call 0 (.f 362) [(.t 102),(.t 104)],(some (95,true))⟩,
⟨(some 106),.bin .geq 2 (.t 105) (u9I 0),(some (95,true))⟩,
 oO 107 (.pick (.t 95) (.t 106) (u9B false))])
(.cond (.t 107) (.seq (rg [oO 2 (.assign (u9I 410))])
(.ret)) (.skip)))
(rg [oM 108 3,
 oF 109 72 5 1,
 oL 110 2 109,
 oO 111 (.bin .add 2 (.t 108) (.t 110)),
 oA 3 111])))))
(rg [oO 112 (.bin .add 2 (.t 51) (u9I 1)),
 oM 51 112])))))))
(.seq (.seq (rg [oM 113 3,
 oO 114 (.bin .neq 2 (.t 113) (u9I 0))])
(.cond (.t 114) (.seq (rg [oO 2 (.assign (u9I 411))])
(.ret)) (.skip)))
(.seq (rg [oO 2 (.assign (u9I 0))])
(.ret))))))⟩

def f356 : DFn := ⟨8,[.tmp 2],
 .seq (rg [ oO 2 (.assign (.c (.imm .exact [])))]) (.seq (rg [oO 5 (.bslice false 70 0 []),
 oM 6 0,
 oO 7 (.append 1 70 70 (.t 5) (.t 6)),
 oA 2 7]) .ret)⟩

def f359 : DFn := ⟨4,[.tmp 2],
 .seq (rg [oO 1 (.ibox 70 (.t 0)),
 oO 2 (.assign (.c .nilfn))])
(.seq (rg [oO 3 (.mkfn 380 [(.t 1)]),
 oA 2 3])
(.ret))⟩

def f361 : DFn := ⟨2,[],
 .seq (rg [⟨some 2,.mark false (u9I 0),none⟩])
(.ifp (.t 2) (.cond (.c .undef) .skip .skip) (.seq (rg [ oE (.prim 0 [(.t 0),(.t 1)])]) .ret))⟩

def f362 : DFn := ⟨17,[.tmp 4],
 .seq (rg [oO 2 (.ibox 65 (.t 0)),
 oO 3 (.ibox 65 (.t 1)),
 oO 4 (.assign (u9I 0))])
(.seq (.region true [] [
 oF 5 65 2 0,
 oO 6 (.iload 2 (.t 5)),
 oF 7 65 3 0,
 oO 8 (.iload 2 (.t 7)),
 oO 9 (.call 0 (.f 74) [(.t 6),(.t 8)]),
 oF 10 65 2 1,
 oO 11 (.iload 2 (.t 10)),
 oF 12 65 3 1,
 oO 13 (.iload 2 (.t 12)),
 oO 14 (.call 0 (.f 74) [(.t 11),(.t 13)]),
 oO 15 (.bslice false 6 2 [(0,(.t 9)),(1,(.t 14))]),
 oO 16 (.call 0 (.f 105) [(.t 15)]),
 oA 4 16])
(.ret))⟩

def f363 : DFn := ⟨61,[.tmp 2],
 .seq (rg [oO 2 (.assign (.c (.imm .exact [])))])
(.seq (.seq (rg [oM 6 0,
 oN 7 67 6,
 oO 8 (.bin .lss 2 (.t 7) (u9I 2))])
(.cond (.t 8) (.seq (rg [oM 9 0,
 oA 2 9])
(.ret)) (.skip)))
(.seq (.seq (rg [oO 3 (.assign (u9I 1))])
(.block 0 (.loop (.seq (.seq (rg [oM 10 3,
 oM 11 0,
 oN 12 67 11,
 oO 13 (.bin .lss 2 (.t 10) (.t 12))])
(.cond (.t 13) (.skip) (.exit 0)))
(.seq (.block 1 (.seq (.region true [] [
 oM 16 0,
 oM 17 3,
 oI 18 67 16 17,
 oL 19 65 18,
 oM 20 0,
 oM 21 3,
 oO 22 (.bin .sub 2 (.t 21) (u9I 1)),
 oI 23 67 20 22,
 oL 24 65 23,
 oO 25 (.bin .eql 65 (.t 19) (.t 24))])
(.cond (.t 25) (.seq (rg [oM 26 0,
 oM 27 3,
 oO 28 (.slice 67 (.t 26) (some (.t 27)) none none),
 oA 4 28])
(.seq (.seq (rg [oO 5 (.assign (u9I 1))])
(.block 2 (.loop (.seq (.seq (rg [oM 29 5,
 oM 30 4,
 oN 31 67 30,
 oO 32 (.bin .lss 2 (.t 29) (.t 31))])
(.cond (.t 32) (.skip) (.exit 2)))
(.seq (.block 3 (.seq (.region true [] [
 oM 35 4,
 oM 36 5,
 oI 37 67 35 36,
 oL 38 65 37,
 oM 39 4,
 oM 40 5,
 oO 41 (.bin .sub 2 (.t 40) (u9I 1)),
 oI 42 67 39 41,
 oL 43 65 42,
 oO 44 (.bin .neq 65 (.t 38) (.t 43))])
(.cond (.t 44) (.seq (rg [oM 45 0,
 oM 46 3,
 oM 47 4,
 oM 48 5,
 oI 49 67 47 48,
 oL 50 65 49,
 oI 51 67 45 46,
 oE (.store 65 (.t 51) (.t 50))])
(rg [oM 52 3,
 oO 53 (.bin .add 2 (.t 52) (u9I 1)),
 oA 3 53])) (.skip))))
(rg [oM 33 5,
 oO 34 (.bin .add 2 (.t 33) (u9I 1)),
 oA 5 34]))))))
(.seq (rg [oM 54 0,
 oM 55 3,
 oO 56 (.slice 67 (.t 54) (some (.t 55)) none none),
 oE (.clr 67 (.t 56))])
(.seq (rg [oM 57 0,
 oM 58 3,
 oO 59 (.reslice 67 (.t 57) (.t 58)),
 oA 2 59])
(.ret))))) (.skip))))
(rg [oM 14 3,
 oO 15 (.bin .add 2 (.t 14) (u9I 1)),
 oA 3 15]))))))
(.seq (rg [oM 60 0,
 oA 2 60])
(.ret))))⟩

def f364 : DFn := ⟨69,[.cell 2 73],
 .seq (rg [oO 2 (.alloc 73)])
(.seq (rg [oO 9 (.load 76 (.c (.iptr [.int .u32 1779033703,.int .u32 3144134277,.int .u32 1013904242,.int .u32 2773480762,.int .u32 1359893119,.int .u32 2600822924,.int .u32 528734635,.int .u32 1541459225]))),
 oO 3 (.alloc 77),
 oE (.store 77 (.t 3) (.t 9))])
(.seq (rg [oO 10 (.mkbfn 404 (.t 3)),
 oA 4 10])
(.seq (rg [oM 11 0,
 oA 5 11])
(.seq (.block 0 (.loop (.seq (.seq (rg [oM 12 5,
 oN 13 30 12,
 oO 14 (.bin .geq 2 (.t 13) (u9I 64))])
(.cond (.t 14) (.skip) (.exit 0)))
(.seq (.block 1 (rg [oM 17 4,
 oM 18 5,
 oO 19 (.slice 30 (.t 18) none (some (u9I 64)) none),
 oO 20 (.call 2 (.t 17) [(.t 19)])]))
(rg [oM 15 5,
 oO 16 (.slice 30 (.t 15) (some (u9I 64)) none none),
 oA 5 16])))))
(.seq (rg [oO 21 (.mkcap 30 (u9I 64) (u9I 128)),
 oA 6 21])
(.seq (rg [oM 22 6,
 oM 23 5,
 oO 24 (.copy 30 30 (.t 22) (.t 23))])
(.seq (rg [oM 25 6,
 oM 26 5,
 oN 27 30 26,
 oI 28 30 25 27,
 oE (.store 13 (.t 28) (.c (.int .u8 128)))])
(.seq (.seq (rg [oM 29 5,
 oN 30 30 29,
 oO 31 (.bin .gtr 2 (.t 30) (u9I 55))])
(.cond (.t 31) (rg [oM 32 6,
 oO 33 (.reslice 30 (.t 32) (u9I 128)),
 oA 6 33]) (.skip)))
(.seq (rg [oM 34 6,
 oM 35 6,
 oN 36 30 35,
 oO 37 (.bin .sub 2 (.t 36) (u9I 8)),
 oO 38 (.slice 30 (.t 34) (some (.t 37)) none none),
 oM 39 0,
 oN 40 30 39,
 oO 41 (.conv 2 63 (.t 40)),
 oO 42 (.bin .mul 63 (.t 41) (.c (.int .u64 8))),
 oO 43 (.call 2 (.f 383) [(.t 38),(.t 42)])])
(.seq (.block 2 (.loop (.seq (.seq (rg [oM 44 6,
 oN 45 30 44,
 oO 46 (.bin .gtr 2 (.t 45) (u9I 0))])
(.cond (.t 46) (.skip) (.exit 2)))
(.seq (.block 3 (rg [oM 49 4,
 oM 50 6,
 oO 51 (.slice 30 (.t 50) none (some (u9I 64)) none),
 oO 52 (.call 2 (.t 49) [(.t 51)])]))
(rg [oM 47 6,
 oO 48 (.slice 30 (.t 47) (some (u9I 64)) none none),
 oA 6 48])))))
(.seq (.seq (rg [oL 53 77 3,
 oO 54 (.move (u9I 0))])
(.block 4 (.loop (.seq (rg [oO 55 (.bin .lss 2 (.t 54) (u9I 8))])
(.seq (.cond (.t 55) (.skip) (.exit 4))
(.seq (.block 5 (.seq (rg [oM 56 54,
 oO 57 (.index 77 (.t 53) (.t 54)),
 oA 7 56,
 oA 8 57])
(rg [oM 58 7,
 oO 59 (.bin .mul 2 (u9I 4) (.t 58)),
 oM 60 7,
 oO 61 (.bin .mul 2 (u9I 4) (.t 60)),
 oO 62 (.bin .add 2 (.t 61) (u9I 4)),
 oO 63 (.slice 73 (.t 2) (some (.t 59)) (some (.t 62)) none),
 oM 64 8,
 oO 65 (.conv 78 63 (.t 64)),
 oO 66 (.call 2 (.f 383) [(.t 63),(.t 65)])])))
(rg [oO 67 (.bin .add 2 (.t 54) (u9I 1)),
 oM 54 67])))))))
(.seq (rg [oL 68 73 2,
 oE (.store 73 (.t 2) (.t 68))])
(.ret)))))))))))))⟩

def f365 : DFn := ⟨36,[.tmp 2],
 .seq (rg [oO 2 (.assign (.c (.imm .exact [])))])
(.seq (rg [oO 3 (.assign (u9I 0))])
(.seq (.seq (rg [oM 9 0,
 oN 10 74 9,
 oO 11 (.move (u9I 0))])
(.block 0 (.loop (.seq (rg [oO 12 (.bin .lss 2 (.t 11) (.t 10))])
(.seq (.cond (.t 12) (.skip) (.exit 0))
(.seq (.block 1 (.seq (rg [oI 13 74 9 11,
 oL 14 30 13,
 oA 5 14])
(.seq (rg [oM 15 3,
 oM 16 5,
 oN 17 30 16,
 oO 18 (.bin .add 2 (.t 15) (.t 17)),
 oA 3 18])
(.seq (rg [oM 19 3,
 oO 20 (.bin .lss 2 (.t 19) (u9I 0))])
(.cond (.t 20) (.cond (.c .undef) .skip .skip) (.skip))))))
(rg [oO 22 (.bin .add 2 (.t 11) (u9I 1)),
 oM 11 22])))))))
(.seq (rg [oM 23 3,
 oO 24 (.call 2 (.f 384) [(.c (.imm .exact [])),(.t 23)]),
 oA 6 24])
(.seq (.seq (rg [oM 25 0,
 oN 26 74 25,
 oO 27 (.move (u9I 0))])
(.block 2 (.loop (.seq (rg [oO 28 (.bin .lss 2 (.t 27) (.t 26))])
(.seq (.cond (.t 28) (.skip) (.exit 2))
(.seq (.block 3 (.seq (rg [oI 29 74 25 27,
 oL 30 30 29,
 oA 8 30])
(rg [oM 31 6,
 oM 32 8,
 oO 33 (.append 0 30 30 (.t 31) (.t 32)),
 oA 6 33])))
(rg [oO 34 (.bin .add 2 (.t 27) (u9I 1)),
 oM 27 34])))))))
(.seq (rg [oM 35 6,
 oA 2 35])
(.ret))))))⟩

def f366 : DFn := ⟨22,[.cell 2 55],
 .seq (rg [oO 2 (.alloc 55)])
(.seq (rg [oO 6 (.build 55 [(0,(u9I 3))]),
 oO 3 (.alloc 55),
 oE (.store 55 (.t 3) (.t 6))])
(.seq (.seq (rg [oM 7 0,
 oN 8 6 7,
 oO 9 (.move (u9I 0))])
(.block 0 (.loop (.seq (rg [oO 10 (.bin .lss 2 (.t 9) (.t 8))])
(.seq (.cond (.t 10) (.skip) (.exit 0))
(.seq (.block 1 (.seq (rg [oI 11 6 7 9,
 oL 12 2 11,
 oA 5 12])
(rg [oF 13 55 3 3,
 oL 14 56 13,
 oM 15 5,
 oO 16 (.build 55 [(0,(u9I 1)),(1,(.t 15))]),
 oO 17 (.bslice false 56 1 [(0,(.t 16))]),
 oO 18 (.append 0 56 56 (.t 14) (.t 17)),
 oF 19 55 3 3,
 oE (.store 56 (.t 19) (.t 18))])))
(rg [oO 20 (.bin .add 2 (.t 9) (u9I 1)),
 oM 9 20])))))))
(.seq (rg [oL 21 55 3,
 oE (.store 55 (.t 2) (.t 21))])
(.ret))))⟩

def f380 : DFn := ⟨28,[],
 .seq (rg [oL 7 70 1,
 oN 8 70 7,
 oO 9 (.move (u9I 0))])
(.block 0 (.loop (.seq (rg [oO 10 (.bin .lss 2 (.t 9) (.t 8))])
(.seq (.cond (.t 10) (.skip) (.exit 0))
(.seq (.block 1 (.seq (rg [oI 11 70 7 9,
 oL 12 71 11,
 oO 4 (.alloc 71),
 oE (.store 71 (.t 4) (.t 12))])
(.seq (rg [oF 13 71 4 3,
 oL 14 66 13,
 oN 15 66 14,
 oO 16 (.move (u9I 0))])
(.block 2 (.loop (.seq (rg [oO 17 (.bin .lss 2 (.t 16) (.t 15))])
(.seq (.cond (.t 17) (.skip) (.exit 2))
(.seq (.block 3 (.seq (rg [oI 18 66 14 16,
 oL 19 72 18,
 oO 6 (.alloc 72),
 oE (.store 72 (.t 6) (.t 19))])
(.seq (rg [oM 20 0,
 oF 21 71 4 1,
 oL 22 2 21,
 oL 23 72 6,
 oO 24 (.call 2 (.t 20) [(.t 22),(.t 23)]),
 oO 25 (.un .not (.t 24))])
(.cond (.t 25) (.ret) (.skip)))))
(rg [oO 26 (.bin .add 2 (.t 16) (u9I 1)),
 oM 16 26])))))))))
(rg [oO 27 (.bin .add 2 (.t 9) (u9I 1)),
 oM 9 27]))))))⟩

def f383 : DFn := ⟨23,[],
 .seq (rg [oM 5 0,
 oN 6 30 5,
 oO 7 (.move (u9I 0))])
(.block 0 (.loop (.seq (rg [oO 8 (.bin .lss 2 (.t 7) (.t 6))])
(.seq (.cond (.t 8) (.skip) (.exit 0))
(.seq (.block 1 (.seq (rg [oM 9 7,
 oA 4 9])
(rg [oM 10 0,
 oM 11 0,
 oN 12 30 11,
 oO 13 (.bin .sub 2 (.t 12) (u9I 1)),
 oM 14 4,
 oO 15 (.bin .sub 2 (.t 13) (.t 14)),
 oM 16 1,
 oM 17 4,
 oO 18 (.bin .mul 2 (u9I 8) (.t 17)),
 oO 19 (.bin .shr 63 (.t 16) (.t 18)),
 oO 20 (.conv 63 13 (.t 19)),
 oI 21 30 10 15,
 oE (.store 13 (.t 21) (.t 20))])))
(rg [oO 22 (.bin .add 2 (.t 7) (u9I 1)),
 oM 7 22]))))))⟩

def f384 : DFn := ⟨2,[.tmp 0],
 .seq (rg [⟨some 2,.mark false (u9I 0),none⟩])
(.ifp (.t 2) (.cond (.c .undef) .skip .skip)
(.seq (rg [⟨some 0,.append 1 30 30 (.t 0) (.c (.imm .exact [])),none⟩,⟨some 0,.len 30 (.t 0),none⟩,⟨some 0,.bin .eql 2 (.t 0) (u9I 0),none⟩, oE (.bin .lss 2 (.t 1) (u9I 0)), oE (.mkslice false 30 (.t 1) (.t 1))])
(.cond (.t 0) (.seq (rg [⟨some 0,.append 0 30 30 (.c (.imm .exact [])) (.c (.imm .exact [])),none⟩]) .ret) (.cond (.c .undef) .skip .skip))))⟩

def f404 : DFn := ⟨144,[],
 .seq (rg [oO 4 (.alloc 80)])
(.seq (.seq (rg [oO 14 (.move (u9I 0))])
(.block 0 (.loop (.seq (rg [oO 15 (.bin .lss 2 (.t 14) (u9I 16))])
(.seq (.cond (.t 15) (.skip) (.exit 0))
(.seq (.block 1 (.seq (rg [oM 16 14,
 oA 5 16])
(rg [oM 17 5,
 oM 18 1,
 oM 19 5,
 oO 20 (.bin .mul 2 (u9I 4) (.t 19)),
 oO 21 (.slice 30 (.t 18) (some (.t 20)) none none),
 oO 22 (.call 3 (.f 405) [(.t 21)]),
 oI 23 80 4 17,
 oE (.store 78 (.t 23) (.t 22))])))
(rg [oO 24 (.bin .add 2 (.t 14) (u9I 1)),
 oM 14 24])))))))
(.seq (.seq (rg [oO 6 (.assign (u9I 16))])
(.block 2 (.loop (.seq (.seq (rg [oM 25 6,
 oO 26 (.bin .lss 2 (.t 25) (u9I 64))])
(.cond (.t 26) (.skip) (.exit 2)))
(.seq (.block 3 (.seq (.region true [] [
 oM 29 6,
 oO 30 (.bin .sub 2 (.t 29) (u9I 15)),
 oI 31 80 4 30,
 oL 32 78 31,
 oM 33 6,
 oO 34 (.bin .sub 2 (.t 33) (u9I 2)),
 oI 35 80 4 34,
 oL 36 78 35,
 oA 7 32,
 oA 8 36])
(.region true [] [
 oM 37 6,
 oM 38 6,
 oO 39 (.bin .sub 2 (.t 38) (u9I 16)),
 oI 40 80 4 39,
 oL 41 78 40,
 oM 42 7,
 oO 43 (.call 0 (.f 406) [(.t 42),(.c (.int .i64 (-7)))]),
 oM 44 7,
 oO 45 (.call 0 (.f 406) [(.t 44),(.c (.int .i64 (-18)))]),
 oO 46 (.bin .xor 78 (.t 43) (.t 45)),
 oM 47 7,
 oO 48 (.bin .shr 78 (.t 47) (.c (.int .u64 3))),
 oO 49 (.bin .xor 78 (.t 46) (.t 48)),
 oO 50 (.bin .add 78 (.t 41) (.t 49)),
 oM 51 6,
 oO 52 (.bin .sub 2 (.t 51) (u9I 7)),
 oI 53 80 4 52,
 oL 54 78 53,
 oO 55 (.bin .add 78 (.t 50) (.t 54)),
 oM 56 8,
 oO 57 (.call 0 (.f 406) [(.t 56),(.c (.int .i64 (-17)))]),
 oM 58 8,
 oO 59 (.call 0 (.f 406) [(.t 58),(.c (.int .i64 (-19)))]),
 oO 60 (.bin .xor 78 (.t 57) (.t 59)),
 oM 61 8,
 oO 62 (.bin .shr 78 (.t 61) (.c (.int .u64 10))),
 oO 63 (.bin .xor 78 (.t 60) (.t 62)),
 oO 64 (.bin .add 78 (.t 55) (.t 63)),
 oI 65 80 4 37,
 oE (.store 78 (.t 65) (.t 64))])))
(rg [oM 27 6,
 oO 28 (.bin .add 2 (.t 27) (u9I 1)),
 oA 6 28]))))))
(.seq (rg [oM 66 0,
 oO 67 (.nilc (.t 66)),
 oL 68 77 67,
 oO 9 (.alloc 77),
 oE (.store 77 (.t 9) (.t 68))])
(.seq (.seq (rg [oO 69 (.move (u9I 0))])
(.block 4 (.loop (.seq (rg [oO 70 (.bin .lss 2 (.t 69) (u9I 64))])
(.seq (.cond (.t 70) (.skip) (.exit 4))
(.seq (.block 5 (.seq (rg [oM 71 69,
 oA 10 71])
(.seq (.region true [] [
 oO 72 (.iaddr 77 (.t 9) (u9I 7)),
 oL 73 78 72,
 oO 74 (.iaddr 77 (.t 9) (u9I 4)),
 oL 75 78 74,
 oO 76 (.call 0 (.f 407) [(.t 75),(u9I 6),(u9I 11),(u9I 25)]),
 oO 77 (.bin .add 78 (.t 73) (.t 76)),
 oO 78 (.iaddr 77 (.t 9) (u9I 6)),
 oL 79 78 78,
 oO 80 (.iaddr 77 (.t 9) (u9I 4)),
 oL 81 78 80,
 oO 82 (.iaddr 77 (.t 9) (u9I 5)),
 oL 83 78 82,
 oO 84 (.iaddr 77 (.t 9) (u9I 6)),
 oL 85 78 84,
 oO 86 (.bin .xor 78 (.t 83) (.t 85)),
 oO 87 (.bin .and 78 (.t 81) (.t 86)),
 oO 88 (.bin .xor 78 (.t 79) (.t 87)),
 oO 89 (.bin .add 78 (.t 77) (.t 88)),
 oM 90 10,
 oO 91 (.iaddr 80 (.c (.iptr [.int .u32 1116352408,.int .u32 1899447441,.int .u32 3049323471,.int .u32 3921009573,.int .u32 961987163,.int .u32 1508970993,.int .u32 2453635748,.int .u32 2870763221,.int .u32 3624381080,.int .u32 310598401,.int .u32 607225278,.int .u32 1426881987,.int .u32 1925078388,.int .u32 2162078206,.int .u32 2614888103,.int .u32 3248222580,.int .u32 3835390401,.int .u32 4022224774,.int .u32 264347078,.int .u32 604807628,.int .u32 770255983,.int .u32 1249150122,.int .u32 1555081692,.int .u32 1996064986,.int .u32 2554220882,.int .u32 2821834349,.int .u32 2952996808,.int .u32 3210313671,.int .u32 3336571891,.int .u32 3584528711,.int .u32 113926993,.int .u32 338241895,.int .u32 666307205,.int .u32 773529912,.int .u32 1294757372,.int .u32 1396182291,.int .u32 1695183700,.int .u32 1986661051,.int .u32 2177026350,.int .u32 2456956037,.int .u32 2730485921,.int .u32 2820302411,.int .u32 3259730800,.int .u32 3345764771,.int .u32 3516065817,.int .u32 3600352804,.int .u32 4094571909,.int .u32 275423344,.int .u32 430227734,.int .u32 506948616,.int .u32 659060556,.int .u32 883997877,.int .u32 958139571,.int .u32 1322822218,.int .u32 1537002063,.int .u32 1747873779,.int .u32 1955562222,.int .u32 2024104815,.int .u32 2227730452,.int .u32 2361852424,.int .u32 2428436474,.int .u32 2756734187,.int .u32 3204031479,.int .u32 3329325298])) (.t 90)),
 oL 92 78 91,
 oO 93 (.bin .add 78 (.t 89) (.t 92)),
 oM 94 10,
 oI 95 80 4 94,
 oL 96 78 95,
 oO 97 (.bin .add 78 (.t 93) (.t 96)),
 oA 11 97])
(.seq (.region true [] [
 oO 98 (.iaddr 77 (.t 9) (u9I 0)),
 oL 99 78 98,
 oO 100 (.call 0 (.f 407) [(.t 99),(u9I 2),(u9I 13),(u9I 22)]),
 oO 101 (.iaddr 77 (.t 9) (u9I 0)),
 oL 102 78 101,
 oO 103 (.iaddr 77 (.t 9) (u9I 1)),
 oL 104 78 103,
 oO 105 (.bin .and 78 (.t 102) (.t 104)),
 oO 106 (.iaddr 77 (.t 9) (u9I 2)),
 oL 107 78 106,
 oO 108 (.iaddr 77 (.t 9) (u9I 0)),
 oL 109 78 108,
 oO 110 (.iaddr 77 (.t 9) (u9I 1)),
 oL 111 78 110,
 oO 112 (.bin .or 78 (.t 109) (.t 111)),
 oO 113 (.bin .and 78 (.t 107) (.t 112)),
 oO 114 (.bin .or 78 (.t 105) (.t 113)),
 oO 115 (.bin .add 78 (.t 100) (.t 114)),
 oA 12 115])
(.seq (.region true [] [
 oO 116 (.slice 77 (.t 9) (some (u9I 1)) none none),
 oO 117 (.slice 77 (.t 9) none (some (u9I 7)) none),
 oO 118 (.copy 81 81 (.t 116) (.t 117))])
(.seq (rg [oO 119 (.iaddr 77 (.t 9) (u9I 4)),
 oL 120 78 119,
 oM 121 11,
 oO 122 (.bin .add 78 (.t 120) (.t 121)),
 oO 123 (.iaddr 77 (.t 9) (u9I 4)),
 oE (.store 78 (.t 123) (.t 122))])
(rg [oM 124 11,
 oM 125 12,
 oO 126 (.bin .add 78 (.t 124) (.t 125)),
 oO 127 (.iaddr 77 (.t 9) (u9I 0)),
 oE (.store 78 (.t 127) (.t 126))])))))))
(rg [oO 128 (.bin .add 2 (.t 69) (u9I 1)),
 oM 69 128])))))))
(.seq (rg [oO 129 (.move (u9I 0))])
(.block 6 (.loop (.seq (rg [oO 130 (.bin .lss 2 (.t 129) (u9I 8))])
(.seq (.cond (.t 130) (.skip) (.exit 6))
(.seq (.block 7 (.seq (rg [oM 131 129,
 oA 13 131])
(.region true [] [
 oM 132 0,
 oM 133 13,
 oO 134 (.nilc (.t 132)),
 oI 135 77 134 133,
 oL 136 78 135,
 oM 137 13,
 oI 138 77 9 137,
 oL 139 78 138,
 oO 140 (.bin .add 78 (.t 136) (.t 139)),
 oO 141 (.nilc (.t 132)),
 oI 142 77 141 133,
 oE (.store 78 (.t 142) (.t 140))])))
(rg [oO 143 (.bin .add 2 (.t 129) (u9I 1)),
 oM 129 143])))))))))))⟩

def f405 : DFn := ⟨19,[.tmp 2],
 .seq (rg [oO 2 (.assign (.c (.int .u32 0)))])
(.seq (.seq (rg [oM 5 0,
 oO 6 (.slice 30 (.t 5) none (some (u9I 4)) none),
 oN 7 30 6,
 oO 8 (.move (u9I 0))])
(.block 0 (.loop (.seq (rg [oO 9 (.bin .lss 2 (.t 8) (.t 7))])
(.seq (.cond (.t 9) (.skip) (.exit 0))
(.seq (.block 1 (.seq (rg [oI 10 30 6 8,
 oL 11 13 10,
 oA 4 11])
(rg [oM 12 2,
 oO 13 (.bin .shl 78 (.t 12) (.c (.int .u64 8))),
 oM 14 4,
 oO 15 (.conv 13 78 (.t 14)),
 oO 16 (.bin .or 78 (.t 13) (.t 15)),
 oA 2 16])))
(rg [oO 17 (.bin .add 2 (.t 8) (u9I 1)),
 oM 8 17])))))))
(.seq (rg [oM 18 2,
 oA 2 18])
(.ret)))⟩

def f406 : DFn := ⟨17,[.tmp 4],
 .seq (rg [oO 4 (.assign (.c (.int .u32 0)))])
(.seq (rg [oM 6 1,
 oO 7 (.conv 2 12 (.t 6)),
 oO 8 (.bin .and 12 (.t 7) (.c (.int .u64 31))),
 oA 5 8])
(.seq (rg [oM 9 0,
 oM 10 5,
 oO 11 (.bin .shl 78 (.t 9) (.t 10)),
 oM 12 0,
 oM 13 5,
 oO 14 (.bin .sub 12 (.c (.int .u64 32)) (.t 13)),
 oO 15 (.bin .shr 78 (.t 12) (.t 14)),
 oO 16 (.bin .or 78 (.t 11) (.t 15)),
 oA 4 16])
(.ret)))⟩

def f407 : DFn := ⟨23,[.tmp 8],
 .seq (rg [oO 8 (.assign (.c (.int .u32 0)))])
(.seq (rg [oM 9 0,
 oM 10 1,
 oO 11 (.un .neg (.t 10)),
 oO 12 (.call 0 (.f 406) [(.t 9),(.t 11)]),
 oM 13 0,
 oM 14 2,
 oO 15 (.un .neg (.t 14)),
 oO 16 (.call 0 (.f 406) [(.t 13),(.t 15)]),
 oO 17 (.bin .xor 78 (.t 12) (.t 16)),
 oM 18 0,
 oM 19 3,
 oO 20 (.un .neg (.t 19)),
 oO 21 (.call 0 (.f 406) [(.t 18),(.t 20)]),
 oO 22 (.bin .xor 78 (.t 17) (.t 21)),
 oA 8 22])
(.ret))⟩

def tyTab : Nat -> TI
 | 2 => ⟨.int .i64,1,8,[(.int .i64 0)],false⟩
 | 3 => ⟨.int .i64,1,8,[(.int .i64 0)],false⟩
 | 6 => ⟨.slice 2,1,24,[(.imm .exact [])],false⟩
 | 7 => ⟨.bool,1,1,[(.bool false)],false⟩
 | 12 => ⟨.int .u64,1,8,[(.int .u64 0)],false⟩
 | 13 => ⟨.int .u8,1,1,[(.int .u8 0)],false⟩
 | 30 => ⟨.slice 13,1,24,[(.imm .exact [])],false⟩
 | 53 => ⟨.str,1,16,[(.str [])],false⟩
 | 55 => ⟨.struct [(0,2),(1,2),(2,53),(3,56)],4,56,[(.int .i64 0),(.int .i64 0),(.str []),(.imm .exact [])],false⟩
 | 56 => ⟨.slice 55,1,24,[(.imm .exact [])],false⟩
 | 57 => ⟨.arr 4 58,4,32,[.nilfn,.nilfn,.nilfn,.nilfn],false⟩
 | 58 => ⟨.struct [(0,59)],1,8,[.nilfn],false⟩
 | 59 => ⟨.func,1,8,[.nilfn],false⟩
 | 62 => ⟨.ptr 57,1,8,[.nilp],false⟩
 | 63 => ⟨.int .u64,1,8,[(.int .u64 0)],false⟩
 | 64 => ⟨.arr 4 7,4,4,[(.bool false),(.bool false),(.bool false),(.bool false)],true⟩
 | 65 => ⟨.struct [(0,2),(1,2)],2,16,[(.int .i64 0),(.int .i64 0)],true⟩
 | 66 => ⟨.slice 72,1,24,[(.imm .exact [])],false⟩
 | 67 => ⟨.slice 65,1,24,[(.imm .exact [])],false⟩
 | 68 => ⟨.struct [(0,2),(1,2),(2,66)],3,40,[(.int .i64 0),(.int .i64 0),(.imm .exact [])],false⟩
 | 69 => ⟨.slice 68,1,24,[(.imm .exact [])],false⟩
 | 70 => ⟨.slice 71,1,24,[(.imm .exact [])],false⟩
 | 71 => ⟨.struct [(0,2),(1,2),(2,2),(3,66),(4,73)],36,80,[(.int .i64 0),(.int .i64 0),(.int .i64 0),(.imm .exact []),(.int .u8 0),(.int .u8 0),(.int .u8 0),(.int .u8 0),(.int .u8 0),(.int .u8 0),(.int .u8 0),(.int .u8 0),(.int .u8 0),(.int .u8 0),(.int .u8 0),(.int .u8 0),(.int .u8 0),(.int .u8 0),(.int .u8 0),(.int .u8 0),(.int .u8 0),(.int .u8 0),(.int .u8 0),(.int .u8 0),(.int .u8 0),(.int .u8 0),(.int .u8 0),(.int .u8 0),(.int .u8 0),(.int .u8 0),(.int .u8 0),(.int .u8 0),(.int .u8 0),(.int .u8 0),(.int .u8 0),(.int .u8 0)],false⟩
 | 72 => ⟨.struct [(0,65),(2,2)],3,24,[(.int .i64 0),(.int .i64 0),(.int .i64 0)],true⟩
 | 73 => ⟨.arr 32 13,32,32,[(.int .u8 0),(.int .u8 0),(.int .u8 0),(.int .u8 0),(.int .u8 0),(.int .u8 0),(.int .u8 0),(.int .u8 0),(.int .u8 0),(.int .u8 0),(.int .u8 0),(.int .u8 0),(.int .u8 0),(.int .u8 0),(.int .u8 0),(.int .u8 0),(.int .u8 0),(.int .u8 0),(.int .u8 0),(.int .u8 0),(.int .u8 0),(.int .u8 0),(.int .u8 0),(.int .u8 0),(.int .u8 0),(.int .u8 0),(.int .u8 0),(.int .u8 0),(.int .u8 0),(.int .u8 0),(.int .u8 0),(.int .u8 0)],true⟩
 | 74 => ⟨.slice 30,1,24,[(.imm .exact [])],false⟩
 | 76 => ⟨.arr 8 78,8,32,[(.int .u32 0),(.int .u32 0),(.int .u32 0),(.int .u32 0),(.int .u32 0),(.int .u32 0),(.int .u32 0),(.int .u32 0)],true⟩
 | 77 => ⟨.arr 8 78,8,32,[(.int .u32 0),(.int .u32 0),(.int .u32 0),(.int .u32 0),(.int .u32 0),(.int .u32 0),(.int .u32 0),(.int .u32 0)],true⟩
 | 78 => ⟨.int .u32,1,4,[(.int .u32 0)],false⟩
 | 79 => ⟨.int .i64,1,8,[(.int .i64 0)],false⟩
 | 80 => ⟨.arr 64 78,64,256,[(.int .u32 0),(.int .u32 0),(.int .u32 0),(.int .u32 0),(.int .u32 0),(.int .u32 0),(.int .u32 0),(.int .u32 0),(.int .u32 0),(.int .u32 0),(.int .u32 0),(.int .u32 0),(.int .u32 0),(.int .u32 0),(.int .u32 0),(.int .u32 0),(.int .u32 0),(.int .u32 0),(.int .u32 0),(.int .u32 0),(.int .u32 0),(.int .u32 0),(.int .u32 0),(.int .u32 0),(.int .u32 0),(.int .u32 0),(.int .u32 0),(.int .u32 0),(.int .u32 0),(.int .u32 0),(.int .u32 0),(.int .u32 0),(.int .u32 0),(.int .u32 0),(.int .u32 0),(.int .u32 0),(.int .u32 0),(.int .u32 0),(.int .u32 0),(.int .u32 0),(.int .u32 0),(.int .u32 0),(.int .u32 0),(.int .u32 0),(.int .u32 0),(.int .u32 0),(.int .u32 0),(.int .u32 0),(.int .u32 0),(.int .u32 0),(.int .u32 0),(.int .u32 0),(.int .u32 0),(.int .u32 0),(.int .u32 0),(.int .u32 0),(.int .u32 0),(.int .u32 0),(.int .u32 0),(.int .u32 0),(.int .u32 0),(.int .u32 0),(.int .u32 0),(.int .u32 0)],true⟩
 | 81 => ⟨.slice 78,1,24,[(.imm .exact [])],false⟩
 | 82 => ⟨.int .u64,1,8,[(.int .u64 0)],false⟩
 | _ => ⟨.other,0,0,[],false⟩

def fnTab : Nat -> Option DFn
 | 74 => some f74
 | 105 => some f105
 | 107 => some f107
 | 264 => some f264
 | 281 => some f281
 | 282 => some f282
 | 297 => some f297
 | 298 => some f298
 | 299 => some f299
 | 300 => some f300
 | 311 => some f311
 | 312 => some f312
 | 314 => some f314
 | 316 => some f316
 | 318 => some f318
 | 320 => some f320
 | 322 => some f322
 | 323 => some f323
 | 324 => some f324
 | 325 => some f325
 | 326 => some f326
 | 327 => some f327
 | 329 => some f329
 | 331 => some f331
 | 334 => some f334
 | 335 => some f335
 | 337 => some f337
 | 353 => some f353
 | 354 => some f354
 | 355 => some f355
 | 356 => some f356
 | 359 => some f359
 | 361 => some f361
 | 362 => some f362
 | 363 => some f363
 | 364 => some f364
 | 365 => some f365
 | 366 => some f366
 | 380 => some f380
 | 383 => some f383
 | 384 => some f384
 | 404 => some f404
 | 405 => some f405
 | 406 => some f406
 | 407 => some f407
 | _ => none

def keepTab : Nat -> Bool
 | _ => false

def mpTab : Nat -> Bool
 | _ => false

def E : Env := ⟨tyTab,fnTab,keepTab,mpTab,primTab⟩

end Dv
