/- Texts that a proof of this claim uses, joined: Dv.Code. -/
import Derived.Test.YtkhdnmaebokedaaDva
set_option linter.all false
namespace Dv
open Go (IntKind BinOp UnOp)

abbrev oO (n : Nat) (x : DOp) : DOpr := ⟨some n,x,none⟩
abbrev oE (x : DOp) : DOpr := ⟨none,x,none⟩
abbrev oM (n k : Nat) : DOpr := ⟨some n,.move (.t k),none⟩
abbrev oL (n t a : Nat) : DOpr := ⟨some n,.load t (.t a),none⟩
abbrev oF (n t a k : Nat) : DOpr := ⟨some n,.faddr t (.t a) k,none⟩
abbrev oI (n t a b : Nat) : DOpr := ⟨some n,.iaddr t (.t a) (.t b),none⟩
abbrev oN (n t a : Nat) : DOpr := ⟨some n,.len t (.t a),none⟩
abbrev oA (n a : Nat) : DOpr := ⟨some n,.assign (.t a),none⟩
abbrev rg (l : List DOpr) : DC := .region false [] l
def f2 : DFn := ⟨77,[.tmp 2],
 .seq (rg [oO 1 (.box 0 (.t 0)),
 oO 2 (.assign (.c (.bool false)))])
(.seq (.seq (rg [oF 7 0 1 0,
 oL 8 10 7,
 oN 9 10 8,
 oO 10 (.bin .gtr 2 (.t 9) (.c (.int .i64 12))),
 oM 11 10,
⟨(some 12),.faddr 0 (.t 1) 1,(some (11,false))⟩,
⟨(some 13),.load 9 (.t 12),(some (11,false))⟩,
⟨(some 14),.len 9 (.t 13),(some (11,false))⟩,
⟨(some 15),.bin .gtr 2 (.t 14) (.c (.int .i64 4)),(some (11,false))⟩,
 oO 16 (.pick (.t 11) (.c (.bool true)) (.t 15)),
 oM 17 16,
⟨(some 18),.faddr 0 (.t 1) 2,(some (17,false))⟩,
⟨(some 19),.load 14 (.t 18),(some (17,false))⟩,
⟨(some 20),.len 14 (.t 19),(some (17,false))⟩,
⟨(some 21),.bin .gtr 2 (.t 20) (.c (.int .i64 6)),(some (17,false))⟩,
 oO 22 (.pick (.t 17) (.c (.bool true)) (.t 21))])
(.cond (.t 22) (.seq (rg [oO 2 (.assign (.c (.bool false)))])
(.ret)) (.skip)))
(.seq (.seq (rg [oO 3 (.assign (.c (.int .i64 0)))])
(.block 0 (.loop (.seq (.seq (rg [oM 23 3,
 oF 24 0 1 1,
 oL 25 9 24,
 oN 26 9 25,
 oO 27 (.bin .lss 2 (.t 23) (.t 26))])
(.cond (.t 27) (.skip) (.exit 0)))
(.seq (.block 1 (.seq (rg [oF 30 0 1 1,
 oL 31 9 30,
 oM 32 3,
 oI 33 9 31 32,
 oL 34 6 33,
 oN 35 6 34,
 oO 36 (.bin .gtr 2 (.t 35) (.c (.int .i64 16)))])
(.cond (.t 36) (.seq (rg [oO 2 (.assign (.c (.bool false)))])
(.ret)) (.skip))))
(rg [oM 28 3,
 oO 29 (.bin .add 2 (.t 28) (.c (.int .i64 1))),
 oA 3 29]))))))
(.seq (.seq (rg [oO 4 (.assign (.c (.int .i64 0)))])
(.block 2 (.loop (.seq (.seq (rg [oM 37 4,
 oF 38 0 1 2,
 oL 39 14 38,
 oN 40 14 39,
 oO 41 (.bin .lss 2 (.t 37) (.t 40))])
(.cond (.t 41) (.skip) (.exit 2)))
(.seq (.block 3 (.seq (rg [oF 44 0 1 2,
 oL 45 14 44,
 oM 46 4,
 oI 47 14 45 46,
 oL 48 15 47,
 oO 5 (.alloc 15),
 oE (.store 15 (.t 5) (.t 48))])
(.seq (.seq (rg [oF 49 15 5 2,
 oL 50 6 49,
 oN 51 6 50,
 oO 52 (.bin .gtr 2 (.t 51) (.c (.int .i64 8))),
 oM 53 52,
⟨(some 54),.faddr 15 (.t 5) 3,(some (53,false))⟩,
⟨(some 55),.load 16 (.t 54),(some (53,false))⟩,
⟨(some 56),.len 16 (.t 55),(some (53,false))⟩,
⟨(some 57),.bin .gtr 2 (.t 56) (.c (.int .i64 8)),(some (53,false))⟩,
 oO 58 (.pick (.t 53) (.c (.bool true)) (.t 57))])
(.cond (.t 58) (.seq (rg [oO 2 (.assign (.c (.bool false)))])
(.ret)) (.skip)))
(.seq (rg [oO 6 (.assign (.c (.int .i64 0)))])
(.block 4 (.loop (.seq (.seq (rg [oM 59 6,
 oF 60 15 5 3,
 oL 61 16 60,
 oN 62 16 61,
 oO 63 (.bin .lss 2 (.t 59) (.t 62))])
(.cond (.t 63) (.skip) (.exit 4)))
(.seq (.block 5 (.seq (rg [oF 66 15 5 3,
 oL 67 16 66,
 oM 68 6,
 oI 69 16 67 68,
 oF 70 17 69 3,
 oL 71 18 70,
 oN 72 18 71,
 oO 73 (.bin .gtr 2 (.t 72) (.c (.int .i64 12)))])
(.cond (.t 73) (.seq (rg [oO 2 (.assign (.c (.bool false)))])
(.ret)) (.skip))))
(rg [oM 64 6,
 oO 65 (.bin .add 2 (.t 64) (.c (.int .i64 1))),
 oA 6 65])))))))))
(rg [oM 42 4,
 oO 43 (.bin .add 2 (.t 42) (.c (.int .i64 1))),
 oA 4 43]))))))
(.seq (rg [oL 74 0 1,
 oO 75 (.call 0 (.f 61) [(.t 74),(.c (.int .i64 2000))]),
 oO 76 (.bin .lss 2 (.t 75) (.c (.int .i64 2000))),
 oA 2 76])
(.ret)))))⟩

def f3 : DFn := ⟨89,[.cell 4 6,.tmp 5],
 .seq (rg [oO 2 (.box 0 (.t 0)),
 oO 4 (.alloc 6),
 oO 5 (.assign (.c (.int .i64 0)))])
(.seq (.seq (rg [oL 14 0 2,
 oM 15 1,
 oO 16 (.call 0 (.f 62) [(.t 14),(.t 15)]),
 oA 5 16])
(.seq (rg [oM 17 5,
 oO 18 (.bin .neq 3 (.t 17) (.c (.int .i64 0)))])
(.cond (.t 18) (.seq (rg [oM 19 5,
 oE (.store 6 (.t 4) (.c (.imm .exact []))),
 oA 5 19])
(.ret)) (.skip))))
(.seq (rg [oO 20 (.mkslice true 6 (.c (.int .i64 4)) (.c (.int .i64 4))),
 oE (.store 6 (.t 4) (.t 20))])
(.seq (.seq (rg [oF 21 0 2 1,
 oL 22 9 21,
 oN 23 9 22,
 oO 24 (.move (.c (.int .i64 0)))])
(.block 0 (.loop (.seq (rg [oO 25 (.bin .lss 2 (.t 24) (.t 23))])
(.seq (.cond (.t 25) (.skip) (.exit 0))
(.seq (.block 1 (.seq (rg [oM 26 24,
 oI 27 9 22 24,
 oL 28 6 27,
 oA 6 26,
 oA 7 28])
(.seq (rg [oL 30 0 2,
 oM 31 1,
 oM 32 6,
 oO 33 (.call 0 (.f 14) [(.t 30),(.t 31),(.t 32)]),
 oM 29 33,
 oO 34 (.extract (.t 29) 0),
 oO 35 (.extract (.t 29) 1),
 oA 8 34,
 oA 9 35])
(.seq (rg [oM 36 8,
 oN 37 6 36,
 oO 38 (.move (.c (.int .i64 0)))])
(.block 2 (.loop (.seq (rg [oO 39 (.bin .lss 2 (.t 38) (.t 37))])
(.seq (.cond (.t 39) (.skip) (.exit 2))
(.seq (.block 3 (.seq (rg [oM 40 38,
 oI 41 6 36 38,
 oL 42 2 41,
 oA 10 40,
 oA 11 42])
(.region true [] [
 oL 43 6 4,
 oO 44 (.iaddr 6 (.t 43) (.c (.int .i64 0))),
 oL 45 2 44,
 oM 46 11,
 oM 47 7,
 oM 48 10,
 oI 49 6 47 48,
 oL 50 2 49,
 oO 51 (.bin .sub 2 (.t 46) (.t 50)),
 oO 52 (.maxi [(.t 51),(.c (.int .i64 0))]),
 oO 53 (.bin .add 2 (.t 45) (.t 52)),
 oO 54 (.iaddr 6 (.t 43) (.c (.int .i64 0))),
 oE (.store 2 (.t 54) (.t 53))])))
(rg [oO 55 (.bin .add 2 (.t 38) (.c (.int .i64 1))),
 oM 38 55]))))))))))
(rg [oO 56 (.bin .add 2 (.t 24) (.c (.int .i64 1))),
 oM 24 56])))))))
(.seq (.seq (rg [oL 57 0 2,
 oM 58 1,
 oO 59 (.call 0 (.f 63) [(.t 57),(.t 58)])])
(.block 4 (.rfunc (.t 59) [60,61] (.seq (rg [oA 12 60])
(rg [oO 13 (.alloc 17),
 oE (.store 17 (.t 13) (.t 61))])) (.block 5 (.seq (.region true [] [
 oL 62 6 4,
 oL 63 6 4,
 oO 64 (.iaddr 6 (.t 63) (.c (.int .i64 1))),
 oL 65 2 64,
 oF 66 17 13 0,
 oL 67 2 66,
 oO 68 (.maxi [(.t 65),(.t 67)]),
 oO 69 (.iaddr 6 (.t 62) (.c (.int .i64 1))),
 oE (.store 2 (.t 69) (.t 68))])
(.seq (.region true [] [
 oL 70 6 4,
 oO 71 (.iaddr 6 (.t 70) (.c (.int .i64 2))),
 oL 72 2 71,
 oF 73 17 13 1,
 oL 74 2 73,
 oM 75 12,
 oO 76 (.bin .mul 2 (.t 74) (.t 75)),
 oO 77 (.bin .add 2 (.t 72) (.t 76)),
 oO 78 (.iaddr 6 (.t 70) (.c (.int .i64 2))),
 oE (.store 2 (.t 78) (.t 77))])
(.region true [] [
 oL 79 6 4,
 oO 80 (.iaddr 6 (.t 79) (.c (.int .i64 3))),
 oL 81 2 80,
 oF 82 17 13 2,
 oL 83 2 82,
 oM 84 12,
 oO 85 (.bin .mul 2 (.t 83) (.t 84)),
 oO 86 (.bin .add 2 (.t 81) (.t 85)),
 oO 87 (.iaddr 6 (.t 79) (.c (.int .i64 3))),
 oE (.store 2 (.t 87) (.t 86))])))))))
(.seq (rg [oL 88 6 4,
 oE (.store 6 (.t 4) (.t 88)),
 oO 5 (.assign (.c (.int .i64 0)))])
(.ret))))))⟩

def f7 : DFn := ⟨43,[.tmp 4,.tmp 5],
 .seq (rg [oO 2 (.box 0 (.t 0)),
 oO 4 (.assign (.c (.imm .exact []))),
 oO 5 (.assign (.c (.int .i64 0)))])
(.seq (.seq (rg [oL 8 0 2,
 oM 9 1,
 oO 10 (.call 0 (.f 62) [(.t 8),(.t 9)]),
 oA 5 10])
(.seq (rg [oM 11 5,
 oO 12 (.bin .neq 3 (.t 11) (.c (.int .i64 0)))])
(.cond (.t 12) (.seq (rg [oM 13 5,
 oO 4 (.assign (.c (.imm .exact []))),
 oA 5 13])
(.ret)) (.skip))))
(.seq (rg [oM 14 1,
 oN 15 1 14,
 oA 6 15])
(.seq (.seq (rg [oM 16 6,
 oF 17 0 2 2,
 oL 18 14 17,
 oN 19 14 18,
 oO 20 (.bin .eql 2 (.t 16) (.t 19))])
(.cond (.t 20) (.seq (rg [oO 4 (.assign (.c (.imm .exact []))),
 oO 5 (.assign (.c (.int .i64 280)))])
(.ret)) (.skip)))
(.seq (.seq (rg [oF 21 0 2 2,
 oL 22 14 21,
 oM 23 6,
 oI 24 14 22 23,
 oF 25 15 24 3,
 oL 26 16 25,
 oN 27 16 26,
 oO 28 (.move (.c (.int .i64 0)))])
(.block 0 (.loop (.seq (rg [oO 29 (.bin .lss 2 (.t 28) (.t 27))])
(.seq (.cond (.t 29) (.skip) (.exit 0))
(.seq (.block 1 (.seq (rg [oM 30 28,
 oA 7 30])
(rg [oM 31 4,
 oM 32 1,
 oM 33 6,
 oM 34 6,
 oO 35 (.slice 1 (.t 32) none (some (.t 33)) (some (.t 34))),
 oM 36 7,
 oO 37 (.bslice false 1 1 [(0,(.t 36))]),
 oO 38 (.append 0 1 1 (.t 35) (.t 37)),
 oO 39 (.bslice false 4 1 [(0,(.t 38))]),
 oO 40 (.append 0 4 4 (.t 31) (.t 39)),
 oA 4 40])))
(rg [oO 41 (.bin .add 2 (.t 28) (.c (.int .i64 1))),
 oM 28 41])))))))
(.seq (rg [oM 42 4,
 oA 4 42,
 oO 5 (.assign (.c (.int .i64 0)))])
(.ret))))))⟩

def f9 : DFn := ⟨20,[.tmp 4,.tmp 5],
 .seq (rg [oO 2 (.box 0 (.t 0)),
 oO 4 (.assign (.c (.imm .exact []))),
 oO 5 (.assign (.c (.int .i64 0)))])
(.seq (.seq (rg [oL 6 0 2,
 oM 7 1,
 oO 8 (.call 0 (.f 62) [(.t 6),(.t 7)]),
 oA 5 8])
(.seq (rg [oM 9 5,
 oO 10 (.bin .neq 3 (.t 9) (.c (.int .i64 0)))])
(.cond (.t 10) (.seq (rg [oM 11 5,
 oO 4 (.assign (.c (.imm .exact []))),
 oA 5 11])
(.ret)) (.skip))))
(.seq (rg [oF 12 0 2 2,
 oL 13 14 12,
 oN 14 14 13,
 oO 15 (.mkslice true 6 (.t 14) (.t 14)),
 oA 4 15])
(.seq (rg [oM 16 4,
 oM 17 1,
 oO 18 (.copy 6 1 (.t 16) (.t 17))])
(.seq (rg [oM 19 4,
 oA 4 19,
 oO 5 (.assign (.c (.int .i64 0)))])
(.ret)))))⟩

def f14 : DFn := ⟨27,[.tmp 6,.tmp 7],
 .seq (rg [oO 3 (.box 0 (.t 0)),
 oO 6 (.assign (.c (.imm .exact []))),
 oO 7 (.assign (.c (.int .i64 0)))])
(.seq (.seq (rg [oL 8 0 3,
 oM 9 1,
 oO 10 (.call 0 (.f 66) [(.t 8),(.t 9)]),
 oA 7 10])
(.seq (rg [oM 11 7,
 oO 12 (.bin .neq 3 (.t 11) (.c (.int .i64 0)))])
(.cond (.t 12) (.seq (rg [oM 13 7,
 oO 6 (.assign (.c (.imm .exact []))),
 oA 7 13])
(.ret)) (.skip))))
(.seq (.seq (rg [oM 14 2,
 oF 15 0 3 1,
 oL 16 9 15,
 oN 17 9 16,
 oO 18 (.bin .sub 2 (.t 17) (.c (.int .i64 1))),
 oO 19 (.call 0 (.f 67) [(.t 14),(.c (.int .i64 0)),(.t 18)]),
 oO 20 (.un .not (.t 19))])
(.cond (.t 20) (.seq (rg [oO 6 (.assign (.c (.imm .exact []))),
 oO 7 (.assign (.c (.int .i64 270)))])
(.ret)) (.skip)))
(.seq (rg [oL 21 0 3,
 oM 22 1,
 oO 23 (.call 0 (.f 68) [(.t 21),(.t 22)]),
 oM 24 2,
 oI 25 9 23 24,
 oL 26 6 25,
 oA 6 26,
 oO 7 (.assign (.c (.int .i64 0)))])
(.ret))))⟩

def f15 : DFn := ⟨173,[.tmp 2],
 .seq (rg [oO 1 (.box 0 (.t 0)),
 oO 2 (.assign (.c (.int .i64 0)))])
(.seq (.seq (rg [oF 15 0 1 0,
 oL 16 10 15,
 oN 17 10 16,
 oO 18 (.bin .gtr 2 (.t 17) (.c (.int .i64 4096))),
 oM 19 18,
⟨(some 20),.faddr 0 (.t 1) 1,(some (19,false))⟩,
⟨(some 21),.load 9 (.t 20),(some (19,false))⟩,
⟨(some 22),.len 9 (.t 21),(some (19,false))⟩,
⟨(some 23),.call 0 (.f 67) [(.t 22),(.c (.int .i64 1)),(.c (.int .i64 32))],(some (19,false))⟩,
⟨(some 24),.un .not (.t 23),(some (19,false))⟩,
 oO 25 (.pick (.t 19) (.c (.bool true)) (.t 24)),
 oM 26 25,
⟨(some 27),.faddr 0 (.t 1) 2,(some (26,false))⟩,
⟨(some 28),.load 14 (.t 27),(some (26,false))⟩,
⟨(some 29),.len 14 (.t 28),(some (26,false))⟩,
⟨(some 30),.bin .gtr 2 (.t 29) (.c (.int .i64 64)),(some (26,false))⟩,
 oO 31 (.pick (.t 26) (.c (.bool true)) (.t 30)),
 oM 32 31,
⟨(some 33),.faddr 0 (.t 1) 0,(some (32,false))⟩,
⟨(some 34),.load 10 (.t 33),(some (32,false))⟩,
⟨(some 35),.call 0 (.f 69) [(.t 34),(.f 70)],(some (32,false))⟩,
⟨(some 36),.un .not (.t 35),(some (32,false))⟩,
 oO 37 (.pick (.t 32) (.c (.bool true)) (.t 36))])
(.cond (.t 37) (.seq (rg [oO 2 (.assign (.c (.int .i64 270)))])
(.ret)) (.skip)))
(.seq (rg [oO 38 (.mkmap 21),
 oA 3 38])
(.seq (.seq (rg [oF 39 0 1 0,
 oL 40 10 39,
 oN 41 10 40,
 oO 42 (.move (.c (.int .i64 0)))])
(.block 0 (.loop (.seq (rg [oO 43 (.bin .lss 2 (.t 42) (.t 41))])
(.seq (.cond (.t 43) (.skip) (.exit 0))
(.seq (.block 1 (.seq (rg [oI 44 10 40 42,
 oL 45 20 44,
 oO 5 (.alloc 20),
 oE (.store 20 (.t 5) (.t 45))])
(.seq (.seq (rg [oF 46 20 5 1,
 oL 47 2 46,
 oO 48 (.bin .lss 2 (.t 47) (.c (.int .i64 0))),
 oM 49 48,
⟨(some 50),.faddr 20 (.t 5) 2,(some (49,false))⟩,
⟨(some 51),.load 2 (.t 50),(some (49,false))⟩,
⟨(some 52),.bin .lss 2 (.t 51) (.c (.int .i64 0)),(some (49,false))⟩,
 oO 53 (.pick (.t 49) (.c (.bool true)) (.t 52))])
(.cond (.t 53) (.seq (rg [oO 2 (.assign (.c (.int .i64 270)))])
(.ret)) (.skip)))
(rg [oM 54 3,
 oL 55 20 5,
 oE (.mapset 21 (.t 54) (.t 55) (.c (.bool true)))]))))
(rg [oO 56 (.bin .add 2 (.t 42) (.c (.int .i64 1))),
 oM 42 56])))))))
(.seq (.seq (rg [oF 57 0 1 1,
 oL 58 9 57,
 oN 59 9 58,
 oO 60 (.move (.c (.int .i64 0)))])
(.block 2 (.loop (.seq (rg [oO 61 (.bin .lss 2 (.t 60) (.t 59))])
(.seq (.cond (.t 61) (.skip) (.exit 2))
(.seq (.block 3 (.seq (rg [oI 62 9 58 60,
 oL 63 6 62,
 oA 7 63])
(.seq (rg [oM 64 7,
 oN 65 6 64,
 oF 66 0 1 0,
 oL 67 10 66,
 oN 68 10 67,
 oO 69 (.bin .neq 2 (.t 65) (.t 68)),
 oM 70 69,
⟨(some 71),.move (.t 7),(some (70,false))⟩,
⟨(some 72),.call 0 (.f 71) [(.t 71),(.f 72)],(some (70,false))⟩,
 oO 73 (.pick (.t 70) (.c (.bool true)) (.t 72))])
(.cond (.t 73) (.seq (rg [oO 2 (.assign (.c (.int .i64 270)))])
(.ret)) (.skip)))))
(rg [oO 74 (.bin .add 2 (.t 60) (.c (.int .i64 1))),
 oM 60 74])))))))
(.seq (.seq (rg [oF 75 0 1 2,
 oL 76 14 75,
 oN 77 14 76,
 oO 78 (.move (.c (.int .i64 0)))])
(.block 4 (.loop (.seq (rg [oO 79 (.bin .lss 2 (.t 78) (.t 77))])
(.seq (.cond (.t 79) (.skip) (.exit 4))
(.seq (.block 5 (.seq (rg [oI 80 14 76 78,
 oL 81 15 80,
 oO 9 (.alloc 15),
 oE (.store 15 (.t 9) (.t 81))])
(.seq (.seq (.region true [] [
 oF 82 15 9 2,
 oL 83 6 82,
 oN 84 6 83,
 oO 85 (.bin .eql 2 (.t 84) (.c (.int .i64 0))),
 oM 86 85,
⟨(some 87),.faddr 15 (.t 9) 3,(some (86,false))⟩,
⟨(some 88),.load 16 (.t 87),(some (86,false))⟩,
⟨(some 89),.len 16 (.t 88),(some (86,false))⟩,
⟨(some 90),.call 0 (.f 67) [(.t 89),(.c (.int .i64 1)),(.c (.int .i64 96))],(some (86,false))⟩,
⟨(some 91),.un .not (.t 90),(some (86,false))⟩,
 oO 92 (.pick (.t 86) (.c (.bool true)) (.t 91)),
 oM 93 92,
⟨(some 94),.faddr 15 (.t 9) 2,(some (93,false))⟩,
⟨(some 95),.load 6 (.t 94),(some (93,false))⟩,
⟨(some 96),.call 0 (.f 73) [(.t 95),(.f 74)],(some (93,false))⟩,
⟨(some 97),.un .not (.t 96),(some (93,false))⟩,
 oO 98 (.pick (.t 93) (.c (.bool true)) (.t 97)),
 oM 99 98,
⟨(some 100),.faddr 15 (.t 9) 2,(some (99,false))⟩,
⟨(some 101),.load 6 (.t 100),(some (99,false))⟩,
⟨(some 102),.iaddr 6 (.t 101) (.c (.int .i64 0)),(some (99,false))⟩,
⟨(some 103),.load 2 (.t 102),(some (99,false))⟩,
⟨(some 104),.bin .lss 2 (.t 103) (.c (.int .i64 0)),(some (99,false))⟩,
 oO 105 (.pick (.t 99) (.c (.bool true)) (.t 104)),
 oM 106 105,
⟨(some 107),.faddr 15 (.t 9) 2,(some (106,false))⟩,
⟨(some 108),.load 6 (.t 107),(some (106,false))⟩,
⟨(some 109),.faddr 15 (.t 9) 2,(some (106,false))⟩,
⟨(some 110),.load 6 (.t 109),(some (106,false))⟩,
⟨(some 111),.len 6 (.t 110),(some (106,false))⟩,
⟨(some 112),.bin .sub 2 (.t 111) (.c (.int .i64 1)),(some (106,false))⟩,
⟨(some 113),.iaddr 6 (.t 108) (.t 112),(some (106,false))⟩,
⟨(some 114),.load 2 (.t 113),(some (106,false))⟩,
⟨(some 115),.faddr 0 (.t 1) 1,(some (106,false))⟩,
⟨(some 116),.load 9 (.t 115),(some (106,false))⟩,
⟨(some 117),.len 9 (.t 116),(some (106,false))⟩,
⟨(some 118),.bin .geq 2 (.t 114) (.t 117),(some (106,false))⟩,
 oO 119 (.pick (.t 106) (.c (.bool true)) (.t 118))])
(.cond (.t 119) (.seq (rg [oO 2 (.assign (.c (.int .i64 270)))])
(.ret)) (.skip)))
(.seq (rg [oF 120 15 9 3,
 oL 121 16 120,
 oN 122 16 121,
 oO 123 (.move (.c (.int .i64 0)))])
(.block 6 (.loop (.seq (rg [oO 124 (.bin .lss 2 (.t 123) (.t 122))])
(.seq (.cond (.t 124) (.skip) (.exit 6))
(.seq (.block 7 (.seq (rg [oI 125 16 121 123,
 oL 126 17 125,
 oO 11 (.alloc 17),
 oE (.store 17 (.t 11) (.t 126))])
(.seq (rg [oO 12 (.assign (.c (.int .i64 1048576)))])
(.seq (.seq (rg [oF 127 17 11 0,
 oL 128 2 127,
 oM 129 12,
 oO 130 (.call 0 (.f 67) [(.t 128),(.c (.int .i64 0)),(.t 129)]),
 oO 131 (.un .not (.t 130)),
 oM 132 131,
⟨(some 133),.faddr 17 (.t 11) 1,(some (132,false))⟩,
⟨(some 134),.load 2 (.t 133),(some (132,false))⟩,
⟨(some 135),.move (.t 12),(some (132,false))⟩,
⟨(some 136),.call 0 (.f 67) [(.t 134),(.c (.int .i64 0)),(.t 135)],(some (132,false))⟩,
⟨(some 137),.un .not (.t 136),(some (132,false))⟩,
 oO 138 (.pick (.t 132) (.c (.bool true)) (.t 137)),
 oM 139 138,
⟨(some 140),.faddr 17 (.t 11) 2,(some (139,false))⟩,
⟨(some 141),.load 2 (.t 140),(some (139,false))⟩,
⟨(some 142),.move (.t 12),(some (139,false))⟩,
⟨(some 143),.call 0 (.f 67) [(.t 141),(.c (.int .i64 0)),(.t 142)],(some (139,false))⟩,
⟨(some 144),.un .not (.t 143),(some (139,false))⟩,
 oO 145 (.pick (.t 139) (.c (.bool true)) (.t 144)),
 oM 146 145,
⟨(some 147),.faddr 17 (.t 11) 3,(some (146,false))⟩,
⟨(some 148),.load 18 (.t 147),(some (146,false))⟩,
⟨(some 149),.call 0 (.f 75) [(.t 148),(.f 76)],(some (146,false))⟩,
⟨(some 150),.un .not (.t 149),(some (146,false))⟩,
 oO 151 (.pick (.t 146) (.c (.bool true)) (.t 150))])
(.cond (.t 151) (.seq (rg [oO 2 (.assign (.c (.int .i64 270)))])
(.ret)) (.skip)))
(.seq (rg [oF 152 17 11 3,
 oL 153 18 152,
 oN 154 18 153,
 oO 155 (.move (.c (.int .i64 0)))])
(.block 8 (.loop (.seq (rg [oO 156 (.bin .lss 2 (.t 155) (.t 154))])
(.seq (.cond (.t 156) (.skip) (.exit 8))
(.seq (.block 9 (.seq (rg [oI 157 18 153 155,
 oL 158 19 157,
 oO 14 (.alloc 19),
 oE (.store 19 (.t 14) (.t 158))])
(.seq (rg [oM 159 3,
 oF 160 19 14 0,
 oL 161 20 160,
 oO 162 (.lookup 21 (.t 159) (.t 161) false),
 oO 163 (.un .not (.t 162)),
 oM 164 163,
⟨(some 165),.faddr 19 (.t 14) 1,(some (164,false))⟩,
⟨(some 166),.load 2 (.t 165),(some (164,false))⟩,
⟨(some 167),.call 0 (.f 67) [(.t 166),(.c (.int .i64 1)),(.c (.int .i64 8))],(some (164,false))⟩,
⟨(some 168),.un .not (.t 167),(some (164,false))⟩,
 oO 169 (.pick (.t 164) (.c (.bool true)) (.t 168))])
(.cond (.t 169) (.seq (rg [oO 2 (.assign (.c (.int .i64 270)))])
(.ret)) (.skip)))))
(rg [oO 170 (.bin .add 2 (.t 155) (.c (.int .i64 1))),
 oM 155 170])))))))))))
(rg [oO 171 (.bin .add 2 (.t 123) (.c (.int .i64 1))),
 oM 123 171]))))))))))
(rg [oO 172 (.bin .add 2 (.t 78) (.c (.int .i64 1))),
 oM 78 172])))))))
(.seq (rg [oO 2 (.assign (.c (.int .i64 0)))])
(.ret)))))))⟩

def f20 : DFn := ⟨26,[.tmp 4],
 .seq (rg [oO 4 (.assign (.c (.bool false)))])
(.seq (.seq (rg [oM 6 0,
 oN 7 6 6,
 oM 8 1,
 oN 9 6 8,
 oO 10 (.bin .neq 2 (.t 7) (.t 9))])
(.cond (.t 10) (.seq (rg [oO 4 (.assign (.c (.bool false)))])
(.ret)) (.skip)))
(.seq (.seq (rg [oO 5 (.assign (.c (.int .i64 0)))])
(.block 0 (.loop (.seq (.seq (rg [oM 11 5,
 oM 12 0,
 oN 13 6 12,
 oO 14 (.bin .lss 2 (.t 11) (.t 13))])
(.cond (.t 14) (.skip) (.exit 0)))
(.seq (.block 1 (.seq (.region true [] [
 oM 17 0,
 oM 18 5,
 oI 19 6 17 18,
 oL 20 2 19,
 oM 21 1,
 oM 22 5,
 oI 23 6 21 22,
 oL 24 2 23,
 oO 25 (.bin .neq 2 (.t 20) (.t 24))])
(.cond (.t 25) (.seq (rg [oO 4 (.assign (.c (.bool false)))])
(.ret)) (.skip))))
(rg [oM 15 5,
 oO 16 (.bin .add 2 (.t 15) (.c (.int .i64 1))),
 oA 5 16]))))))
(.seq (rg [oO 4 (.assign (.c (.bool true)))])
(.ret))))⟩

def f22 : DFn := ⟨76,[.tmp 4,.tmp 5],
 .seq (rg [oO 2 (.box 0 (.t 0)),
 oO 4 (.assign (.c (.imm .exact []))),
 oO 5 (.assign (.c (.int .i64 0)))])
(.seq (.seq (rg [oL 13 0 2,
 oM 14 1,
 oO 15 (.call 0 (.f 83) [(.t 13),(.t 14)]),
 oA 5 15])
(.seq (rg [oM 16 5,
 oO 17 (.bin .neq 3 (.t 16) (.c (.int .i64 0)))])
(.cond (.t 17) (.seq (rg [oM 18 5,
 oO 4 (.assign (.c (.imm .exact []))),
 oA 5 18])
(.ret)) (.skip))))
(.seq (rg [oO 6 (.alloc 22)])
(.seq (.seq (rg [oL 19 0 2,
 oM 20 1,
 oO 21 (.call 0 (.f 84) [(.t 19),(.t 20)])])
(.block 0 (.rfunc (.t 21) [22,23] (rg [oA 8 23]) (.block 1 (rg [oO 24 (.iaddr 22 (.t 6) (.c (.int .i64 0))),
 oL 25 2 24,
 oM 26 8,
 oO 27 (.bin .add 2 (.t 25) (.t 26)),
 oO 28 (.iaddr 22 (.t 6) (.c (.int .i64 0))),
 oE (.store 2 (.t 28) (.t 27))])))))
(.seq (.seq (rg [oM 29 1,
 oN 30 6 29,
 oO 31 (.move (.c (.int .i64 0)))])
(.block 2 (.loop (.seq (rg [oO 32 (.bin .lss 2 (.t 31) (.t 30))])
(.seq (.cond (.t 32) (.skip) (.exit 2))
(.seq (.block 3 (.seq (rg [oM 33 31,
 oI 34 6 29 31,
 oL 35 2 34,
 oA 9 33,
 oA 10 35])
(.seq (.region true [(10,17),(14,17),(15,17)] [
 oF 36 0 2 2,
 oL 37 14 36,
 oM 38 9,
 oI 39 14 37 38,
 oF 40 15 39 3,
 oL 41 16 40,
 oM 42 10,
 oI 43 16 41 42,
 oL 44 17 43,
 oF 45 0 2 2,
 oL 46 14 45,
 oM 47 9,
 oI 48 14 46 47,
 oF 49 15 48 2,
 oL 50 6 49,
 oN 51 6 50,
 oO 11 (.alloc 17),
 oE (.store 17 (.t 11) (.t 44)),
 oA 12 51])
(.seq (rg [oO 52 (.iaddr 22 (.t 6) (.c (.int .i64 1))),
 oL 53 2 52,
 oF 54 17 11 0,
 oL 55 2 54,
 oO 56 (.maxi [(.t 53),(.t 55)]),
 oO 57 (.iaddr 22 (.t 6) (.c (.int .i64 1))),
 oE (.store 2 (.t 57) (.t 56))])
(.seq (rg [oO 58 (.iaddr 22 (.t 6) (.c (.int .i64 2))),
 oL 59 2 58,
 oF 60 17 11 1,
 oL 61 2 60,
 oM 62 12,
 oO 63 (.bin .mul 2 (.t 61) (.t 62)),
 oO 64 (.bin .add 2 (.t 59) (.t 63)),
 oO 65 (.iaddr 22 (.t 6) (.c (.int .i64 2))),
 oE (.store 2 (.t 65) (.t 64))])
(rg [oO 66 (.iaddr 22 (.t 6) (.c (.int .i64 3))),
 oL 67 2 66,
 oF 68 17 11 2,
 oL 69 2 68,
 oM 70 12,
 oO 71 (.bin .mul 2 (.t 69) (.t 70)),
 oO 72 (.bin .add 2 (.t 67) (.t 71)),
 oO 73 (.iaddr 22 (.t 6) (.c (.int .i64 3))),
 oE (.store 2 (.t 73) (.t 72))]))))))
(rg [oO 74 (.bin .add 2 (.t 31) (.c (.int .i64 1))),
 oM 31 74])))))))
(.seq (rg [oO 75 (.slice 22 (.t 6) none none none),
 oA 4 75,
 oO 5 (.assign (.c (.int .i64 0)))])
(.ret))))))⟩

def f24 : DFn := ⟨62,[.tmp 6,.tmp 7],
 .seq (rg [oO 3 (.box 0 (.t 0)),
 oO 6 (.assign (.c (.bool false))),
 oO 7 (.assign (.c (.int .i64 0)))])
(.seq (rg [oL 15 0 3,
 oM 16 1,
 oO 17 (.call 0 (.f 22) [(.t 15),(.t 16)]),
 oM 14 17,
 oO 18 (.extract (.t 14) 0),
 oO 19 (.extract (.t 14) 1),
 oA 8 18,
 oA 7 19])
(.seq (.seq (rg [oM 20 7,
 oO 21 (.bin .neq 3 (.t 20) (.c (.int .i64 0)))])
(.cond (.t 21) (.seq (rg [oM 22 7,
 oO 6 (.assign (.c (.bool false))),
 oA 7 22])
(.ret)) (.skip)))
(.seq (rg [oL 24 0 3,
 oM 25 2,
 oO 26 (.call 0 (.f 22) [(.t 24),(.t 25)]),
 oM 23 26,
 oO 27 (.extract (.t 23) 0),
 oO 28 (.extract (.t 23) 1),
 oA 9 27,
 oA 7 28])
(.seq (.seq (rg [oM 29 7,
 oO 30 (.bin .neq 3 (.t 29) (.c (.int .i64 0)))])
(.cond (.t 30) (.seq (rg [oM 31 7,
 oO 6 (.assign (.c (.bool false))),
 oA 7 31])
(.ret)) (.skip)))
(.seq (.seq (rg [oM 32 8,
 oM 33 9,
 oO 34 (.build 23 [(0,(.t 32)),(1,(.t 33))]),
 oM 35 1,
 oM 36 2,
 oO 37 (.build 23 [(0,(.t 35)),(1,(.t 36))]),
 oO 38 (.bslice false 24 2 [(0,(.t 34)),(1,(.t 37))]),
 oN 39 24 38,
 oO 40 (.move (.c (.int .i64 0)))])
(.block 0 (.loop (.seq (rg [oO 41 (.bin .lss 2 (.t 40) (.t 39))])
(.seq (.cond (.t 41) (.skip) (.exit 0))
(.seq (.block 1 (.seq (rg [oI 42 24 38 40,
 oL 43 23 42,
 oO 11 (.alloc 23),
 oE (.store 23 (.t 11) (.t 43))])
(.seq (rg [oO 45 (.iaddr 23 (.t 11) (.c (.int .i64 0))),
 oL 46 6 45,
 oO 47 (.iaddr 23 (.t 11) (.c (.int .i64 1))),
 oL 48 6 47,
 oO 49 (.call 0 (.f 30) [(.t 46),(.t 48)]),
 oM 44 49,
 oO 50 (.extract (.t 44) 0),
 oO 51 (.extract (.t 44) 1),
 oA 12 50,
 oA 13 51])
(.seq (rg [oM 52 13,
 oO 53 (.bin .neq 3 (.t 52) (.c (.int .i64 0))),
 oM 54 53,
⟨(some 55),.move (.t 12),(some (54,false))⟩,
⟨(some 56),.bin .neq 2 (.t 55) (.c (.int .i64 0)),(some (54,false))⟩,
 oO 57 (.pick (.t 54) (.c (.bool true)) (.t 56))])
(.cond (.t 57) (.seq (rg [oM 58 12,
 oO 59 (.bin .lss 2 (.t 58) (.c (.int .i64 0))),
 oM 60 13,
 oA 6 59,
 oA 7 60])
(.ret)) (.skip))))))
(rg [oO 61 (.bin .add 2 (.t 40) (.c (.int .i64 1))),
 oM 40 61])))))))
(.seq (rg [oO 6 (.assign (.c (.bool false))),
 oO 7 (.assign (.c (.int .i64 0)))])
(.ret)))))))⟩

def f30 : DFn := ⟨14,[.tmp 4,.tmp 5],
 .seq (rg [oO 4 (.assign (.c (.int .i64 0))),
 oO 5 (.assign (.c (.int .i64 0)))])
(.seq (.seq (rg [oM 6 0,
 oN 7 6 6,
 oM 8 1,
 oN 9 6 8,
 oO 10 (.bin .neq 2 (.t 7) (.t 9))])
(.cond (.t 10) (.seq (rg [oO 4 (.assign (.c (.int .i64 0))),
 oO 5 (.assign (.c (.int .i64 60)))])
(.ret)) (.skip)))
(.seq (rg [oM 11 0,
 oM 12 1,
 oO 13 (.call 0 (.f 87) [(.t 11),(.t 12)]),
 oA 4 13,
 oO 5 (.assign (.c (.int .i64 0)))])
(.ret)))⟩

def f37 : DFn := ⟨30,[.tmp 8,.tmp 9,.tmp 10],
 .seq (rg [oO 4 (.box 0 (.t 0)),
 oO 8 (.assign (.c (.int .i64 0))),
 oO 9 (.assign (.c (.bool false))),
 oO 10 (.assign (.c (.int .i64 0)))])
(.seq (.seq (rg [oL 12 0 4,
 oM 13 1,
 oM 14 3,
 oO 15 (.call 0 (.f 89) [(.t 12),(.t 13),(.t 14)]),
 oA 11 15])
(.seq (rg [oM 16 11,
 oO 17 (.bin .neq 3 (.t 16) (.c (.int .i64 0)))])
(.cond (.t 17) (.seq (rg [oM 18 11,
 oO 8 (.assign (.c (.int .i64 0))),
 oO 9 (.assign (.c (.bool false))),
 oA 10 18])
(.ret)) (.skip))))
(.seq (rg [oL 20 0 4,
 oM 21 1,
 oM 22 2,
 oM 23 3,
 oO 24 (.build 25 [(0,(.t 20)),(1,(.t 21)),(2,(.t 22)),(3,(.t 23))]),
 oO 25 (.call 0 (.f 90) [(.t 24),(.c (.bool true))]),
 oM 19 25,
 oO 26 (.extract (.t 19) 0),
 oO 27 (.extract (.t 19) 1),
 oA 8 26,
 oA 9 27])
(.seq (rg [oM 28 8,
 oM 29 9,
 oA 8 28,
 oA 9 29,
 oO 10 (.assign (.c (.int .i64 0)))])
(.ret))))⟩

def f39 : DFn := ⟨35,[.tmp 8,.tmp 9],
 .seq (rg [oO 4 (.box 0 (.t 0)),
 oO 8 (.assign (.c (.bool false))),
 oO 9 (.assign (.c (.int .i64 0)))])
(.seq (.seq (rg [oL 13 0 4,
 oM 14 1,
 oM 15 3,
 oO 16 (.call 0 (.f 89) [(.t 13),(.t 14),(.t 15)]),
 oA 10 16])
(.seq (rg [oM 17 10,
 oO 18 (.bin .neq 3 (.t 17) (.c (.int .i64 0)))])
(.cond (.t 18) (.seq (rg [oM 19 10,
 oO 8 (.assign (.c (.bool false))),
 oA 9 19])
(.ret)) (.skip))))
(.seq (rg [oL 21 0 4,
 oM 22 1,
 oM 23 2,
 oM 24 3,
 oO 25 (.build 25 [(0,(.t 21)),(1,(.t 22)),(2,(.t 23)),(3,(.t 24))]),
 oO 26 (.call 0 (.f 90) [(.t 25),(.c (.bool false))]),
 oM 20 26,
 oO 27 (.extract (.t 20) 0),
 oO 28 (.extract (.t 20) 1),
 oA 11 27,
 oA 12 28])
(.seq (rg [oM 29 12,
 oO 30 (.un .not (.t 29)),
 oM 31 30,
⟨(some 32),.move (.t 11),(some (31,false))⟩,
⟨(some 33),.bin .gtr 2 (.t 32) (.c (.int .i64 0)),(some (31,false))⟩,
 oO 34 (.pick (.t 31) (.c (.bool true)) (.t 33)),
 oA 8 34,
 oO 9 (.assign (.c (.int .i64 0)))])
(.ret))))⟩

def f41 : DFn := ⟨24,[.tmp 4],
 .seq (rg [oO 2 (.box 0 (.t 0)),
 oO 4 (.assign (.c (.int .i64 0)))])
(.seq (.seq (rg [oL 7 0 2,
 oO 8 (.call 0 (.f 15) [(.t 7)]),
 oA 5 8])
(.seq (rg [oM 9 5,
 oO 10 (.bin .neq 3 (.t 9) (.c (.int .i64 0)))])
(.cond (.t 10) (.seq (rg [oM 11 5,
 oA 4 11])
(.ret)) (.skip))))
(.seq (rg [oO 12 (.mkfn 93 [(.t 2)]),
 oA 6 12])
(.seq (.seq (rg [oM 13 1,
 oN 14 9 13,
 oF 15 0 2 1,
 oL 16 9 15,
 oN 17 9 16,
 oO 18 (.bin .neq 2 (.t 14) (.t 17)),
 oM 19 18,
⟨(some 20),.move (.t 1),(some (19,false))⟩,
⟨(some 21),.move (.t 6),(some (19,false))⟩,
⟨(some 22),.call 1 (.f 94) [(.t 20),(.t 21)],(some (19,false))⟩,
 oO 23 (.pick (.t 19) (.c (.bool true)) (.t 22))])
(.cond (.t 23) (.seq (rg [oO 4 (.assign (.c (.int .i64 290)))])
(.ret)) (.skip)))
(.seq (rg [oO 4 (.assign (.c (.int .i64 0)))])
(.ret)))))⟩

def f61 : DFn := ⟨32,[.tmp 4],
 .seq (rg [oO 2 (.box 0 (.t 0)),
 oO 4 (.assign (.c (.int .i64 0)))])
(.seq (rg [oO 5 (.assign (.c (.int .i64 1)))])
(.seq (.seq (rg [oO 6 (.assign (.c (.int .i64 0)))])
(.block 0 (.loop (.seq (.seq (rg [oM 7 6,
 oF 8 0 2 2,
 oL 9 14 8,
 oN 10 14 9,
 oO 11 (.bin .lss 2 (.t 7) (.t 10)),
 oM 12 11,
⟨(some 13),.move (.t 5),(some (12,true))⟩,
⟨(some 14),.move (.t 1),(some (12,true))⟩,
⟨(some 15),.bin .lss 2 (.t 13) (.t 14),(some (12,true))⟩,
 oO 16 (.pick (.t 12) (.t 15) (.c (.bool false)))])
(.cond (.t 16) (.skip) (.exit 0)))
(.seq (.block 1 (rg [oM 19 5,
 oF 20 0 2 2,
 oL 21 14 20,
 oM 22 6,
 oI 23 14 21 22,
 oF 24 15 23 3,
 oL 25 16 24,
 oN 26 16 25,
 oO 27 (.maxi [(.c (.int .i64 1)),(.t 26)]),
 oO 28 (.bin .mul 2 (.t 19) (.t 27)),
 oA 5 28]))
(rg [oM 17 6,
 oO 18 (.bin .add 2 (.t 17) (.c (.int .i64 1))),
 oA 6 18]))))))
(.seq (rg [oM 29 5,
 oM 30 1,
 oO 31 (.mini [(.t 29),(.t 30)]),
 oA 4 31])
(.ret))))⟩

def f62 : DFn := ⟨39,[.tmp 4],
 .seq (rg [oO 2 (.box 0 (.t 0)),
 oO 4 (.assign (.c (.int .i64 0)))])
(.seq (.seq (rg [oL 7 0 2,
 oO 8 (.call 0 (.f 15) [(.t 7)]),
 oA 4 8])
(.seq (rg [oM 9 4,
 oO 10 (.bin .neq 3 (.t 9) (.c (.int .i64 0)))])
(.cond (.t 10) (.seq (rg [oM 11 4,
 oA 4 11])
(.ret)) (.skip))))
(.seq (.seq (rg [oM 12 1,
 oN 13 1 12,
 oF 14 0 2 2,
 oL 15 14 14,
 oN 16 14 15,
 oO 17 (.bin .gtr 2 (.t 13) (.t 16))])
(.cond (.t 17) (.seq (rg [oO 4 (.assign (.c (.int .i64 280)))])
(.ret)) (.skip)))
(.seq (.seq (rg [oM 18 1,
 oN 19 1 18,
 oO 20 (.move (.c (.int .i64 0)))])
(.block 0 (.loop (.seq (rg [oO 21 (.bin .lss 2 (.t 20) (.t 19))])
(.seq (.cond (.t 21) (.skip) (.exit 0))
(.seq (.block 1 (.seq (rg [oM 22 20,
 oI 23 1 18 20,
 oL 24 2 23,
 oA 5 22,
 oA 6 24])
(.seq (rg [oM 25 6,
 oO 26 (.bin .lss 2 (.t 25) (.c (.int .i64 0))),
 oM 27 26,
⟨(some 28),.move (.t 6),(some (27,false))⟩,
⟨(some 29),.faddr 0 (.t 2) 2,(some (27,false))⟩,
⟨(some 30),.load 14 (.t 29),(some (27,false))⟩,
⟨(some 31),.move (.t 5),(some (27,false))⟩,
⟨(some 32),.iaddr 14 (.t 30) (.t 31),(some (27,false))⟩,
⟨(some 33),.faddr 15 (.t 32) 3,(some (27,false))⟩,
⟨(some 34),.load 16 (.t 33),(some (27,false))⟩,
⟨(some 35),.len 16 (.t 34),(some (27,false))⟩,
⟨(some 36),.bin .geq 2 (.t 28) (.t 35),(some (27,false))⟩,
 oO 37 (.pick (.t 27) (.c (.bool true)) (.t 36))])
(.cond (.t 37) (.seq (rg [oO 4 (.assign (.c (.int .i64 280)))])
(.ret)) (.skip)))))
(rg [oO 38 (.bin .add 2 (.t 20) (.c (.int .i64 1))),
 oM 20 38])))))))
(.seq (rg [oO 4 (.assign (.c (.int .i64 0)))])
(.ret)))))⟩

def f63 : DFn := ⟨6,[.tmp 4],
 .seq (rg [oO 2 (.box 0 (.t 0)),
 oO 3 (.box 1 (.t 1)),
 oO 4 (.assign (.c .nilfn))])
(.seq (rg [oO 5 (.mkfn 102 [(.t 2),(.t 3)]),
 oA 4 5])
(.ret))⟩

def f66 : DFn := ⟨38,[.tmp 4],
 .seq (rg [oO 2 (.box 0 (.t 0)),
 oO 4 (.assign (.c (.int .i64 0)))])
(.seq (.seq (rg [oL 8 0 2,
 oO 9 (.call 0 (.f 15) [(.t 8)]),
 oA 5 9])
(.seq (rg [oM 10 5,
 oO 11 (.bin .neq 3 (.t 10) (.c (.int .i64 0)))])
(.cond (.t 11) (.seq (rg [oM 12 5,
 oA 4 12])
(.ret)) (.skip))))
(.seq (.seq (rg [oM 13 1,
 oN 14 6 13,
 oF 15 0 2 2,
 oL 16 14 15,
 oN 17 14 16,
 oO 18 (.bin .gtr 2 (.t 14) (.t 17))])
(.cond (.t 18) (.seq (rg [oO 4 (.assign (.c (.int .i64 270)))])
(.ret)) (.skip)))
(.seq (.seq (rg [oM 19 1,
 oN 20 6 19,
 oO 21 (.move (.c (.int .i64 0)))])
(.block 0 (.loop (.seq (rg [oO 22 (.bin .lss 2 (.t 21) (.t 20))])
(.seq (.cond (.t 22) (.skip) (.exit 0))
(.seq (.block 1 (.seq (rg [oM 23 21,
 oI 24 6 19 21,
 oL 25 2 24,
 oA 6 23,
 oA 7 25])
(.seq (rg [oM 26 7,
 oF 27 0 2 2,
 oL 28 14 27,
 oM 29 6,
 oI 30 14 28 29,
 oF 31 15 30 3,
 oL 32 16 31,
 oN 33 16 32,
 oO 34 (.bin .sub 2 (.t 33) (.c (.int .i64 1))),
 oO 35 (.call 0 (.f 67) [(.t 26),(.c (.int .i64 0)),(.t 34)]),
 oO 36 (.un .not (.t 35))])
(.cond (.t 36) (.seq (rg [oO 4 (.assign (.c (.int .i64 270)))])
(.ret)) (.skip)))))
(rg [oO 37 (.bin .add 2 (.t 21) (.c (.int .i64 1))),
 oM 21 37])))))))
(.seq (rg [oO 4 (.assign (.c (.int .i64 0)))])
(.ret)))))⟩

def f67 : DFn := ⟨15,[.tmp 6],
 .seq (rg [oO 6 (.assign (.c (.bool false)))])
(.seq (rg [oM 7 1,
 oM 8 0,
 oO 9 (.bin .leq 2 (.t 7) (.t 8)),
 oM 10 9,
⟨(some 11),.move (.t 0),(some (10,true))⟩,
⟨(some 12),.move (.t 2),(some (10,true))⟩,
⟨(some 13),.bin .leq 2 (.t 11) (.t 12),(some (10,true))⟩,
 oO 14 (.pick (.t 10) (.t 13) (.c (.bool false))),
 oA 6 14])
(.ret))⟩

def f68 : DFn := ⟨62,[.tmp 4],
 .seq (rg [oO 2 (.box 0 (.t 0)),
 oO 4 (.assign (.c (.imm .exact [])))])
(.seq (rg [oO 12 (.mkmap 26),
 oO 5 (.alloc 26),
 oE (.store 26 (.t 5) (.t 12))])
(.seq (.seq (rg [oF 13 0 2 0,
 oL 14 10 13,
 oN 15 10 14,
 oO 16 (.move (.c (.int .i64 0)))])
(.block 0 (.loop (.seq (rg [oO 17 (.bin .lss 2 (.t 16) (.t 15))])
(.seq (.cond (.t 17) (.skip) (.exit 0))
(.seq (.block 1 (.seq (rg [oM 18 16,
 oI 19 10 14 16,
 oL 20 20 19,
 oO 7 (.alloc 20),
 oA 6 18,
 oE (.store 20 (.t 7) (.t 20))])
(rg [oL 21 26 5,
 oL 22 20 7,
 oM 23 6,
 oE (.mapset 26 (.t 21) (.t 22) (.t 23))])))
(rg [oO 24 (.bin .add 2 (.t 16) (.c (.int .i64 1))),
 oM 16 24])))))))
(.seq (rg [oF 25 0 2 1,
 oL 26 9 25,
 oN 27 9 26,
 oO 28 (.mkslice true 9 (.t 27) (.t 27)),
 oO 8 (.alloc 9),
 oE (.store 9 (.t 8) (.t 28))])
(.seq (.seq (rg [oL 29 9 8,
 oN 30 9 29,
 oO 31 (.move (.c (.int .i64 0)))])
(.block 2 (.loop (.seq (rg [oO 32 (.bin .lss 2 (.t 31) (.t 30))])
(.seq (.cond (.t 32) (.skip) (.exit 2))
(.seq (.block 3 (.seq (rg [oM 33 31,
 oA 9 33])
(.region true [] [
 oL 34 9 8,
 oM 35 9,
 oF 36 0 2 0,
 oL 37 10 36,
 oN 38 10 37,
 oO 39 (.mkslice true 6 (.t 38) (.t 38)),
 oI 40 9 34 35,
 oE (.store 6 (.t 40) (.t 39))])))
(rg [oO 41 (.bin .add 2 (.t 31) (.c (.int .i64 1))),
 oM 31 41])))))))
(.seq (.seq (rg [oL 42 0 2,
 oM 43 1,
 oO 44 (.call 0 (.f 104) [(.t 42),(.t 43)])])
(.block 4 (.rfunc (.t 44) [45,46] (.seq (rg [oA 10 45])
(rg [oO 11 (.alloc 19),
 oE (.store 19 (.t 11) (.t 46))])) (.block 5 (.region true [] [
 oL 47 9 8,
 oM 48 10,
 oI 49 9 47 48,
 oL 50 6 49,
 oL 51 26 5,
 oF 52 19 11 0,
 oL 53 20 52,
 oO 54 (.lookup 26 (.t 51) (.t 53) false),
 oI 55 6 50 54,
 oL 56 2 55,
 oF 57 19 11 1,
 oL 58 2 57,
 oO 59 (.bin .add 2 (.t 56) (.t 58)),
 oI 60 6 50 54,
 oE (.store 2 (.t 60) (.t 59))])))))
(.seq (rg [oL 61 9 8,
 oA 4 61])
(.ret)))))))⟩

def f69 : DFn := ⟨24,[.tmp 4],
 .seq (rg [oO 4 (.assign (.c (.bool false)))])
(.seq (.seq (rg [oO 5 (.assign (.c (.int .i64 1)))])
(.block 0 (.loop (.seq (.seq (rg [oM 6 5,
 oM 7 0,
 oN 8 10 7,
 oO 9 (.bin .lss 2 (.t 6) (.t 8))])
(.cond (.t 9) (.skip) (.exit 0)))
(.seq (.block 1 (.seq (.region true [] [
 oM 12 1,
 oM 13 0,
 oM 14 5,
 oO 15 (.bin .sub 2 (.t 14) (.c (.int .i64 1))),
 oI 16 10 13 15,
 oL 17 20 16,
 oM 18 0,
 oM 19 5,
 oI 20 10 18 19,
 oL 21 20 20,
 oO 22 (.call 0 (.t 12) [(.t 17),(.t 21)]),
 oO 23 (.bin .geq 2 (.t 22) (.c (.int .i64 0)))])
(.cond (.t 23) (.seq (rg [oO 4 (.assign (.c (.bool false)))])
(.ret)) (.skip))))
(rg [oM 10 5,
 oO 11 (.bin .add 2 (.t 10) (.c (.int .i64 1))),
 oA 5 11]))))))
(.seq (rg [oO 4 (.assign (.c (.bool true)))])
(.ret)))⟩

def f70 : DFn := ⟨24,[.tmp 4],
 .seq (rg [oO 2 (.box 20 (.t 0)),
 oO 3 (.box 20 (.t 1)),
 oO 4 (.assign (.c (.int .i64 0)))])
(.seq (.seq (rg [oF 5 20 2 0,
 oL 6 7 5,
 oF 7 20 3 0,
 oL 8 7 7,
 oO 9 (.bin .neq 7 (.t 6) (.t 8))])
(.cond (.t 9) (.seq (.seq (rg [oF 10 20 3 0,
 oL 11 7 10])
(.cond (.t 11) (.seq (rg [oO 4 (.assign (.c (.int .i64 (-1))))])
(.ret)) (.skip)))
(.seq (rg [oO 4 (.assign (.c (.int .i64 1)))])
(.ret))) (.skip)))
(.seq (.region true [] [
 oF 12 20 2 1,
 oL 13 2 12,
 oF 14 20 3 1,
 oL 15 2 14,
 oO 16 (.call 0 (.f 74) [(.t 13),(.t 15)]),
 oF 17 20 2 2,
 oL 18 2 17,
 oF 19 20 3 2,
 oL 20 2 19,
 oO 21 (.call 0 (.f 74) [(.t 18),(.t 20)]),
 oO 22 (.bslice false 6 2 [(0,(.t 16)),(1,(.t 21))]),
 oO 23 (.call 0 (.f 105) [(.t 22)]),
 oA 4 23])
(.ret)))⟩

def f71 : DFn := ⟨9,[.tmp 4],
 .seq (rg [oO 4 (.assign (.c (.bool false)))])
(.seq (rg [oM 5 0,
 oM 6 1,
 oO 7 (.call 0 (.f 106) [(.t 5),(.t 6)]),
 oO 8 (.bin .geq 2 (.t 7) (.c (.int .i64 0))),
 oA 4 8])
(.ret))⟩

def f72 : DFn := ⟨6,[.tmp 2],
 .seq (rg [oO 2 (.assign (.c (.bool false)))])
(.seq (rg [oM 3 0,
 oO 4 (.call 0 (.f 67) [(.t 3),(.c (.int .i64 0)),(.c (.int .i64 4096))]),
 oO 5 (.un .not (.t 4)),
 oA 2 5])
(.ret))⟩

def f73 : DFn := ⟨24,[.tmp 4],
 .seq (rg [oO 4 (.assign (.c (.bool false)))])
(.seq (.seq (rg [oO 5 (.assign (.c (.int .i64 1)))])
(.block 0 (.loop (.seq (.seq (rg [oM 6 5,
 oM 7 0,
 oN 8 6 7,
 oO 9 (.bin .lss 2 (.t 6) (.t 8))])
(.cond (.t 9) (.skip) (.exit 0)))
(.seq (.block 1 (.seq (.region true [] [
 oM 12 1,
 oM 13 0,
 oM 14 5,
 oO 15 (.bin .sub 2 (.t 14) (.c (.int .i64 1))),
 oI 16 6 13 15,
 oL 17 2 16,
 oM 18 0,
 oM 19 5,
 oI 20 6 18 19,
 oL 21 2 20,
 oO 22 (.call 0 (.t 12) [(.t 17),(.t 21)]),
 oO 23 (.bin .geq 2 (.t 22) (.c (.int .i64 0)))])
(.cond (.t 23) (.seq (rg [oO 4 (.assign (.c (.bool false)))])
(.ret)) (.skip))))
(rg [oM 10 5,
 oO 11 (.bin .add 2 (.t 10) (.c (.int .i64 1))),
 oA 5 11]))))))
(.seq (rg [oO 4 (.assign (.c (.bool true)))])
(.ret)))⟩

def f74 : DFn := ⟨20,[.tmp 4],
 .seq (rg [oO 4 (.assign (.c (.int .i64 0)))])
(.seq (rg [oM 7 0,
 oO 8 (.call 0 (.f 107) [(.t 7)]),
 oA 5 8])
(.seq (rg [oM 9 1,
 oO 10 (.call 0 (.f 107) [(.t 9)]),
 oA 6 10])
(.seq (.seq (rg [oM 11 5])
(.cond (.t 11) (.seq (.seq (rg [oM 12 6])
(.cond (.t 12) (.seq (rg [oO 4 (.assign (.c (.int .i64 0)))])
(.ret)) (.skip)))
(.seq (rg [oO 4 (.assign (.c (.int .i64 (-1))))])
(.ret))) (.skip)))
(.seq (.seq (rg [oM 13 6])
(.cond (.t 13) (.seq (rg [oO 4 (.assign (.c (.int .i64 1)))])
(.ret)) (.skip)))
(.seq (.seq (rg [oM 14 0,
 oM 15 1,
 oO 16 (.bin .lss 2 (.t 14) (.t 15))])
(.cond (.t 16) (.seq (rg [oO 4 (.assign (.c (.int .i64 (-1))))])
(.ret)) (.skip)))
(.seq (.seq (rg [oM 17 0,
 oM 18 1,
 oO 19 (.bin .gtr 2 (.t 17) (.t 18))])
(.cond (.t 19) (.seq (rg [oO 4 (.assign (.c (.int .i64 1)))])
(.ret)) (.skip)))
(.seq (rg [oO 4 (.assign (.c (.int .i64 0)))])
(.ret))))))))⟩

def f75 : DFn := ⟨24,[.tmp 4],
 .seq (rg [oO 4 (.assign (.c (.bool false)))])
(.seq (.seq (rg [oO 5 (.assign (.c (.int .i64 1)))])
(.block 0 (.loop (.seq (.seq (rg [oM 6 5,
 oM 7 0,
 oN 8 18 7,
 oO 9 (.bin .lss 2 (.t 6) (.t 8))])
(.cond (.t 9) (.skip) (.exit 0)))
(.seq (.block 1 (.seq (.region true [] [
 oM 12 1,
 oM 13 0,
 oM 14 5,
 oO 15 (.bin .sub 2 (.t 14) (.c (.int .i64 1))),
 oI 16 18 13 15,
 oL 17 19 16,
 oM 18 0,
 oM 19 5,
 oI 20 18 18 19,
 oL 21 19 20,
 oO 22 (.call 0 (.t 12) [(.t 17),(.t 21)]),
 oO 23 (.bin .geq 2 (.t 22) (.c (.int .i64 0)))])
(.cond (.t 23) (.seq (rg [oO 4 (.assign (.c (.bool false)))])
(.ret)) (.skip))))
(rg [oM 10 5,
 oO 11 (.bin .add 2 (.t 10) (.c (.int .i64 1))),
 oA 5 11]))))))
(.seq (rg [oO 4 (.assign (.c (.bool true)))])
(.ret)))⟩

def f76 : DFn := ⟨10,[.tmp 4],
 .seq (rg [oO 2 (.box 19 (.t 0)),
 oO 3 (.box 19 (.t 1)),
 oO 4 (.assign (.c (.int .i64 0)))])
(.seq (rg [oF 5 19 2 0,
 oL 6 20 5,
 oF 7 19 3 0,
 oL 8 20 7,
 oO 9 (.call 0 (.f 70) [(.t 6),(.t 8)]),
 oA 4 9])
(.ret))⟩

def f83 : DFn := ⟨18,[.tmp 4],
 .seq (rg [oO 2 (.box 0 (.t 0)),
 oO 4 (.assign (.c (.int .i64 0)))])
(.seq (.seq (rg [oL 6 0 2,
 oM 7 1,
 oO 8 (.call 0 (.f 66) [(.t 6),(.t 7)]),
 oA 5 8])
(.seq (rg [oM 9 5,
 oO 10 (.bin .neq 3 (.t 9) (.c (.int .i64 0)))])
(.cond (.t 10) (.seq (rg [oM 11 5,
 oA 4 11])
(.ret)) (.skip))))
(.seq (.seq (rg [oM 12 1,
 oN 13 6 12,
 oF 14 0 2 2,
 oL 15 14 14,
 oN 16 14 15,
 oO 17 (.bin .neq 2 (.t 13) (.t 16))])
(.cond (.t 17) (.seq (rg [oO 4 (.assign (.c (.int .i64 270)))])
(.ret)) (.skip)))
(.seq (rg [oO 4 (.assign (.c (.int .i64 0)))])
(.ret))))⟩

def f84 : DFn := ⟨6,[.tmp 4],
 .seq (rg [oO 2 (.box 0 (.t 0)),
 oO 3 (.box 6 (.t 1)),
 oO 4 (.assign (.c .nilfn))])
(.seq (rg [oO 5 (.mkfn 110 [(.t 2),(.t 3)]),
 oA 4 5])
(.ret))⟩

def f87 : DFn := ⟨36,[.tmp 4],
 .seq (rg [oO 4 (.assign (.c (.int .i64 0)))])
(.seq (.seq (rg [oM 9 0,
 oN 10 6 9,
 oO 11 (.move (.c (.int .i64 0)))])
(.block 0 (.loop (.seq (rg [oO 12 (.bin .lss 2 (.t 11) (.t 10))])
(.seq (.cond (.t 12) (.skip) (.exit 0))
(.seq (.block 1 (.seq (rg [oM 13 11,
 oI 14 6 9 11,
 oL 15 2 14,
 oA 5 13,
 oA 6 15])
(.seq (.seq (rg [oM 16 5,
 oM 17 1,
 oN 18 6 17,
 oO 19 (.bin .geq 2 (.t 16) (.t 18))])
(.cond (.t 19) (.seq (rg [oO 4 (.assign (.c (.int .i64 1)))])
(.ret)) (.skip)))
(.seq (rg [oM 20 1,
 oM 21 5,
 oI 22 6 20 21,
 oL 23 2 22,
 oA 7 23])
(.seq (rg [oM 24 6,
 oM 25 7,
 oO 26 (.call 0 (.f 74) [(.t 24),(.t 25)]),
 oA 8 26])
(.seq (rg [oM 27 8,
 oO 28 (.bin .neq 2 (.t 27) (.c (.int .i64 0)))])
(.cond (.t 28) (.seq (rg [oM 29 8,
 oA 4 29])
(.ret)) (.skip))))))))
(rg [oO 30 (.bin .add 2 (.t 11) (.c (.int .i64 1))),
 oM 11 30])))))))
(.seq (.seq (rg [oM 31 0,
 oN 32 6 31,
 oM 33 1,
 oN 34 6 33,
 oO 35 (.bin .lss 2 (.t 32) (.t 34))])
(.cond (.t 35) (.seq (rg [oO 4 (.assign (.c (.int .i64 (-1))))])
(.ret)) (.skip)))
(.seq (rg [oO 4 (.assign (.c (.int .i64 0)))])
(.ret))))⟩

def f89 : DFn := ⟨43,[.tmp 6],
 .seq (rg [oO 3 (.box 0 (.t 0)),
 oO 6 (.assign (.c (.int .i64 0)))])
(.seq (.seq (rg [oL 10 0 3,
 oM 11 2,
 oO 12 (.call 0 (.f 41) [(.t 10),(.t 11)]),
 oA 7 12])
(.seq (rg [oM 13 7,
 oO 14 (.bin .neq 3 (.t 13) (.c (.int .i64 0)))])
(.cond (.t 14) (.seq (rg [oM 15 7,
 oA 6 15])
(.ret)) (.skip))))
(.seq (.seq (rg [oM 16 1,
 oN 17 1 16,
 oF 18 0 3 2,
 oL 19 14 18,
 oN 20 14 19,
 oO 21 (.bin .gtr 2 (.t 17) (.t 20))])
(.cond (.t 21) (.seq (rg [oO 6 (.assign (.c (.int .i64 290)))])
(.ret)) (.skip)))
(.seq (.seq (rg [oM 22 1,
 oN 23 1 22,
 oO 24 (.move (.c (.int .i64 0)))])
(.block 0 (.loop (.seq (rg [oO 25 (.bin .lss 2 (.t 24) (.t 23))])
(.seq (.cond (.t 25) (.skip) (.exit 0))
(.seq (.block 1 (.seq (rg [oM 26 24,
 oI 27 1 22 24,
 oL 28 2 27,
 oA 8 26,
 oA 9 28])
(.seq (rg [oM 29 9,
 oO 30 (.bin .lss 2 (.t 29) (.c (.int .i64 0))),
 oM 31 30,
⟨(some 32),.move (.t 9),(some (31,false))⟩,
⟨(some 33),.faddr 0 (.t 3) 2,(some (31,false))⟩,
⟨(some 34),.load 14 (.t 33),(some (31,false))⟩,
⟨(some 35),.move (.t 8),(some (31,false))⟩,
⟨(some 36),.iaddr 14 (.t 34) (.t 35),(some (31,false))⟩,
⟨(some 37),.faddr 15 (.t 36) 3,(some (31,false))⟩,
⟨(some 38),.load 16 (.t 37),(some (31,false))⟩,
⟨(some 39),.len 16 (.t 38),(some (31,false))⟩,
⟨(some 40),.bin .geq 2 (.t 32) (.t 39),(some (31,false))⟩,
 oO 41 (.pick (.t 31) (.c (.bool true)) (.t 40))])
(.cond (.t 41) (.seq (rg [oO 6 (.assign (.c (.int .i64 290)))])
(.ret)) (.skip)))))
(rg [oO 42 (.bin .add 2 (.t 24) (.c (.int .i64 1))),
 oM 24 42])))))))
(.seq (rg [oO 6 (.assign (.c (.int .i64 0)))])
(.ret)))))⟩

def f90 : DFn := ⟨66,[.tmp 4,.tmp 5],
 .seq (rg [oO 2 (.box 25 (.t 0)),
 oO 4 (.assign (.c (.int .i64 0))),
 oO 5 (.assign (.c (.bool false)))])
(.seq (.seq (rg [oF 14 25 2 3,
 oL 15 9 14,
 oN 16 9 15,
 oO 17 (.move (.c (.int .i64 0)))])
(.block 0 (.loop (.seq (rg [oO 18 (.bin .lss 2 (.t 17) (.t 16))])
(.seq (.cond (.t 18) (.skip) (.exit 0))
(.seq (.block 1 (.seq (rg [oM 19 17,
 oI 20 9 15 17,
 oL 21 6 20,
 oA 6 19,
 oA 7 21])
(.seq (rg [oM 22 7,
 oN 23 6 22,
 oO 24 (.move (.c (.int .i64 0)))])
(.block 2 (.loop (.seq (rg [oO 25 (.bin .lss 2 (.t 24) (.t 23))])
(.seq (.cond (.t 25) (.skip) (.exit 2))
(.seq (.block 3 (.seq (rg [oM 26 24,
 oI 27 6 22 24,
 oL 28 2 27,
 oA 8 26,
 oA 9 28])
(rg [oM 29 4,
 oM 30 9,
 oF 31 25 2 0,
 oF 32 0 31 1,
 oL 33 9 32,
 oM 34 6,
 oI 35 9 33 34,
 oL 36 6 35,
 oM 37 8,
 oI 38 6 36 37,
 oL 39 2 38,
 oO 40 (.bin .mul 2 (.t 30) (.t 39)),
 oO 41 (.bin .sub 2 (.t 29) (.t 40)),
 oA 4 41])))
(rg [oO 42 (.bin .add 2 (.t 24) (.c (.int .i64 1))),
 oM 24 42])))))))))
(rg [oO 43 (.bin .add 2 (.t 17) (.c (.int .i64 1))),
 oM 17 43])))))))
(.seq (.seq (rg [oF 44 25 2 0,
 oF 45 0 44 2,
 oL 46 14 45,
 oN 47 14 46,
 oO 48 (.move (.c (.int .i64 0)))])
(.block 4 (.loop (.seq (rg [oO 49 (.bin .lss 2 (.t 48) (.t 47))])
(.seq (.cond (.t 49) (.skip) (.exit 4))
(.seq (.block 5 (.seq (rg [oM 50 48,
 oA 10 50])
(.seq (rg [oL 52 25 2,
 oM 53 10,
 oM 54 1,
 oO 55 (.call 0 (.f 97) [(.t 52),(.t 53),(.t 54)]),
 oM 51 55,
 oO 56 (.extract (.t 51) 0),
 oO 57 (.extract (.t 51) 1),
 oO 58 (.extract (.t 51) 2),
 oO 11 (.alloc 17),
 oE (.store 17 (.t 11) (.t 56)),
 oA 12 57,
 oA 13 58])
(.seq (.seq (rg [oM 59 13,
 oO 60 (.un .not (.t 59))])
(.cond (.t 60) (.seq (rg [oO 4 (.assign (.c (.int .i64 0))),
 oO 5 (.assign (.c (.bool false)))])
(.ret)) (.skip)))
(rg [oM 61 4,
 oM 62 12,
 oO 63 (.bin .add 2 (.t 61) (.t 62)),
 oA 4 63])))))
(rg [oO 64 (.bin .add 2 (.t 48) (.c (.int .i64 1))),
 oM 48 64])))))))
(.seq (rg [oM 65 4,
 oA 4 65,
 oO 5 (.assign (.c (.bool true)))])
(.ret))))⟩

def f93 : DFn := ⟨14,[.tmp 3],
 .seq (rg [oO 3 (.assign (.c (.bool false)))])
(.seq (rg [oM 4 0,
 oN 5 6 4,
 oF 6 0 1 0,
 oL 7 10 6,
 oN 8 10 7,
 oO 9 (.bin .neq 2 (.t 5) (.t 8)),
 oM 10 9,
⟨(some 11),.move (.t 0),(some (10,false))⟩,
⟨(some 12),.call 0 (.f 71) [(.t 11),(.f 112)],(some (10,false))⟩,
 oO 13 (.pick (.t 10) (.c (.bool true)) (.t 12)),
 oA 3 13])
(.ret))⟩

def f94 : DFn := ⟨9,[.tmp 4],
 .seq (rg [oO 4 (.assign (.c (.bool false)))])
(.seq (rg [oM 5 0,
 oM 6 1,
 oO 7 (.call 0 (.f 113) [(.t 5),(.t 6)]),
 oO 8 (.bin .geq 2 (.t 7) (.c (.int .i64 0))),
 oA 4 8])
(.ret))⟩

def f96 : DFn := ⟨8,[.tmp 2],
 .seq (rg [ oO 2 (.assign (.c (.imm .exact [])))]) (.seq (rg [oO 5 (.bslice false 6 0 []),
 oM 6 0,
 oO 7 (.append 1 6 6 (.t 5) (.t 6)),
 oA 2 7]) .ret)⟩

def f97 : DFn := ⟨24,[.cell 6 17,.tmp 7,.tmp 8],
 .seq (rg [oO 3 (.box 25 (.t 0)),
 oO 5 (.box 7 (.t 2)),
 oO 6 (.alloc 17),
 oO 7 (.assign (.c (.int .i64 0))),
 oO 8 (.assign (.c (.bool false)))])
(.seq (rg [oF 10 25 3 0,
 oF 11 0 10 2,
 oL 12 14 11,
 oM 13 1,
 oI 14 14 12 13,
 oL 15 15 14,
 oO 9 (.alloc 15),
 oE (.store 15 (.t 9) (.t 15))])
(.seq (rg [oL 16 25 3,
 oM 17 1,
 oO 18 (.call 0 (.f 114) [(.t 16),(.t 17)]),
 oO 19 (.mkfn 115 [(.t 5),(.t 9),(.t 3)]),
 oO 20 (.call 1 (.f 116) [(.t 18),(.t 19)]),
 oO 21 (.extract (.t 20) 0),
 oO 22 (.extract (.t 20) 1),
 oO 23 (.extract (.t 20) 2),
 oE (.store 17 (.t 6) (.t 21)),
 oA 7 22,
 oA 8 23])
(.ret)))⟩

def f98 : DFn := ⟨16,[.tmp 4],
 .seq (rg [oO 2 (.box 25 (.t 0)),
 oO 3 (.box 20 (.t 1)),
 oO 4 (.assign (.c (.int .i64 0)))])
(.seq (rg [oF 8 25 2 0,
 oF 9 0 8 0,
 oL 10 10 9,
 oL 11 20 3,
 oO 12 (.call 0 (.f 117) [(.t 10),(.t 11),(.f 118)]),
 oM 7 12,
 oO 13 (.extract (.t 7) 0),
 oO 14 (.extract (.t 7) 1),
 oA 5 13,
 oA 6 14])
(.seq (rg [oM 15 5,
 oA 4 15])
(.ret)))⟩

def f102 : DFn := ⟨43,[],
 .seq (rg [oF 7 0 1 2,
 oL 8 14 7,
 oN 9 14 8,
 oO 10 (.move (.c (.int .i64 0)))])
(.block 0 (.loop (.seq (rg [oO 11 (.bin .lss 2 (.t 10) (.t 9))])
(.seq (.cond (.t 11) (.skip) (.exit 0))
(.seq (.block 1 (.seq (rg [oM 12 10,
 oI 13 14 8 10,
 oL 14 15 13,
 oO 5 (.alloc 15),
 oA 4 12,
 oE (.store 15 (.t 5) (.t 14))])
(.seq (.region true [] [
 oF 15 15 5 3,
 oL 16 16 15,
 oO 17 (.iaddr 16 (.t 16) (.c (.int .i64 0))),
 oL 18 17 17,
 oF 19 15 5 3,
 oL 20 16 19,
 oO 21 (.slice 16 (.t 20) (some (.c (.int .i64 1))) none none),
 oO 22 (.call 0 (.f 122) [(.t 18),(.t 21)]),
 oO 6 (.alloc 17),
 oE (.store 17 (.t 6) (.t 22))])
(.seq (.seq (rg [oM 23 4,
 oL 24 1 2,
 oN 25 1 24,
 oO 26 (.bin .lss 2 (.t 23) (.t 25))])
(.cond (.t 26) (.region true [] [
 oF 27 15 5 3,
 oL 28 16 27,
 oL 29 1 2,
 oM 30 4,
 oI 31 1 29 30,
 oL 32 2 31,
 oI 33 16 28 32,
 oL 34 17 33,
 oE (.store 17 (.t 6) (.t 34))]) (.skip)))
(.seq (rg [oM 35 0,
 oF 36 15 5 2,
 oL 37 6 36,
 oN 38 6 37,
 oL 39 17 6,
 oO 40 (.call 2 (.t 35) [(.t 38),(.t 39)]),
 oO 41 (.un .not (.t 40))])
(.cond (.t 41) (.ret) (.skip)))))))
(rg [oO 42 (.bin .add 2 (.t 10) (.c (.int .i64 1))),
 oM 10 42]))))))⟩

def f104 : DFn := ⟨6,[.tmp 4],
 .seq (rg [oO 2 (.box 0 (.t 0)),
 oO 3 (.box 6 (.t 1)),
 oO 4 (.assign (.c .nilfn))])
(.seq (rg [oO 5 (.mkfn 123 [(.t 3),(.t 2)]),
 oA 4 5])
(.ret))⟩

def f105 : DFn := ⟨18,[.tmp 2],
 .seq (rg [oO 2 (.assign (.c (.int .i64 0)))])
(.seq (rg [oO 3 (.assign (.c (.int .i64 0)))])
(.seq (.seq (rg [oM 6 0,
 oN 7 6 6,
 oO 8 (.move (.c (.int .i64 0)))])
(.block 0 (.loop (.seq (rg [oO 9 (.bin .lss 2 (.t 8) (.t 7))])
(.seq (.cond (.t 9) (.skip) (.exit 0))
(.seq (.block 1 (.seq (rg [oI 10 6 6 8,
 oL 11 2 10,
 oA 5 11])
(.seq (rg [oM 12 5,
 oM 13 3,
 oO 14 (.bin .neq 2 (.t 12) (.t 13))])
(.cond (.t 14) (.seq (rg [oM 15 5,
 oA 2 15])
(.ret)) (.skip)))))
(rg [oO 16 (.bin .add 2 (.t 8) (.c (.int .i64 1))),
 oM 8 16])))))))
(.seq (rg [oM 17 3,
 oA 2 17])
(.ret))))⟩

def f106 : DFn := ⟨19,[.tmp 4],
 .seq (rg [oO 4 (.assign (.c (.int .i64 0)))])
(.seq (.seq (rg [oM 6 0,
 oN 7 6 6,
 oO 8 (.move (.c (.int .i64 0)))])
(.block 0 (.loop (.seq (rg [oO 9 (.bin .lss 2 (.t 8) (.t 7))])
(.seq (.cond (.t 9) (.skip) (.exit 0))
(.seq (.block 1 (.seq (rg [oM 10 8,
 oA 5 10])
(.seq (rg [oM 11 1,
 oM 12 0,
 oM 13 5,
 oI 14 6 12 13,
 oL 15 2 14,
 oO 16 (.call 0 (.t 11) [(.t 15)])])
(.cond (.t 16) (.seq (rg [oM 17 5,
 oA 4 17])
(.ret)) (.skip)))))
(rg [oO 18 (.bin .add 2 (.t 8) (.c (.int .i64 1))),
 oM 8 18])))))))
(.seq (rg [oO 4 (.assign (.c (.int .i64 (-1))))])
(.ret)))⟩

def f107 : DFn := ⟨6,[.tmp 2],
 .seq (rg [oO 2 (.assign (.c (.bool false)))])
(.seq (rg [oM 3 0,
 oM 4 0,
 oO 5 (.bin .neq 2 (.t 3) (.t 4)),
 oA 2 5])
(.ret))⟩

def f110 : DFn := ⟨48,[],
 .seq (rg [oL 9 0 1,
 oL 10 6 2,
 oO 11 (.call 0 (.f 68) [(.t 9),(.t 10)]),
 oN 12 9 11,
 oO 13 (.move (.c (.int .i64 0)))])
(.block 0 (.loop (.seq (rg [oO 14 (.bin .lss 2 (.t 13) (.t 12))])
(.seq (.cond (.t 14) (.skip) (.exit 0))
(.seq (.block 1 (.seq (rg [oM 15 13,
 oI 16 9 11 13,
 oL 17 6 16,
 oA 4 15,
 oA 5 17])
(.seq (rg [oM 18 5,
 oN 19 6 18,
 oO 20 (.move (.c (.int .i64 0)))])
(.block 2 (.loop (.seq (rg [oO 21 (.bin .lss 2 (.t 20) (.t 19))])
(.seq (.cond (.t 21) (.skip) (.exit 2))
(.seq (.block 3 (.seq (rg [oM 22 20,
 oI 23 6 18 20,
 oL 24 2 23,
 oA 6 22,
 oA 7 24])
(.seq (rg [oM 25 7,
 oF 26 0 1 1,
 oL 27 9 26,
 oM 28 4,
 oI 29 9 27 28,
 oL 30 6 29,
 oM 31 6,
 oI 32 6 30 31,
 oL 33 2 32,
 oO 34 (.bin .sub 2 (.t 25) (.t 33)),
 oA 8 34])
(.seq (rg [oM 35 8,
 oO 36 (.bin .gtr 2 (.t 35) (.c (.int .i64 0))),
 oM 37 36,
⟨(some 38),.move (.t 0),(some (37,true))⟩,
⟨(some 39),.move (.t 4),(some (37,true))⟩,
⟨(some 40),.move (.t 6),(some (37,true))⟩,
⟨(some 41),.build 11 [(0,(.t 39)),(1,(.t 40))],(some (37,true))⟩,
⟨(some 42),.move (.t 8),(some (37,true))⟩,
⟨(some 43),.call 2 (.t 38) [(.t 41),(.t 42)],(some (37,true))⟩,
⟨(some 44),.un .not (.t 43),(some (37,true))⟩,
 oO 45 (.pick (.t 37) (.t 44) (.c (.bool false)))])
(.cond (.t 45) (.ret) (.skip))))))
(rg [oO 46 (.bin .add 2 (.t 20) (.c (.int .i64 1))),
 oM 20 46])))))))))
(rg [oO 47 (.bin .add 2 (.t 13) (.c (.int .i64 1))),
 oM 13 47]))))))⟩

def f112 : DFn := ⟨9,[.tmp 2],
 .seq (rg [oO 2 (.assign (.c (.bool false)))])
(.seq (rg [oM 3 0,
 oO 4 (.bin .lss 2 (.t 3) (.c (.int .i64 0))),
 oM 5 4,
⟨(some 6),.move (.t 0),(some (5,false))⟩,
⟨(some 7),.bin .gtr 2 (.t 6) (.c (.int .i64 65536)),(some (5,false))⟩,
 oO 8 (.pick (.t 5) (.c (.bool true)) (.t 7)),
 oA 2 8])
(.ret))⟩

def f113 : DFn := ⟨19,[.tmp 4],
 .seq (rg [oO 4 (.assign (.c (.int .i64 0)))])
(.seq (.seq (rg [oM 6 0,
 oN 7 9 6,
 oO 8 (.move (.c (.int .i64 0)))])
(.block 0 (.loop (.seq (rg [oO 9 (.bin .lss 2 (.t 8) (.t 7))])
(.seq (.cond (.t 9) (.skip) (.exit 0))
(.seq (.block 1 (.seq (rg [oM 10 8,
 oA 5 10])
(.seq (rg [oM 11 1,
 oM 12 0,
 oM 13 5,
 oI 14 9 12 13,
 oL 15 6 14,
 oO 16 (.call 0 (.t 11) [(.t 15)])])
(.cond (.t 16) (.seq (rg [oM 17 5,
 oA 4 17])
(.ret)) (.skip)))))
(rg [oO 18 (.bin .add 2 (.t 8) (.c (.int .i64 1))),
 oM 8 18])))))))
(.seq (rg [oO 4 (.assign (.c (.int .i64 (-1))))])
(.ret)))⟩

def f114 : DFn := ⟨6,[.tmp 4],
 .seq (rg [oO 2 (.box 25 (.t 0)),
 oO 3 (.box 2 (.t 1)),
 oO 4 (.assign (.c .nilfn))])
(.seq (rg [oO 5 (.mkfn 124 [(.t 2),(.t 3)]),
 oA 4 5])
(.ret))⟩

def f115 : DFn := ⟨52,[.tmp 5],
 .seq (rg [oO 4 (.box 17 (.t 0)),
 oO 5 (.assign (.c (.int .i64 0)))])
(.seq (.seq (rg [oL 11 7 1])
(.cond (.t 11) (rg [oF 12 17 4 1,
 oL 13 2 12,
 oF 14 15 2 2,
 oL 15 6 14,
 oN 16 6 15,
 oO 17 (.bin .mul 2 (.t 13) (.t 16)),
 oA 5 17]) (.skip)))
(.seq (.seq (rg [oF 18 17 4 3,
 oL 19 18 18,
 oN 20 18 19,
 oO 21 (.move (.c (.int .i64 0)))])
(.block 0 (.loop (.seq (rg [oO 22 (.bin .lss 2 (.t 21) (.t 20))])
(.seq (.cond (.t 22) (.skip) (.exit 0))
(.seq (.block 1 (.seq (rg [oI 23 18 19 21,
 oL 24 19 23,
 oO 7 (.alloc 19),
 oE (.store 19 (.t 7) (.t 24))])
(.seq (rg [oL 25 25 3,
 oF 26 19 7 0,
 oL 27 20 26,
 oO 28 (.call 0 (.f 98) [(.t 25),(.t 27)]),
 oA 8 28])
(.seq (rg [oF 29 15 2 2,
 oL 30 6 29,
 oN 31 6 30,
 oO 32 (.move (.c (.int .i64 0)))])
(.block 2 (.loop (.seq (rg [oO 33 (.bin .lss 2 (.t 32) (.t 31))])
(.seq (.cond (.t 33) (.skip) (.exit 2))
(.seq (.block 3 (.seq (rg [oI 34 6 30 32,
 oL 35 2 34,
 oA 10 35])
(.region true [] [
 oM 36 5,
 oF 37 25 3 3,
 oL 38 9 37,
 oM 39 10,
 oI 40 9 38 39,
 oL 41 6 40,
 oM 42 8,
 oI 43 6 41 42,
 oL 44 2 43,
 oF 45 19 7 1,
 oL 46 2 45,
 oO 47 (.bin .mul 2 (.t 44) (.t 46)),
 oO 48 (.bin .add 2 (.t 36) (.t 47)),
 oA 5 48])))
(rg [oO 49 (.bin .add 2 (.t 32) (.c (.int .i64 1))),
 oM 32 49]))))))))))
(rg [oO 50 (.bin .add 2 (.t 21) (.c (.int .i64 1))),
 oM 21 50])))))))
(.seq (rg [oM 51 5,
 oA 5 51])
(.ret))))⟩

def f116 : DFn := ⟨26,[.cell 4 17,.cell 5 2,.cell 6 7],
 .seq (rg [oO 3 (.box 27 (.t 1)),
 oO 4 (.alloc 17),
 oO 5 (.alloc 2),
 oO 6 (.alloc 7)])
(.seq (.seq (rg [oM 9 0])
(.block 0 (.rfunc (.t 9) [10] (rg [oO 7 (.alloc 17),
 oE (.store 17 (.t 7) (.t 10))]) (.block 1 (.seq (rg [oL 11 27 3,
 oL 12 17 7,
 oO 13 (.call 0 (.t 11) [(.t 12)]),
 oA 8 13])
(.seq (rg [oL 14 7 6,
 oO 15 (.un .not (.t 14)),
 oM 16 15,
⟨(some 17),.move (.t 8),(some (16,false))⟩,
⟨(some 18),.load 2 (.t 5),(some (16,false))⟩,
⟨(some 19),.bin .lss 2 (.t 17) (.t 18),(some (16,false))⟩,
 oO 20 (.pick (.t 16) (.c (.bool true)) (.t 19))])
(.cond (.t 20) (rg [oL 21 17 7,
 oM 22 8,
 oE (.store 17 (.t 4) (.t 21)),
 oE (.store 2 (.t 5) (.t 22)),
 oE (.store 7 (.t 6) (.c (.bool true)))]) (.skip))))))))
(.seq (.region true [(1,3),(2,3),(2,4)] [
 oL 23 17 4,
 oL 24 2 5,
 oL 25 7 6,
 oE (.store 17 (.t 4) (.t 23)),
 oE (.store 2 (.t 5) (.t 24)),
 oE (.store 7 (.t 6) (.t 25))])
(.ret)))⟩

def f117 : DFn := ⟨49,[.tmp 6,.tmp 7],
 .seq (rg [oO 4 (.box 20 (.t 1)),
 oO 6 (.assign (.c (.int .i64 0))),
 oO 7 (.assign (.c (.bool false)))])
(.seq (rg [oM 12 0,
 oN 13 10 12,
 oA 8 13])
(.seq (rg [oM 14 8,
 oO 9 (.assign (.c (.int .i64 0))),
 oA 10 14])
(.seq (.block 0 (.loop (.seq (.seq (rg [oM 15 9,
 oM 16 10,
 oO 17 (.bin .lss 2 (.t 15) (.t 16))])
(.cond (.t 17) (.skip) (.exit 0)))
(.block 1 (.seq (rg [oM 18 9,
 oM 19 10,
 oO 20 (.bin .add 2 (.t 18) (.t 19)),
 oO 21 (.conv 2 12 (.t 20)),
 oO 22 (.bin .shr 12 (.t 21) (.c (.int .u64 1))),
 oO 23 (.conv 12 2 (.t 22)),
 oA 11 23])
(.seq (.region true [] [
 oM 24 2,
 oM 25 0,
 oM 26 11,
 oI 27 10 25 26,
 oL 28 20 27,
 oL 29 20 4,
 oO 30 (.call 0 (.t 24) [(.t 28),(.t 29)]),
 oO 31 (.bin .lss 2 (.t 30) (.c (.int .i64 0)))])
(.cond (.t 31) (rg [oM 32 11,
 oO 33 (.bin .add 2 (.t 32) (.c (.int .i64 1))),
 oA 9 33]) (rg [oM 34 11,
 oA 10 34]))))))))
(.seq (.region true [] [
 oM 35 9,
 oM 36 9,
 oM 37 8,
 oO 38 (.bin .lss 2 (.t 36) (.t 37)),
 oM 39 38,
⟨(some 40),.move (.t 2),(some (39,true))⟩,
⟨(some 41),.move (.t 0),(some (39,true))⟩,
⟨(some 42),.move (.t 9),(some (39,true))⟩,
⟨(some 43),.iaddr 10 (.t 41) (.t 42),(some (39,true))⟩,
⟨(some 44),.load 20 (.t 43),(some (39,true))⟩,
⟨(some 45),.load 20 (.t 4),(some (39,true))⟩,
⟨(some 46),.call 0 (.t 40) [(.t 44),(.t 45)],(some (39,true))⟩,
⟨(some 47),.bin .eql 2 (.t 46) (.c (.int .i64 0)),(some (39,true))⟩,
 oO 48 (.pick (.t 39) (.t 47) (.c (.bool false))),
 oA 6 35,
 oA 7 48])
(.ret)))))⟩

def f118 : DFn := ⟨25,[.tmp 4],
 .seq (rg [oO 2 (.box 20 (.t 0)),
 oO 3 (.box 20 (.t 1)),
 oO 4 (.assign (.c (.int .i64 0)))])
(.seq (rg [oO 5 (.assign (.f 125))])
(.seq (.region true [] [
 oM 6 5,
 oL 7 20 2,
 oO 8 (.call 0 (.t 6) [(.t 7)]),
 oM 9 5,
 oL 10 20 3,
 oO 11 (.call 0 (.t 9) [(.t 10)]),
 oO 12 (.call 0 (.f 74) [(.t 8),(.t 11)]),
 oF 13 20 2 1,
 oL 14 2 13,
 oF 15 20 3 1,
 oL 16 2 15,
 oO 17 (.call 0 (.f 74) [(.t 14),(.t 16)]),
 oF 18 20 2 2,
 oL 19 2 18,
 oF 20 20 3 2,
 oL 21 2 20,
 oO 22 (.call 0 (.f 74) [(.t 19),(.t 21)]),
 oO 23 (.bslice false 6 3 [(0,(.t 12)),(1,(.t 17)),(2,(.t 22))]),
 oO 24 (.call 0 (.f 105) [(.t 23)]),
 oA 4 24])
(.ret)))⟩

def f122 : DFn := ⟨33,[.cell 4 17],
 .seq (rg [oO 2 (.box 17 (.t 0)),
 oO 4 (.alloc 17)])
(.seq (.seq (rg [oM 7 1,
 oN 8 16 7,
 oO 9 (.move (.c (.int .i64 0)))])
(.block 0 (.loop (.seq (rg [oO 10 (.bin .lss 2 (.t 9) (.t 8))])
(.seq (.cond (.t 10) (.skip) (.exit 0))
(.seq (.block 1 (.seq (rg [oI 11 16 7 9,
 oL 12 17 11,
 oO 6 (.alloc 17),
 oE (.store 17 (.t 6) (.t 12))])
(.seq (rg [oF 13 17 2 0,
 oL 14 2 13,
 oF 15 17 6 0,
 oL 16 2 15,
 oO 17 (.mini [(.t 14),(.t 16)]),
 oF 18 17 2 0,
 oE (.store 2 (.t 18) (.t 17))])
(.seq (rg [oF 19 17 2 1,
 oL 20 2 19,
 oF 21 17 6 1,
 oL 22 2 21,
 oO 23 (.mini [(.t 20),(.t 22)]),
 oF 24 17 2 1,
 oE (.store 2 (.t 24) (.t 23))])
(rg [oF 25 17 2 2,
 oL 26 2 25,
 oF 27 17 6 2,
 oL 28 2 27,
 oO 29 (.mini [(.t 26),(.t 28)]),
 oF 30 17 2 2,
 oE (.store 2 (.t 30) (.t 29))])))))
(rg [oO 31 (.bin .add 2 (.t 9) (.c (.int .i64 1))),
 oM 9 31])))))))
(.seq (rg [oL 32 17 2,
 oE (.store 17 (.t 4) (.t 32))])
(.ret)))⟩

def f123 : DFn := ⟨51,[],
 .seq (rg [oL 10 6 1,
 oN 11 6 10,
 oO 12 (.move (.c (.int .i64 0)))])
(.block 0 (.loop (.seq (rg [oO 13 (.bin .lss 2 (.t 12) (.t 11))])
(.seq (.cond (.t 13) (.skip) (.exit 0))
(.seq (.block 1 (.seq (rg [oM 14 12,
 oI 15 6 10 12,
 oL 16 2 15,
 oA 4 14,
 oA 5 16])
(.seq (rg [oF 17 0 2 2,
 oL 18 14 17,
 oM 19 4,
 oI 20 14 18 19,
 oF 21 15 20 2,
 oL 22 6 21,
 oN 23 6 22,
 oO 24 (.move (.c (.int .i64 0)))])
(.block 2 (.loop (.seq (rg [oO 25 (.bin .lss 2 (.t 24) (.t 23))])
(.seq (.cond (.t 25) (.skip) (.exit 2))
(.seq (.block 3 (.seq (rg [oI 26 6 22 24,
 oL 27 2 26,
 oA 7 27])
(.seq (rg [oF 28 0 2 2,
 oL 29 14 28,
 oM 30 4,
 oI 31 14 29 30,
 oF 32 15 31 3,
 oL 33 16 32,
 oM 34 5,
 oI 35 16 33 34,
 oF 36 17 35 3,
 oL 37 18 36,
 oN 38 18 37,
 oO 39 (.move (.c (.int .i64 0)))])
(.block 4 (.loop (.seq (rg [oO 40 (.bin .lss 2 (.t 39) (.t 38))])
(.seq (.cond (.t 40) (.skip) (.exit 4))
(.seq (.block 5 (.seq (rg [oI 41 18 37 39,
 oL 42 19 41,
 oO 9 (.alloc 19),
 oE (.store 19 (.t 9) (.t 42))])
(.seq (rg [oM 43 0,
 oM 44 7,
 oL 45 19 9,
 oO 46 (.call 2 (.t 43) [(.t 44),(.t 45)]),
 oO 47 (.un .not (.t 46))])
(.cond (.t 47) (.ret) (.skip)))))
(rg [oO 48 (.bin .add 2 (.t 39) (.c (.int .i64 1))),
 oM 39 48])))))))))
(rg [oO 49 (.bin .add 2 (.t 24) (.c (.int .i64 1))),
 oM 24 49])))))))))
(rg [oO 50 (.bin .add 2 (.t 12) (.c (.int .i64 1))),
 oM 12 50]))))))⟩

def f124 : DFn := ⟨47,[],
 .seq (rg [oF 6 25 1 0,
 oF 7 0 6 2,
 oL 8 14 7,
 oL 9 2 2,
 oI 10 14 8 9,
 oF 11 15 10 3,
 oL 12 16 11,
 oN 13 16 12,
 oO 14 (.move (.c (.int .i64 0)))])
(.block 0 (.loop (.seq (rg [oO 15 (.bin .lss 2 (.t 14) (.t 13))])
(.seq (.cond (.t 15) (.skip) (.exit 0))
(.seq (.block 1 (.seq (rg [oM 16 14,
 oI 17 16 12 14,
 oL 18 17 17,
 oO 5 (.alloc 17),
 oA 4 16,
 oE (.store 17 (.t 5) (.t 18))])
(.seq (rg [oF 19 17 5 0,
 oL 20 2 19,
 oF 21 25 1 2,
 oL 22 2 21,
 oO 23 (.bin .leq 2 (.t 20) (.t 22)),
 oM 24 23,
⟨(some 25),.load 2 (.t 2),(some (24,true))⟩,
⟨(some 26),.faddr 25 (.t 1) 1,(some (24,true))⟩,
⟨(some 27),.load 1 (.t 26),(some (24,true))⟩,
⟨(some 28),.len 1 (.t 27),(some (24,true))⟩,
⟨(some 29),.bin .geq 2 (.t 25) (.t 28),(some (24,true))⟩,
⟨(some 30),.move (.t 29),(some (24,true))⟩,
⟨(some 31),.faddr 25 (.t 1) 1,(some (30,false))⟩,
⟨(some 32),.load 1 (.t 31),(some (30,false))⟩,
⟨(some 33),.load 2 (.t 2),(some (30,false))⟩,
⟨(some 34),.iaddr 1 (.t 32) (.t 33),(some (30,false))⟩,
⟨(some 35),.load 2 (.t 34),(some (30,false))⟩,
⟨(some 36),.move (.t 4),(some (30,false))⟩,
⟨(some 37),.bin .eql 2 (.t 35) (.t 36),(some (30,false))⟩,
⟨(some 38),.pick (.t 30) (.c (.bool true)) (.t 37),(some (24,true))⟩,
 oO 39 (.pick (.t 24) (.t 38) (.c (.bool false))),
 oM 40 39,
⟨(some 41),.move (.t 0),(some (40,true))⟩,
⟨(some 42),.load 17 (.t 5),(some (40,true))⟩,
⟨(some 43),.call 2 (.t 41) [(.t 42)],(some (40,true))⟩,
⟨(some 44),.un .not (.t 43),(some (40,true))⟩,
 oO 45 (.pick (.t 40) (.t 44) (.c (.bool false)))])
(.cond (.t 45) (.ret) (.skip)))))
(rg [oO 46 (.bin .add 2 (.t 14) (.c (.int .i64 1))),
 oM 14 46]))))))⟩

def f125 : DFn := ⟨5,[.tmp 2],
 .seq (rg [oO 1 (.box 20 (.t 0)),
 oO 2 (.assign (.c (.int .i64 0)))])
(.seq (.seq (rg [oF 3 20 1 0,
 oL 4 7 3])
(.cond (.t 4) (.seq (rg [oO 2 (.assign (.c (.int .i64 1)))])
(.ret)) (.skip)))
(.seq (rg [oO 2 (.assign (.c (.int .i64 0)))])
(.ret)))⟩

def f129 : DFn := ⟨10,[.tmp 2],
 .seq (rg [oO 1 (.box 0 (.t 0)),
 oO 2 (.assign (.c (.bool false)))])
(.seq (rg [oL 3 0 1,
 oO 4 (.call 0 (.f 2) [(.t 3)]),
 oM 5 4,
⟨(some 6),.load 0 (.t 1),(some (5,true))⟩,
⟨(some 7),.call 0 (.f 61) [(.t 6),(.c (.int .i64 400))],(some (5,true))⟩,
⟨(some 8),.bin .leq 2 (.t 7) (.c (.int .i64 300)),(some (5,true))⟩,
 oO 9 (.pick (.t 5) (.t 8) (.c (.bool false))),
 oA 2 9])
(.ret))⟩

def f159 : DFn := ⟨9,[.tmp 4],
 .seq (rg [oO 4 (.assign (.c (.bool false)))])
(.seq (rg [oM 5 0,
 oM 6 1,
 oO 7 (.call 0 (.f 173) [(.t 5),(.t 6)]),
 oO 8 (.bin .geq 2 (.t 7) (.c (.int .i64 0))),
 oA 4 8])
(.ret))⟩

def f162 : DFn := ⟨26,[.tmp 4],
 .seq (rg [oO 4 (.assign (.c (.bool false)))])
(.seq (.seq (rg [oM 6 0,
 oN 7 6 6,
 oM 8 1,
 oN 9 6 8,
 oO 10 (.bin .neq 2 (.t 7) (.t 9))])
(.cond (.t 10) (.seq (rg [oO 4 (.assign (.c (.bool false)))])
(.ret)) (.skip)))
(.seq (.seq (rg [oM 11 0,
 oN 12 6 11,
 oO 13 (.move (.c (.int .i64 0)))])
(.block 0 (.loop (.seq (rg [oO 14 (.bin .lss 2 (.t 13) (.t 12))])
(.seq (.cond (.t 14) (.skip) (.exit 0))
(.seq (.block 1 (.seq (rg [oM 15 13,
 oA 5 15])
(.seq (.region true [] [
 oM 16 0,
 oM 17 5,
 oI 18 6 16 17,
 oL 19 2 18,
 oM 20 1,
 oM 21 5,
 oI 22 6 20 21,
 oL 23 2 22,
 oO 24 (.bin .neq 2 (.t 19) (.t 23))])
(.cond (.t 24) (.seq (rg [oO 4 (.assign (.c (.bool false)))])
(.ret)) (.skip)))))
(rg [oO 25 (.bin .add 2 (.t 13) (.c (.int .i64 1))),
 oM 13 25])))))))
(.seq (rg [oO 4 (.assign (.c (.bool true)))])
(.ret))))⟩

def f173 : DFn := ⟨19,[.tmp 4],
 .seq (rg [oO 4 (.assign (.c (.int .i64 0)))])
(.seq (.seq (rg [oM 6 0,
 oN 7 4 6,
 oO 8 (.move (.c (.int .i64 0)))])
(.block 0 (.loop (.seq (rg [oO 9 (.bin .lss 2 (.t 8) (.t 7))])
(.seq (.cond (.t 9) (.skip) (.exit 0))
(.seq (.block 1 (.seq (rg [oM 10 8,
 oA 5 10])
(.seq (rg [oM 11 1,
 oM 12 0,
 oM 13 5,
 oI 14 4 12 13,
 oL 15 1 14,
 oO 16 (.call 0 (.t 11) [(.t 15)])])
(.cond (.t 16) (.seq (rg [oM 17 5,
 oA 4 17])
(.ret)) (.skip)))))
(rg [oO 18 (.bin .add 2 (.t 8) (.c (.int .i64 1))),
 oM 8 18])))))))
(.seq (rg [oO 4 (.assign (.c (.int .i64 (-1))))])
(.ret)))⟩

def f211 : DFn := ⟨102,[.tmp 10],
 .seq (rg [oO 5 (.box 0 (.t 0)),
 oO 6 (.box 29 (.t 1)),
 oO 8 (.box 15 (.t 3)),
 oO 10 (.assign (.c (.bool false)))])
(.seq (.seq (rg [oO 19 (.call 0 (.f 212) []),
 oO 20 (.un .not (.t 19))])
(.cond (.t 20) (.seq (rg [oO 10 (.assign (.c (.bool false)))])
(.ret)) (.skip)))
(.seq (.seq (rg [oL 21 0 5,
 oO 22 (.call 0 (.f 129) [(.t 21)]),
 oO 23 (.un .not (.t 22)),
 oM 24 23,
⟨(some 25),.load 29 (.t 6),(some (24,false))⟩,
⟨(some 26),.call 0 (.f 213) [(.t 25)],(some (24,false))⟩,
⟨(some 27),.un .not (.t 26),(some (24,false))⟩,
 oO 28 (.pick (.t 24) (.c (.bool true)) (.t 27)),
 oM 29 28,
⟨(some 30),.move (.t 4),(some (29,false))⟩,
⟨(some 31),.len 6 (.t 30),(some (29,false))⟩,
⟨(some 32),.bin .gtr 2 (.t 31) (.c (.int .i64 20)),(some (29,false))⟩,
 oO 33 (.pick (.t 29) (.c (.bool true)) (.t 32))])
(.cond (.t 33) (.seq (rg [oO 10 (.assign (.c (.bool true)))])
(.ret)) (.skip)))
(.seq (rg [oL 35 0 5,
 oM 36 2,
 oL 37 15 8,
 oO 38 (.call 0 (.f 214) [(.t 35),(.t 36),(.t 37)]),
 oM 34 38,
 oO 39 (.extract (.t 34) 0),
 oO 40 (.extract (.t 34) 1),
 oO 11 (.alloc 0),
 oE (.store 0 (.t 11) (.t 39)),
 oA 12 40])
(.seq (.seq (rg [oM 41 12,
 oO 42 (.bin .neq 3 (.t 41) (.c (.int .i64 0))),
 oM 43 42,
⟨(some 44),.load 0 (.t 11),(some (43,false))⟩,
⟨(some 45),.call 0 (.f 129) [(.t 44)],(some (43,false))⟩,
⟨(some 46),.un .not (.t 45),(some (43,false))⟩,
 oO 47 (.pick (.t 43) (.c (.bool true)) (.t 46))])
(.cond (.t 47) (.seq (rg [oM 48 12,
 oO 49 (.bin .eql 3 (.t 48) (.c (.int .i64 0))),
 oM 50 49,
⟨(some 51),.faddr 0 (.t 11) 2,(some (50,false))⟩,
⟨(some 52),.load 14 (.t 51),(some (50,false))⟩,
⟨(some 53),.len 14 (.t 52),(some (50,false))⟩,
⟨(some 54),.bin .eql 2 (.t 53) (.c (.int .i64 0)),(some (50,false))⟩,
 oO 55 (.pick (.t 50) (.c (.bool true)) (.t 54)),
 oA 10 55])
(.ret)) (.skip)))
(.seq (rg [oL 57 0 11,
 oL 58 29 6,
 oO 59 (.call 0 (.f 215) [(.t 57),(.t 58)]),
 oM 56 59,
 oO 60 (.extract (.t 56) 0),
 oO 61 (.extract (.t 56) 1),
 oO 13 (.alloc 29),
 oE (.store 29 (.t 13) (.t 60)),
 oA 14 61])
(.seq (rg [oL 63 0 11,
 oF 64 29 13 0,
 oL 65 6 64,
 oO 66 (.call 0 (.f 22) [(.t 63),(.t 65)]),
 oM 62 66,
 oO 67 (.extract (.t 62) 0),
 oO 68 (.extract (.t 62) 1),
 oA 15 67,
 oA 16 68])
(.seq (.seq (rg [oM 69 14,
 oO 70 (.bin .neq 3 (.t 69) (.c (.int .i64 0))),
 oM 71 70,
⟨(some 72),.move (.t 16),(some (71,false))⟩,
⟨(some 73),.bin .neq 3 (.t 72) (.c (.int .i64 0)),(some (71,false))⟩,
 oO 74 (.pick (.t 71) (.c (.bool true)) (.t 73)),
 oM 75 74,
⟨(some 76),.move (.t 15),(some (75,false))⟩,
⟨(some 77),.faddr 29 (.t 13) 1,(some (75,false))⟩,
⟨(some 78),.load 6 (.t 77),(some (75,false))⟩,
⟨(some 79),.call 0 (.f 20) [(.t 76),(.t 78)],(some (75,false))⟩,
⟨(some 80),.un .not (.t 79),(some (75,false))⟩,
 oO 81 (.pick (.t 75) (.c (.bool true)) (.t 80)),
 oM 82 81,
⟨(some 83),.load 0 (.t 11),(some (82,false))⟩,
⟨(some 84),.load 29 (.t 13),(some (82,false))⟩,
⟨(some 85),.call 0 (.f 216) [(.t 83),(.t 84)],(some (82,false))⟩,
⟨(some 86),.bin .neq 3 (.t 85) (.c (.int .i64 0)),(some (82,false))⟩,
 oO 87 (.pick (.t 82) (.c (.bool true)) (.t 86))])
(.cond (.t 87) (.seq (rg [oO 10 (.assign (.c (.bool false)))])
(.ret)) (.skip)))
(.seq (rg [oL 89 0 11,
 oM 90 4,
 oF 91 29 13 0,
 oL 92 6 91,
 oO 93 (.call 0 (.f 24) [(.t 89),(.t 90),(.t 92)]),
 oM 88 93,
 oO 94 (.extract (.t 88) 0),
 oO 95 (.extract (.t 88) 1),
 oA 17 94,
 oA 18 95])
(.seq (rg [oM 96 18,
 oO 97 (.bin .neq 3 (.t 96) (.c (.int .i64 0))),
 oM 98 97,
⟨(some 99),.move (.t 17),(some (98,false))⟩,
⟨(some 100),.un .not (.t 99),(some (98,false))⟩,
 oO 101 (.pick (.t 98) (.c (.bool true)) (.t 100)),
 oA 10 101])
(.ret))))))))))⟩

def f212 : DFn := ⟨178,[.tmp 0],
 .seq (rg [oO 0 (.assign (.c (.bool false)))])
(.seq (rg [oO 22 (.call 0 (.f 221) []),
 oO 1 (.alloc 0),
 oE (.store 0 (.t 1) (.t 22))])
(.seq (rg [oL 24 0 1,
 oO 25 (.build 29 []),
 oO 26 (.call 0 (.f 215) [(.t 24),(.t 25)]),
 oM 23 26,
 oO 27 (.extract (.t 23) 0),
 oO 28 (.extract (.t 23) 1),
 oO 2 (.alloc 29),
 oE (.store 29 (.t 2) (.t 27)),
 oA 3 28])
(.seq (rg [oF 29 0 1 2,
 oL 30 14 29,
 oO 31 (.iaddr 14 (.t 30) (.c (.int .i64 0))),
 oL 32 15 31,
 oO 4 (.alloc 15),
 oE (.store 15 (.t 4) (.t 32))])
(.seq (rg [oO 33 (.build 17 [(1,(.c (.int .i64 1)))]),
 oO 34 (.bslice false 16 1 [(0,(.t 33))]),
 oF 35 15 4 3,
 oE (.store 16 (.t 35) (.t 34))])
(.seq (rg [oL 37 0 1,
 oL 38 15 4,
 oO 39 (.call 0 (.f 214) [(.t 37),(.c (.int .i64 0)),(.t 38)]),
 oM 36 39,
 oO 40 (.extract (.t 36) 0),
 oO 41 (.extract (.t 36) 1),
 oO 5 (.alloc 0),
 oE (.store 0 (.t 5) (.t 40)),
 oA 6 41])
(.seq (rg [oL 43 0 5,
 oL 44 29 2,
 oO 45 (.call 0 (.f 215) [(.t 43),(.t 44)]),
 oM 42 45,
 oO 46 (.extract (.t 42) 0),
 oO 47 (.extract (.t 42) 1),
 oO 7 (.alloc 29),
 oE (.store 29 (.t 7) (.t 46)),
 oA 8 47])
(.seq (rg [oL 49 0 1,
 oL 50 29 2,
 oO 51 (.call 0 (.f 222) [(.t 49),(.t 50)]),
 oM 48 51,
 oO 52 (.extract (.t 48) 0),
 oO 53 (.extract (.t 48) 1),
 oA 9 52,
 oA 10 53])
(.seq (rg [oL 55 0 5,
 oL 56 29 2,
 oO 57 (.call 0 (.f 222) [(.t 55),(.t 56)]),
 oM 54 57,
 oO 58 (.extract (.t 54) 0),
 oO 59 (.extract (.t 54) 1),
 oA 11 58,
 oA 12 59])
(.seq (rg [oO 60 (.bslice false 6 0 []),
 oO 61 (.bslice false 9 1 [(0,(.t 60))]),
 oO 62 (.build 0 [(1,(.t 61))]),
 oO 13 (.alloc 0),
 oE (.store 0 (.t 13) (.t 62))])
(.seq (rg [oL 64 0 13,
 oL 65 15 4,
 oO 66 (.call 0 (.f 214) [(.t 64),(.c (.int .i64 0)),(.t 65)]),
 oM 63 66,
 oO 67 (.extract (.t 63) 0),
 oO 68 (.extract (.t 63) 1),
 oO 14 (.alloc 0),
 oE (.store 0 (.t 14) (.t 67)),
 oA 15 68])
(.seq (rg [oL 70 0 1,
 oO 71 (.build 29 []),
 oO 72 (.call 0 (.f 222) [(.t 70),(.t 71)]),
 oM 69 72,
 oO 73 (.extract (.t 69) 0),
 oO 74 (.extract (.t 69) 1),
 oA 16 73,
 oA 17 74])
(.seq (rg [oL 76 0 13,
 oO 77 (.build 29 []),
 oO 78 (.call 0 (.f 215) [(.t 76),(.t 77)]),
 oM 75 78,
 oO 79 (.extract (.t 75) 0),
 oO 80 (.extract (.t 75) 1),
 oO 18 (.alloc 29),
 oE (.store 29 (.t 18) (.t 79)),
 oA 19 80])
(.seq (rg [oO 82 (.build 0 []),
 oL 83 29 2,
 oO 84 (.call 0 (.f 215) [(.t 82),(.t 83)]),
 oM 81 84,
 oO 85 (.extract (.t 81) 0),
 oO 86 (.extract (.t 81) 1),
 oO 20 (.alloc 29),
 oE (.store 29 (.t 20) (.t 85)),
 oA 21 86])
(.seq (.seq (rg [oM 87 3,
 oO 88 (.bin .neq 3 (.t 87) (.c (.int .i64 0))),
 oM 89 88,
⟨(some 90),.move (.t 6),(some (89,false))⟩,
⟨(some 91),.bin .neq 3 (.t 90) (.c (.int .i64 0)),(some (89,false))⟩,
 oO 92 (.pick (.t 89) (.c (.bool true)) (.t 91)),
 oM 93 92,
⟨(some 94),.move (.t 8),(some (93,false))⟩,
⟨(some 95),.bin .neq 3 (.t 94) (.c (.int .i64 0)),(some (93,false))⟩,
 oO 96 (.pick (.t 93) (.c (.bool true)) (.t 95)),
 oM 97 96,
⟨(some 98),.move (.t 10),(some (97,false))⟩,
⟨(some 99),.bin .neq 3 (.t 98) (.c (.int .i64 0)),(some (97,false))⟩,
 oO 100 (.pick (.t 97) (.c (.bool true)) (.t 99)),
 oM 101 100,
⟨(some 102),.move (.t 12),(some (101,false))⟩,
⟨(some 103),.bin .neq 3 (.t 102) (.c (.int .i64 0)),(some (101,false))⟩,
 oO 104 (.pick (.t 101) (.c (.bool true)) (.t 103)),
 oM 105 104,
⟨(some 106),.move (.t 15),(some (105,false))⟩,
⟨(some 107),.bin .neq 3 (.t 106) (.c (.int .i64 330)),(some (105,false))⟩,
 oO 108 (.pick (.t 105) (.c (.bool true)) (.t 107)),
 oM 109 108,
⟨(some 110),.move (.t 17),(some (109,false))⟩,
⟨(some 111),.bin .neq 3 (.t 110) (.c (.int .i64 0)),(some (109,false))⟩,
 oO 112 (.pick (.t 109) (.c (.bool true)) (.t 111)),
 oM 113 112,
⟨(some 114),.move (.t 19),(some (113,false))⟩,
⟨(some 115),.bin .neq 3 (.t 114) (.c (.int .i64 0)),(some (113,false))⟩,
 oO 116 (.pick (.t 113) (.c (.bool true)) (.t 115)),
 oM 117 116,
⟨(some 118),.move (.t 21),(some (117,false))⟩,
⟨(some 119),.bin .neq 3 (.t 118) (.c (.int .i64 270)),(some (117,false))⟩,
 oO 120 (.pick (.t 117) (.c (.bool true)) (.t 119))])
(.cond (.t 120) (.seq (rg [oO 0 (.assign (.c (.bool false)))])
(.ret)) (.skip)))
(.seq (rg [oF 121 29 2 0,
 oL 122 6 121,
 oO 123 (.bslice false 6 2 [(0,(.c (.int .i64 1))),(1,(.c (.int .i64 0)))]),
 oO 124 (.call 0 (.f 20) [(.t 122),(.t 123)]),
 oM 125 124,
⟨(some 126),.faddr 29 (.t 2) 1,(some (125,true))⟩,
⟨(some 127),.load 6 (.t 126),(some (125,true))⟩,
⟨(some 128),.bslice false 6 4 [(0,(.c (.int .i64 0))),(1,(.c (.int .i64 10))),(2,(.c (.int .i64 3))),(3,(.c (.int .i64 0)))],(some (125,true))⟩,
⟨(some 129),.call 0 (.f 20) [(.t 127),(.t 128)],(some (125,true))⟩,
 oO 130 (.pick (.t 125) (.t 129) (.c (.bool false))),
 oM 131 130,
⟨(some 132),.faddr 29 (.t 7) 0,(some (131,true))⟩,
⟨(some 133),.load 6 (.t 132),(some (131,true))⟩,
⟨(some 134),.bslice false 6 2 [(0,(.c (.int .i64 0))),(1,(.c (.int .i64 0)))],(some (131,true))⟩,
⟨(some 135),.call 0 (.f 20) [(.t 133),(.t 134)],(some (131,true))⟩,
 oO 136 (.pick (.t 131) (.t 135) (.c (.bool false))),
 oM 137 136,
⟨(some 138),.move (.t 9),(some (137,true))⟩,
 oO 139 (.pick (.t 137) (.t 138) (.c (.bool false))),
 oM 140 139,
⟨(some 141),.move (.t 11),(some (140,true))⟩,
⟨(some 142),.un .not (.t 141),(some (140,true))⟩,
 oO 143 (.pick (.t 140) (.t 142) (.c (.bool false))),
 oM 144 143,
⟨(some 145),.move (.t 16),(some (144,true))⟩,
⟨(some 146),.un .not (.t 145),(some (144,true))⟩,
 oO 147 (.pick (.t 144) (.t 146) (.c (.bool false))),
 oM 148 147,
⟨(some 149),.faddr 29 (.t 18) 0,(some (148,true))⟩,
⟨(some 150),.load 6 (.t 149),(some (148,true))⟩,
⟨(some 151),.len 6 (.t 150),(some (148,true))⟩,
⟨(some 152),.bin .eql 2 (.t 151) (.c (.int .i64 0)),(some (148,true))⟩,
 oO 153 (.pick (.t 148) (.t 152) (.c (.bool false))),
 oM 154 153,
⟨(some 155),.faddr 29 (.t 18) 1,(some (154,true))⟩,
⟨(some 156),.load 6 (.t 155),(some (154,true))⟩,
⟨(some 157),.bslice false 6 4 [(0,(.c (.int .i64 0))),(1,(.c (.int .i64 0))),(2,(.c (.int .i64 0))),(3,(.c (.int .i64 0)))],(some (154,true))⟩,
⟨(some 158),.call 0 (.f 20) [(.t 156),(.t 157)],(some (154,true))⟩,
 oO 159 (.pick (.t 154) (.t 158) (.c (.bool false))),
 oM 160 159,
⟨(some 161),.load 0 (.t 1),(some (160,true))⟩,
⟨(some 162),.load 29 (.t 2),(some (160,true))⟩,
⟨(some 163),.call 0 (.f 216) [(.t 161),(.t 162)],(some (160,true))⟩,
⟨(some 164),.bin .eql 3 (.t 163) (.c (.int .i64 0)),(some (160,true))⟩,
 oO 165 (.pick (.t 160) (.t 164) (.c (.bool false))),
 oM 166 165,
⟨(some 167),.load 0 (.t 5),(some (166,true))⟩,
⟨(some 168),.load 29 (.t 7),(some (166,true))⟩,
⟨(some 169),.call 0 (.f 216) [(.t 167),(.t 168)],(some (166,true))⟩,
⟨(some 170),.bin .eql 3 (.t 169) (.c (.int .i64 0)),(some (166,true))⟩,
 oO 171 (.pick (.t 166) (.t 170) (.c (.bool false))),
 oM 172 171,
⟨(some 173),.load 0 (.t 13),(some (172,true))⟩,
⟨(some 174),.load 29 (.t 18),(some (172,true))⟩,
⟨(some 175),.call 0 (.f 216) [(.t 173),(.t 174)],(some (172,true))⟩,
⟨(some 176),.bin .eql 3 (.t 175) (.c (.int .i64 0)),(some (172,true))⟩,
 oO 177 (.pick (.t 172) (.t 176) (.c (.bool false))),
 oA 0 177])
(.ret))))))))))))))))⟩

def f213 : DFn := ⟨34,[.tmp 2],
 .seq (rg [oO 1 (.box 29 (.t 0)),
 oO 2 (.assign (.c (.bool false)))])
(.seq (.seq (rg [oO 3 (.assign (.c (.int .i64 0)))])
(.block 0 (.loop (.seq (.seq (rg [oM 4 3,
 oF 5 29 1 2,
 oL 6 31 5,
 oN 7 31 6,
 oO 8 (.bin .lss 2 (.t 4) (.t 7))])
(.cond (.t 8) (.skip) (.exit 0)))
(.seq (.block 1 (.seq (rg [oF 11 29 1 2,
 oL 12 31 11,
 oM 13 3,
 oI 14 31 12 13,
 oL 15 32 14,
 oO 16 (.call 0 (.f 223) [(.t 15)]),
 oO 17 (.un .not (.t 16))])
(.cond (.t 17) (.seq (rg [oO 2 (.assign (.c (.bool false)))])
(.ret)) (.skip))))
(rg [oM 9 3,
 oO 10 (.bin .add 2 (.t 9) (.c (.int .i64 1))),
 oA 3 10]))))))
(.seq (rg [oF 18 29 1 0,
 oL 19 6 18,
 oN 20 6 19,
 oO 21 (.bin .leq 2 (.t 20) (.c (.int .i64 20))),
 oM 22 21,
⟨(some 23),.faddr 29 (.t 1) 1,(some (22,true))⟩,
⟨(some 24),.load 6 (.t 23),(some (22,true))⟩,
⟨(some 25),.len 6 (.t 24),(some (22,true))⟩,
⟨(some 26),.bin .leq 2 (.t 25) (.c (.int .i64 20)),(some (22,true))⟩,
 oO 27 (.pick (.t 22) (.t 26) (.c (.bool false))),
 oM 28 27,
⟨(some 29),.faddr 29 (.t 1) 2,(some (28,true))⟩,
⟨(some 30),.load 31 (.t 29),(some (28,true))⟩,
⟨(some 31),.len 31 (.t 30),(some (28,true))⟩,
⟨(some 32),.bin .leq 2 (.t 31) (.c (.int .i64 400)),(some (28,true))⟩,
 oO 33 (.pick (.t 28) (.t 32) (.c (.bool false))),
 oA 2 33])
(.ret)))⟩

def f214 : DFn := ⟨39,[.cell 6 0,.tmp 7],
 .seq (rg [oO 3 (.box 0 (.t 0)),
 oO 5 (.box 15 (.t 2)),
 oO 6 (.alloc 0),
 oO 7 (.assign (.c (.int .i64 0)))])
(.seq (.seq (rg [oL 11 0 3,
 oO 12 (.call 0 (.f 15) [(.t 11)]),
 oA 8 12])
(.seq (rg [oM 13 8,
 oO 14 (.bin .neq 3 (.t 13) (.c (.int .i64 0)))])
(.cond (.t 14) (.seq (rg [oL 15 0 6,
 oM 16 8,
 oE (.store 0 (.t 6) (.t 15)),
 oA 7 16])
(.ret)) (.skip))))
(.seq (.seq (rg [oM 17 1,
 oO 18 (.bin .lss 2 (.t 17) (.c (.int .i64 0))),
 oM 19 18,
⟨(some 20),.move (.t 1),(some (19,false))⟩,
⟨(some 21),.faddr 0 (.t 3) 2,(some (19,false))⟩,
⟨(some 22),.load 14 (.t 21),(some (19,false))⟩,
⟨(some 23),.len 14 (.t 22),(some (19,false))⟩,
⟨(some 24),.bin .geq 2 (.t 20) (.t 23),(some (19,false))⟩,
 oO 25 (.pick (.t 19) (.c (.bool true)) (.t 24))])
(.cond (.t 25) (.seq (rg [oL 26 0 6,
 oE (.store 0 (.t 6) (.t 26)),
 oO 7 (.assign (.c (.int .i64 330)))])
(.ret)) (.skip)))
(.seq (rg [oL 27 0 3,
 oM 28 1,
 oL 29 15 5,
 oO 30 (.bslice false 14 1 [(0,(.t 29))]),
 oO 31 (.call 0 (.f 224) [(.t 27),(.t 28),(.t 30)]),
 oO 9 (.alloc 0),
 oE (.store 0 (.t 9) (.t 31))])
(.seq (.seq (rg [oL 32 0 9,
 oO 33 (.call 0 (.f 15) [(.t 32)]),
 oA 10 33])
(.seq (rg [oM 34 10,
 oO 35 (.bin .neq 3 (.t 34) (.c (.int .i64 0)))])
(.cond (.t 35) (.seq (rg [oL 36 0 6,
 oM 37 10,
 oE (.store 0 (.t 6) (.t 36)),
 oA 7 37])
(.ret)) (.skip))))
(.seq (rg [oL 38 0 9,
 oE (.store 0 (.t 6) (.t 38)),
 oO 7 (.assign (.c (.int .i64 0)))])
(.ret))))))⟩

def f215 : DFn := ⟨40,[.cell 4 29,.tmp 5],
 .seq (rg [oO 2 (.box 0 (.t 0)),
 oO 3 (.box 29 (.t 1)),
 oO 4 (.alloc 29),
 oO 5 (.assign (.c (.int .i64 0)))])
(.seq (rg [oL 9 0 2,
 oL 10 29 3,
 oO 11 (.call 0 (.f 222) [(.t 9),(.t 10)]),
 oM 8 11,
 oO 12 (.extract (.t 8) 0),
 oO 13 (.extract (.t 8) 1),
 oA 6 12,
 oA 5 13])
(.seq (.seq (rg [oM 14 5,
 oO 15 (.bin .neq 3 (.t 14) (.c (.int .i64 0)))])
(.cond (.t 15) (.seq (rg [oL 16 29 4,
 oM 17 5,
 oE (.store 29 (.t 4) (.t 16)),
 oA 5 17])
(.ret)) (.skip)))
(.seq (.seq (rg [oM 18 6])
(.cond (.t 18) (.seq (rg [oL 19 29 3,
 oE (.store 29 (.t 4) (.t 19)),
 oO 5 (.assign (.c (.int .i64 0)))])
(.ret)) (.skip)))
(.seq (rg [oL 20 0 2,
 oO 21 (.build 41 [(0,(.t 20))]),
 oO 22 (.box 41 (.t 21)),
 oO 7 (.alloc 42),
 oE (.store 42 (.t 7) (.t 22))])
(.seq (rg [oL 23 42 7,
 oO 24 (.mkfn 225 [(.t 2),(.t 7)]),
 oO 25 (.nilc (.t 23)),
 oF 26 41 25 3,
 oE (.store 43 (.t 26) (.t 24))])
(.seq (.region true [] [
 oL 27 42 7,
 oO 28 (.nilc (.t 27)),
 oF 29 41 28 3,
 oL 30 43 29,
 oF 31 29 3 0,
 oL 32 6 31,
 oO 33 (.call 2 (.t 30) [(.t 32)])])
(.seq (rg [oL 34 42 7,
 oO 35 (.call 2 (.f 226) [(.t 34),(.c (.imm .exact []))])])
(.seq (rg [oL 36 42 7,
 oO 37 (.nilc (.t 36)),
 oF 38 41 37 1,
 oL 39 29 38,
 oE (.store 29 (.t 4) (.t 39)),
 oO 5 (.assign (.c (.int .i64 0)))])
(.ret)))))))))⟩

def f216 : DFn := ⟨64,[.cell 4 3],
 .seq (rg [oO 2 (.box 0 (.t 0)),
 oO 3 (.box 29 (.t 1)),
 oO 4 (.alloc 3)])
(.seq (rg [oO 12 (.mkfn 227 [(.t 4)])])
(.seq (rg [oL 14 0 2,
 oF 15 29 3 0,
 oL 16 6 15,
 oO 17 (.call 0 (.f 22) [(.t 14),(.t 16)]),
 oM 13 17,
 oO 18 (.extract (.t 13) 0),
 oO 19 (.extract (.t 13) 1),
 oA 5 18,
 oE (.store 3 (.t 4) (.t 19))])
(.seq (.seq (rg [oL 20 3 4,
 oO 21 (.call 5 (.f 228) [(.t 20)])])
(.ifp (.t 21) (.seq (rg [ oO 21 (.extract (.t 21) 1),
 oO 21 (.field 44 (.t 21) 0),
 oE (.store 3 (.t 4) (.t 21))]) .ret) (rg [     ])))
(.seq (.seq (rg [oM 22 5,
 oF 23 29 3 1,
 oL 24 6 23,
 oO 25 (.call 0 (.f 162) [(.t 22),(.t 24)]),
 oO 26 (.call 5 (.f 229) [(.t 25),(.c (.int .i64 310))])])
(.ifp (.t 26) (.seq (rg [ oO 26 (.extract (.t 26) 1),
 oO 26 (.field 44 (.t 26) 0),
 oE (.store 3 (.t 4) (.t 26))]) .ret) (rg [     ])))
(.seq (rg [oO 6 (.assign (.c (.imm .exact [])))])
(.seq (.seq (rg [oF 27 29 3 2,
 oL 28 31 27,
 oN 29 31 28,
 oO 30 (.move (.c (.int .i64 0)))])
(.block 0 (.loop (.seq (rg [oO 31 (.bin .lss 2 (.t 30) (.t 29))])
(.seq (.cond (.t 31) (.skip) (.exit 0))
(.seq (.block 1 (.seq (rg [oI 32 31 28 30,
 oL 33 32 32,
 oO 8 (.alloc 32),
 oE (.store 32 (.t 8) (.t 33))])
(rg [oM 34 6,
 oF 35 32 8 0,
 oL 36 1 35,
 oO 37 (.bslice false 4 1 [(0,(.t 36))]),
 oO 38 (.append 0 4 4 (.t 34) (.t 37)),
 oA 6 38])))
(rg [oO 39 (.bin .add 2 (.t 30) (.c (.int .i64 1))),
 oM 30 39])))))))
(.seq (rg [oL 41 0 2,
 oM 42 6,
 oO 43 (.call 0 (.f 230) [(.t 41),(.t 42)]),
 oM 40 43,
 oO 44 (.extract (.t 40) 0),
 oO 45 (.extract (.t 40) 1),
 oA 9 44,
 oE (.store 3 (.t 4) (.t 45))])
(.seq (.seq (rg [oL 46 3 4,
 oO 47 (.call 5 (.f 228) [(.t 46)])])
(.ifp (.t 47) (.seq (rg [ oO 47 (.extract (.t 47) 1),
 oO 47 (.field 44 (.t 47) 0),
 oE (.store 3 (.t 4) (.t 47))]) .ret) (rg [     ])))
(.seq (.seq (rg [oM 48 9,
 oO 49 (.call 5 (.f 229) [(.t 48),(.c (.int .i64 310))])])
(.ifp (.t 49) (.seq (rg [ oO 49 (.extract (.t 49) 1),
 oO 49 (.field 44 (.t 49) 0),
 oE (.store 3 (.t 4) (.t 49))]) .ret) (rg [     ])))
(.seq (.seq (rg [oF 50 29 3 2,
 oL 51 31 50,
 oN 52 31 51,
 oO 53 (.move (.c (.int .i64 0)))])
(.block 2 (.loop (.seq (rg [oO 54 (.bin .lss 2 (.t 53) (.t 52))])
(.seq (.cond (.t 54) (.skip) (.exit 2))
(.seq (.block 3 (.seq (rg [oI 55 31 51 53,
 oL 56 32 55,
 oO 11 (.alloc 32),
 oE (.store 32 (.t 11) (.t 56))])
(.seq (rg [oL 57 0 2,
 oF 58 29 3 0,
 oL 59 6 58,
 oL 60 32 11,
 oO 61 (.call 0 (.f 231) [(.t 57),(.t 59),(.t 60)]),
 oO 62 (.call 5 (.f 228) [(.t 61)])])
(.ifp (.t 62) (.seq (rg [ oO 62 (.extract (.t 62) 1),
 oO 62 (.field 44 (.t 62) 0),
 oE (.store 3 (.t 4) (.t 62))]) .ret) (rg [     ])))))
(rg [oO 63 (.bin .add 2 (.t 53) (.c (.int .i64 1))),
 oM 53 63])))))))
(.seq (rg [oE (.store 3 (.t 4) (.c (.int .i64 0)))])
(.ret))))))))))))⟩

def f217 : DFn := ⟨93,[.tmp 6],
 .seq (rg [oO 3 (.box 0 (.t 0)),
 oO 5 (.box 15 (.t 2)),
 oO 6 (.assign (.c (.bool false)))])
(.seq (.seq (rg [oO 11 (.call 0 (.f 212) []),
 oO 12 (.un .not (.t 11))])
(.cond (.t 12) (.seq (rg [oO 6 (.assign (.c (.bool false)))])
(.ret)) (.skip)))
(.seq (.seq (rg [oL 13 0 3,
 oO 14 (.call 0 (.f 2) [(.t 13)]),
 oO 15 (.un .not (.t 14)),
 oM 16 15,
⟨(some 17),.load 15 (.t 5),(some (16,false))⟩,
⟨(some 18),.bslice false 14 1 [(0,(.t 17))],(some (16,false))⟩,
⟨(some 19),.build 0 [(2,(.t 18))],(some (16,false))⟩,
⟨(some 20),.call 0 (.f 2) [(.t 19)],(some (16,false))⟩,
⟨(some 21),.un .not (.t 20),(some (16,false))⟩,
 oO 22 (.pick (.t 16) (.c (.bool true)) (.t 21))])
(.cond (.t 22) (.seq (rg [oO 6 (.assign (.c (.bool true)))])
(.ret)) (.skip)))
(.seq (rg [oL 24 0 3,
 oM 25 1,
 oL 26 15 5,
 oO 27 (.call 0 (.f 214) [(.t 24),(.t 25),(.t 26)]),
 oM 23 27,
 oO 28 (.extract (.t 23) 0),
 oO 29 (.extract (.t 23) 1),
 oO 7 (.alloc 0),
 oE (.store 0 (.t 7) (.t 28)),
 oA 8 29])
(.seq (.seq (rg [oM 30 8,
 oO 31 (.bin .neq 3 (.t 30) (.c (.int .i64 0)))])
(.cond (.t 31) (.seq (rg [oF 32 0 7 2,
 oL 33 14 32,
 oN 34 14 33,
 oO 35 (.bin .eql 2 (.t 34) (.c (.int .i64 0))),
 oM 36 35,
⟨(some 37),.faddr 0 (.t 7) 0,(some (36,true))⟩,
⟨(some 38),.load 10 (.t 37),(some (36,true))⟩,
⟨(some 39),.len 10 (.t 38),(some (36,true))⟩,
⟨(some 40),.bin .eql 2 (.t 39) (.c (.int .i64 0)),(some (36,true))⟩,
 oO 41 (.pick (.t 36) (.t 40) (.c (.bool false))),
 oA 6 41])
(.ret)) (.skip)))
(.seq (.seq (.region true [] [
 oM 42 1,
 oO 43 (.bin .lss 2 (.t 42) (.c (.int .i64 0))),
 oM 44 43,
⟨(some 45),.move (.t 1),(some (44,false))⟩,
⟨(some 46),.faddr 0 (.t 3) 2,(some (44,false))⟩,
⟨(some 47),.load 14 (.t 46),(some (44,false))⟩,
⟨(some 48),.len 14 (.t 47),(some (44,false))⟩,
⟨(some 49),.bin .geq 2 (.t 45) (.t 48),(some (44,false))⟩,
 oO 50 (.pick (.t 44) (.c (.bool true)) (.t 49)),
 oM 51 50,
⟨(some 52),.load 0 (.t 7),(some (51,false))⟩,
⟨(some 53),.call 0 (.f 15) [(.t 52)],(some (51,false))⟩,
⟨(some 54),.bin .neq 3 (.t 53) (.c (.int .i64 0)),(some (51,false))⟩,
 oO 55 (.pick (.t 51) (.c (.bool true)) (.t 54)),
 oM 56 55,
⟨(some 57),.faddr 0 (.t 7) 2,(some (56,false))⟩,
⟨(some 58),.load 14 (.t 57),(some (56,false))⟩,
⟨(some 59),.len 14 (.t 58),(some (56,false))⟩,
⟨(some 60),.faddr 0 (.t 3) 2,(some (56,false))⟩,
⟨(some 61),.load 14 (.t 60),(some (56,false))⟩,
⟨(some 62),.len 14 (.t 61),(some (56,false))⟩,
⟨(some 63),.bin .neq 2 (.t 59) (.t 62),(some (56,false))⟩,
 oO 64 (.pick (.t 56) (.c (.bool true)) (.t 63)),
 oM 65 64,
⟨(some 66),.faddr 0 (.t 7) 2,(some (65,false))⟩,
⟨(some 67),.load 14 (.t 66),(some (65,false))⟩,
⟨(some 68),.move (.t 1),(some (65,false))⟩,
⟨(some 69),.iaddr 14 (.t 67) (.t 68),(some (65,false))⟩,
⟨(some 70),.load 15 (.t 69),(some (65,false))⟩,
⟨(some 71),.load 15 (.t 5),(some (65,false))⟩,
⟨(some 72),.call 0 (.f 218) [(.t 70),(.t 71)],(some (65,false))⟩,
⟨(some 73),.un .not (.t 72),(some (65,false))⟩,
 oO 74 (.pick (.t 65) (.c (.bool true)) (.t 73))])
(.cond (.t 74) (.seq (rg [oO 6 (.assign (.c (.bool false)))])
(.ret)) (.skip)))
(.seq (.region true [] [
 oL 76 0 7,
 oM 77 1,
 oF 78 0 3 2,
 oL 79 14 78,
 oM 80 1,
 oI 81 14 79 80,
 oL 82 15 81,
 oO 83 (.call 0 (.f 214) [(.t 76),(.t 77),(.t 82)]),
 oM 75 83,
 oO 84 (.extract (.t 75) 0),
 oO 85 (.extract (.t 75) 1),
 oO 9 (.alloc 0),
 oE (.store 0 (.t 9) (.t 84)),
 oA 10 85])
(.seq (rg [oM 86 10,
 oO 87 (.bin .eql 3 (.t 86) (.c (.int .i64 0))),
 oM 88 87,
⟨(some 89),.load 0 (.t 9),(some (88,true))⟩,
⟨(some 90),.load 0 (.t 3),(some (88,true))⟩,
⟨(some 91),.call 0 (.f 219) [(.t 89),(.t 90)],(some (88,true))⟩,
 oO 92 (.pick (.t 88) (.t 91) (.c (.bool false))),
 oA 6 92])
(.ret))))))))⟩

def f218 : DFn := ⟨81,[.tmp 4],
 .seq (rg [oO 2 (.box 15 (.t 0)),
 oO 3 (.box 15 (.t 1)),
 oO 4 (.assign (.c (.bool false)))])
(.seq (.seq (rg [oF 8 15 2 0,
 oL 9 2 8,
 oF 10 15 3 0,
 oL 11 2 10,
 oO 12 (.bin .neq 2 (.t 9) (.t 11)),
 oM 13 12,
⟨(some 14),.faddr 15 (.t 2) 1,(some (13,false))⟩,
⟨(some 15),.load 2 (.t 14),(some (13,false))⟩,
⟨(some 16),.faddr 15 (.t 3) 1,(some (13,false))⟩,
⟨(some 17),.load 2 (.t 16),(some (13,false))⟩,
⟨(some 18),.bin .neq 2 (.t 15) (.t 17),(some (13,false))⟩,
 oO 19 (.pick (.t 13) (.c (.bool true)) (.t 18)),
 oM 20 19,
⟨(some 21),.faddr 15 (.t 2) 2,(some (20,false))⟩,
⟨(some 22),.load 6 (.t 21),(some (20,false))⟩,
⟨(some 23),.faddr 15 (.t 3) 2,(some (20,false))⟩,
⟨(some 24),.load 6 (.t 23),(some (20,false))⟩,
⟨(some 25),.call 0 (.f 20) [(.t 22),(.t 24)],(some (20,false))⟩,
⟨(some 26),.un .not (.t 25),(some (20,false))⟩,
 oO 27 (.pick (.t 20) (.c (.bool true)) (.t 26)),
 oM 28 27,
⟨(some 29),.faddr 15 (.t 2) 3,(some (28,false))⟩,
⟨(some 30),.load 16 (.t 29),(some (28,false))⟩,
⟨(some 31),.len 16 (.t 30),(some (28,false))⟩,
⟨(some 32),.faddr 15 (.t 3) 3,(some (28,false))⟩,
⟨(some 33),.load 16 (.t 32),(some (28,false))⟩,
⟨(some 34),.len 16 (.t 33),(some (28,false))⟩,
⟨(some 35),.bin .neq 2 (.t 31) (.t 34),(some (28,false))⟩,
 oO 36 (.pick (.t 28) (.c (.bool true)) (.t 35))])
(.cond (.t 36) (.seq (rg [oO 4 (.assign (.c (.bool false)))])
(.ret)) (.skip)))
(.seq (.seq (rg [oO 5 (.assign (.c (.int .i64 0)))])
(.block 0 (.loop (.seq (.seq (rg [oM 37 5,
 oF 38 15 2 3,
 oL 39 16 38,
 oN 40 16 39,
 oO 41 (.bin .lss 2 (.t 37) (.t 40))])
(.cond (.t 41) (.skip) (.exit 0)))
(.seq (.block 1 (.seq (rg [oF 44 15 2 3,
 oL 45 16 44,
 oM 46 5,
 oI 47 16 45 46,
 oL 48 17 47,
 oO 6 (.alloc 17),
 oE (.store 17 (.t 6) (.t 48))])
(.seq (rg [oF 49 15 3 3,
 oL 50 16 49,
 oM 51 5,
 oI 52 16 50 51,
 oL 53 17 52,
 oO 7 (.alloc 17),
 oE (.store 17 (.t 7) (.t 53))])
(.seq (rg [oF 54 17 6 0,
 oL 55 2 54,
 oF 56 17 7 0,
 oL 57 2 56,
 oO 58 (.bin .neq 2 (.t 55) (.t 57)),
 oM 59 58,
⟨(some 60),.faddr 17 (.t 6) 1,(some (59,false))⟩,
⟨(some 61),.load 2 (.t 60),(some (59,false))⟩,
⟨(some 62),.faddr 17 (.t 7) 1,(some (59,false))⟩,
⟨(some 63),.load 2 (.t 62),(some (59,false))⟩,
⟨(some 64),.bin .neq 2 (.t 61) (.t 63),(some (59,false))⟩,
 oO 65 (.pick (.t 59) (.c (.bool true)) (.t 64)),
 oM 66 65,
⟨(some 67),.faddr 17 (.t 6) 2,(some (66,false))⟩,
⟨(some 68),.load 2 (.t 67),(some (66,false))⟩,
⟨(some 69),.faddr 17 (.t 7) 2,(some (66,false))⟩,
⟨(some 70),.load 2 (.t 69),(some (66,false))⟩,
⟨(some 71),.bin .neq 2 (.t 68) (.t 70),(some (66,false))⟩,
 oO 72 (.pick (.t 66) (.c (.bool true)) (.t 71)),
 oM 73 72,
⟨(some 74),.faddr 17 (.t 6) 3,(some (73,false))⟩,
⟨(some 75),.load 18 (.t 74),(some (73,false))⟩,
⟨(some 76),.faddr 17 (.t 7) 3,(some (73,false))⟩,
⟨(some 77),.load 18 (.t 76),(some (73,false))⟩,
⟨(some 78),.call 0 (.f 232) [(.t 75),(.t 77)],(some (73,false))⟩,
⟨(some 79),.un .not (.t 78),(some (73,false))⟩,
 oO 80 (.pick (.t 73) (.c (.bool true)) (.t 79))])
(.cond (.t 80) (.seq (rg [oO 4 (.assign (.c (.bool false)))])
(.ret)) (.skip))))))
(rg [oM 42 5,
 oO 43 (.bin .add 2 (.t 42) (.c (.int .i64 1))),
 oA 5 43]))))))
(.seq (rg [oO 4 (.assign (.c (.bool true)))])
(.ret))))⟩

def f219 : DFn := ⟨89,[.tmp 4],
 .seq (rg [oO 2 (.box 0 (.t 0)),
 oO 3 (.box 0 (.t 1)),
 oO 4 (.assign (.c (.bool false)))])
(.seq (.seq (rg [oF 8 0 2 0,
 oL 9 10 8,
 oN 10 10 9,
 oF 11 0 3 0,
 oL 12 10 11,
 oN 13 10 12,
 oO 14 (.bin .neq 2 (.t 10) (.t 13)),
 oM 15 14,
⟨(some 16),.faddr 0 (.t 2) 1,(some (15,false))⟩,
⟨(some 17),.load 9 (.t 16),(some (15,false))⟩,
⟨(some 18),.len 9 (.t 17),(some (15,false))⟩,
⟨(some 19),.faddr 0 (.t 3) 1,(some (15,false))⟩,
⟨(some 20),.load 9 (.t 19),(some (15,false))⟩,
⟨(some 21),.len 9 (.t 20),(some (15,false))⟩,
⟨(some 22),.bin .neq 2 (.t 18) (.t 21),(some (15,false))⟩,
 oO 23 (.pick (.t 15) (.c (.bool true)) (.t 22)),
 oM 24 23,
⟨(some 25),.faddr 0 (.t 2) 2,(some (24,false))⟩,
⟨(some 26),.load 14 (.t 25),(some (24,false))⟩,
⟨(some 27),.len 14 (.t 26),(some (24,false))⟩,
⟨(some 28),.faddr 0 (.t 3) 2,(some (24,false))⟩,
⟨(some 29),.load 14 (.t 28),(some (24,false))⟩,
⟨(some 30),.len 14 (.t 29),(some (24,false))⟩,
⟨(some 31),.bin .neq 2 (.t 27) (.t 30),(some (24,false))⟩,
 oO 32 (.pick (.t 24) (.c (.bool true)) (.t 31))])
(.cond (.t 32) (.seq (rg [oO 4 (.assign (.c (.bool false)))])
(.ret)) (.skip)))
(.seq (.seq (rg [oO 5 (.assign (.c (.int .i64 0)))])
(.block 0 (.loop (.seq (.seq (rg [oM 33 5,
 oF 34 0 2 0,
 oL 35 10 34,
 oN 36 10 35,
 oO 37 (.bin .lss 2 (.t 33) (.t 36))])
(.cond (.t 37) (.skip) (.exit 0)))
(.seq (.block 1 (.seq (.region true [] [
 oF 40 0 2 0,
 oL 41 10 40,
 oM 42 5,
 oI 43 10 41 42,
 oL 44 20 43,
 oF 45 0 3 0,
 oL 46 10 45,
 oM 47 5,
 oI 48 10 46 47,
 oL 49 20 48,
 oO 50 (.bin .neq 20 (.t 44) (.t 49))])
(.cond (.t 50) (.seq (rg [oO 4 (.assign (.c (.bool false)))])
(.ret)) (.skip))))
(rg [oM 38 5,
 oO 39 (.bin .add 2 (.t 38) (.c (.int .i64 1))),
 oA 5 39]))))))
(.seq (.seq (rg [oO 6 (.assign (.c (.int .i64 0)))])
(.block 2 (.loop (.seq (.seq (rg [oM 51 6,
 oF 52 0 2 1,
 oL 53 9 52,
 oN 54 9 53,
 oO 55 (.bin .lss 2 (.t 51) (.t 54))])
(.cond (.t 55) (.skip) (.exit 2)))
(.seq (.block 3 (.seq (.region true [] [
 oF 58 0 2 1,
 oL 59 9 58,
 oM 60 6,
 oI 61 9 59 60,
 oL 62 6 61,
 oF 63 0 3 1,
 oL 64 9 63,
 oM 65 6,
 oI 66 9 64 65,
 oL 67 6 66,
 oO 68 (.call 0 (.f 20) [(.t 62),(.t 67)]),
 oO 69 (.un .not (.t 68))])
(.cond (.t 69) (.seq (rg [oO 4 (.assign (.c (.bool false)))])
(.ret)) (.skip))))
(rg [oM 56 6,
 oO 57 (.bin .add 2 (.t 56) (.c (.int .i64 1))),
 oA 6 57]))))))
(.seq (.seq (rg [oO 7 (.assign (.c (.int .i64 0)))])
(.block 4 (.loop (.seq (.seq (rg [oM 70 7,
 oF 71 0 2 2,
 oL 72 14 71,
 oN 73 14 72,
 oO 74 (.bin .lss 2 (.t 70) (.t 73))])
(.cond (.t 74) (.skip) (.exit 4)))
(.seq (.block 5 (.seq (.region true [] [
 oF 77 0 2 2,
 oL 78 14 77,
 oM 79 7,
 oI 80 14 78 79,
 oL 81 15 80,
 oF 82 0 3 2,
 oL 83 14 82,
 oM 84 7,
 oI 85 14 83 84,
 oL 86 15 85,
 oO 87 (.call 0 (.f 218) [(.t 81),(.t 86)]),
 oO 88 (.un .not (.t 87))])
(.cond (.t 88) (.seq (rg [oO 4 (.assign (.c (.bool false)))])
(.ret)) (.skip))))
(rg [oM 75 7,
 oO 76 (.bin .add 2 (.t 75) (.c (.int .i64 1))),
 oA 7 76]))))))
(.seq (rg [oO 4 (.assign (.c (.bool true)))])
(.ret))))))⟩

def f220 : DFn := ⟨147,[.tmp 4],
 .seq (rg [oO 2 (.box 0 (.t 0)),
 oO 4 (.assign (.c (.bool false)))])
(.seq (.seq (rg [oO 18 (.call 0 (.f 212) []),
 oO 19 (.un .not (.t 18))])
(.cond (.t 19) (.seq (rg [oO 4 (.assign (.c (.bool false)))])
(.ret)) (.skip)))
(.seq (.seq (rg [oL 20 0 2,
 oO 21 (.call 0 (.f 129) [(.t 20)]),
 oO 22 (.un .not (.t 21)),
 oM 23 22,
⟨(some 24),.faddr 0 (.t 2) 2,(some (23,false))⟩,
⟨(some 25),.load 14 (.t 24),(some (23,false))⟩,
⟨(some 26),.len 14 (.t 25),(some (23,false))⟩,
⟨(some 27),.bin .eql 2 (.t 26) (.c (.int .i64 0)),(some (23,false))⟩,
 oO 28 (.pick (.t 23) (.c (.bool true)) (.t 27))])
(.cond (.t 28) (.seq (rg [oO 4 (.assign (.c (.bool true)))])
(.ret)) (.skip)))
(.seq (rg [oL 30 0 2,
 oO 31 (.build 29 []),
 oO 32 (.call 0 (.f 215) [(.t 30),(.t 31)]),
 oM 29 32,
 oO 33 (.extract (.t 29) 0),
 oO 34 (.extract (.t 29) 1),
 oO 5 (.alloc 29),
 oE (.store 29 (.t 5) (.t 33)),
 oA 6 34])
(.seq (.seq (rg [oM 35 6,
 oO 36 (.bin .neq 3 (.t 35) (.c (.int .i64 0)))])
(.cond (.t 36) (.seq (rg [oF 37 29 5 0,
 oL 38 6 37,
 oN 39 6 38,
 oO 40 (.bin .eql 2 (.t 39) (.c (.int .i64 0))),
 oA 4 40])
(.ret)) (.skip)))
(.seq (rg [oM 41 1,
 oO 42 (.conv 13 2 (.t 41)),
 oF 43 0 2 2,
 oL 44 14 43,
 oN 45 14 44,
 oO 46 (.bin .rem 2 (.t 42) (.t 45)),
 oA 7 46])
(.seq (rg [oF 47 0 2 2,
 oL 48 14 47,
 oM 49 7,
 oI 50 14 48 49,
 oL 51 15 50,
 oO 8 (.alloc 15),
 oE (.store 15 (.t 8) (.t 51))])
(.seq (rg [oF 52 15 8 3,
 oL 53 16 52,
 oN 54 16 53,
 oA 9 54])
(.seq (.seq (rg [oM 55 9,
 oO 56 (.bin .lss 2 (.t 55) (.c (.int .i64 2))),
 oM 57 56,
⟨(some 58),.faddr 29 (.t 5) 0,(some (57,false))⟩,
⟨(some 59),.load 6 (.t 58),(some (57,false))⟩,
⟨(some 60),.len 6 (.t 59),(some (57,false))⟩,
⟨(some 61),.faddr 0 (.t 2) 2,(some (57,false))⟩,
⟨(some 62),.load 14 (.t 61),(some (57,false))⟩,
⟨(some 63),.len 14 (.t 62),(some (57,false))⟩,
⟨(some 64),.bin .neq 2 (.t 60) (.t 63),(some (57,false))⟩,
 oO 65 (.pick (.t 57) (.c (.bool true)) (.t 64))])
(.cond (.t 65) (.seq (rg [oM 66 9,
 oO 67 (.bin .lss 2 (.t 66) (.c (.int .i64 2))),
 oA 4 67])
(.ret)) (.skip)))
(.seq (rg [oF 68 15 8 3,
 oL 69 16 68,
 oM 70 9,
 oO 71 (.bin .sub 2 (.t 70) (.c (.int .i64 1))),
 oM 72 9,
 oO 73 (.bin .sub 2 (.t 72) (.c (.int .i64 1))),
 oO 74 (.slice 16 (.t 69) none (some (.t 71)) (some (.t 73))),
 oF 75 15 8 3,
 oE (.store 16 (.t 75) (.t 74))])
(.seq (rg [oL 77 0 2,
 oM 78 7,
 oL 79 15 8,
 oO 80 (.call 0 (.f 214) [(.t 77),(.t 78),(.t 79)]),
 oM 76 80,
 oO 81 (.extract (.t 76) 0),
 oO 82 (.extract (.t 76) 1),
 oO 10 (.alloc 0),
 oE (.store 0 (.t 10) (.t 81)),
 oA 11 82])
(.seq (rg [oL 84 0 10,
 oL 85 29 5,
 oO 86 (.call 0 (.f 215) [(.t 84),(.t 85)]),
 oM 83 86,
 oO 87 (.extract (.t 83) 0),
 oO 88 (.extract (.t 83) 1),
 oO 12 (.alloc 29),
 oE (.store 29 (.t 12) (.t 87)),
 oA 13 88])
(.seq (.seq (rg [oM 89 11,
 oO 90 (.bin .neq 3 (.t 89) (.c (.int .i64 0))),
 oM 91 90,
⟨(some 92),.move (.t 13),(some (91,false))⟩,
⟨(some 93),.bin .neq 3 (.t 92) (.c (.int .i64 0)),(some (91,false))⟩,
 oO 94 (.pick (.t 91) (.c (.bool true)) (.t 93))])
(.cond (.t 94) (.seq (rg [oO 4 (.assign (.c (.bool false)))])
(.ret)) (.skip)))
(.seq (.seq (rg [oF 95 29 5 0,
 oL 96 6 95,
 oM 97 7,
 oI 98 6 96 97,
 oL 99 2 98,
 oM 100 9,
 oO 101 (.bin .sub 2 (.t 100) (.c (.int .i64 1))),
 oO 102 (.bin .lss 2 (.t 99) (.t 101))])
(.cond (.t 102) (.seq (rg [oF 103 29 12 0,
 oL 104 6 103,
 oF 105 29 5 0,
 oL 106 6 105,
 oO 107 (.call 0 (.f 20) [(.t 104),(.t 106)]),
 oM 108 107,
⟨(some 109),.faddr 29 (.t 12) 1,(some (108,true))⟩,
⟨(some 110),.load 6 (.t 109),(some (108,true))⟩,
⟨(some 111),.faddr 29 (.t 5) 1,(some (108,true))⟩,
⟨(some 112),.load 6 (.t 111),(some (108,true))⟩,
⟨(some 113),.call 0 (.f 20) [(.t 110),(.t 112)],(some (108,true))⟩,
 oO 114 (.pick (.t 108) (.t 113) (.c (.bool false))),
 oA 4 114])
(.ret)) (.skip)))
(.seq (rg [oL 116 0 2,
 oF 117 29 12 0,
 oL 118 6 117,
 oO 119 (.call 0 (.f 22) [(.t 116),(.t 118)]),
 oM 115 119,
 oO 120 (.extract (.t 115) 0),
 oO 121 (.extract (.t 115) 1),
 oA 14 120,
 oA 15 121])
(.seq (rg [oL 123 0 2,
 oF 124 29 12 0,
 oL 125 6 124,
 oF 126 29 5 0,
 oL 127 6 126,
 oO 128 (.call 0 (.f 24) [(.t 123),(.t 125),(.t 127)]),
 oM 122 128,
 oO 129 (.extract (.t 122) 0),
 oO 130 (.extract (.t 122) 1),
 oA 16 129,
 oA 17 130])
(.seq (rg [oM 131 15,
 oO 132 (.bin .eql 3 (.t 131) (.c (.int .i64 0))),
 oM 133 132,
⟨(some 134),.move (.t 17),(some (133,true))⟩,
⟨(some 135),.bin .eql 3 (.t 134) (.c (.int .i64 0)),(some (133,true))⟩,
 oO 136 (.pick (.t 133) (.t 135) (.c (.bool false))),
 oM 137 136,
⟨(some 138),.move (.t 16),(some (137,true))⟩,
⟨(some 139),.un .not (.t 138),(some (137,true))⟩,
 oO 140 (.pick (.t 137) (.t 139) (.c (.bool false))),
 oM 141 140,
⟨(some 142),.move (.t 14),(some (141,true))⟩,
⟨(some 143),.faddr 29 (.t 12) 1,(some (141,true))⟩,
⟨(some 144),.load 6 (.t 143),(some (141,true))⟩,
⟨(some 145),.call 0 (.f 20) [(.t 142),(.t 144)],(some (141,true))⟩,
 oO 146 (.pick (.t 141) (.t 145) (.c (.bool false))),
 oA 4 146])
(.ret)))))))))))))))))⟩

def f221 : DFn := ⟨28,[.cell 0 0],
 .seq (rg [oO 0 (.alloc 0)])
(.seq (rg [oO 5 (.build 20 [(2,(.c (.int .i64 9)))]),
 oO 1 (.alloc 20),
 oE (.store 20 (.t 1) (.t 5))])
(.seq (rg [oL 6 20 1,
 oO 7 (.build 19 [(0,(.t 6)),(1,(.c (.int .i64 1)))]),
 oO 8 (.bslice false 18 1 [(0,(.t 7))]),
 oO 9 (.build 17 [(3,(.t 8))]),
 oO 2 (.alloc 17),
 oE (.store 17 (.t 2) (.t 9))])
(.seq (rg [oO 10 (.bslice false 6 1 [(0,(.c (.int .i64 0)))]),
 oL 11 17 2,
 oO 12 (.build 17 [(0,(.c (.int .i64 10))),(1,(.c (.int .i64 3)))]),
 oO 13 (.bslice false 16 2 [(0,(.t 11)),(1,(.t 12))]),
 oO 14 (.build 15 [(2,(.t 10)),(3,(.t 13))]),
 oO 3 (.alloc 15),
 oE (.store 15 (.t 3) (.t 14))])
(.seq (rg [oO 15 (.bslice false 6 1 [(0,(.c (.int .i64 0)))]),
 oL 16 17 2,
 oO 17 (.build 17 [(0,(.c (.int .i64 10))),(1,(.c (.int .i64 5)))]),
 oO 18 (.bslice false 16 2 [(0,(.t 16)),(1,(.t 17))]),
 oO 19 (.build 15 [(2,(.t 15)),(3,(.t 18))]),
 oO 4 (.alloc 15),
 oE (.store 15 (.t 4) (.t 19))])
(.seq (rg [oL 20 20 1,
 oO 21 (.bslice false 10 1 [(0,(.t 20))]),
 oO 22 (.bslice false 6 1 [(0,(.c (.int .i64 1)))]),
 oO 23 (.bslice false 9 1 [(0,(.t 22))]),
 oL 24 15 3,
 oL 25 15 4,
 oO 26 (.bslice false 14 2 [(0,(.t 24)),(1,(.t 25))]),
 oO 27 (.build 0 [(0,(.t 21)),(1,(.t 23)),(2,(.t 26))]),
 oE (.store 0 (.t 0) (.t 27))])
(.ret))))))⟩

def f222 : DFn := ⟨16,[.tmp 4,.tmp 5],
 .seq (rg [oO 2 (.box 0 (.t 0)),
 oO 3 (.box 29 (.t 1)),
 oO 4 (.assign (.c (.bool false))),
 oO 5 (.assign (.c (.int .i64 0)))])
(.seq (.seq (rg [oL 7 0 2,
 oO 8 (.call 0 (.f 15) [(.t 7)]),
 oA 6 8])
(.seq (rg [oM 9 6,
 oO 10 (.bin .neq 3 (.t 9) (.c (.int .i64 0)))])
(.cond (.t 10) (.seq (rg [oM 11 6,
 oO 4 (.assign (.c (.bool false))),
 oA 5 11])
(.ret)) (.skip))))
(.seq (rg [oL 12 0 2,
 oL 13 29 3,
 oO 14 (.call 0 (.f 216) [(.t 12),(.t 13)]),
 oO 15 (.bin .eql 3 (.t 14) (.c (.int .i64 0))),
 oA 4 15,
 oO 5 (.assign (.c (.int .i64 0)))])
(.ret)))⟩

def f223 : DFn := ⟨28,[.tmp 2],
 .seq (rg [oO 1 (.box 32 (.t 0)),
 oO 2 (.assign (.c (.bool false)))])
(.seq (.seq (rg [oO 3 (.assign (.c (.int .i64 0)))])
(.block 0 (.loop (.seq (.seq (rg [oM 4 3,
 oF 5 32 1 2,
 oL 6 9 5,
 oN 7 9 6,
 oO 8 (.bin .lss 2 (.t 4) (.t 7))])
(.cond (.t 8) (.skip) (.exit 0)))
(.seq (.block 1 (.seq (rg [oF 11 32 1 2,
 oL 12 9 11,
 oM 13 3,
 oI 14 9 12 13,
 oL 15 6 14,
 oN 16 6 15,
 oO 17 (.bin .gtr 2 (.t 16) (.c (.int .i64 20)))])
(.cond (.t 17) (.seq (rg [oO 2 (.assign (.c (.bool false)))])
(.ret)) (.skip))))
(rg [oM 9 3,
 oO 10 (.bin .add 2 (.t 9) (.c (.int .i64 1))),
 oA 3 10]))))))
(.seq (rg [oF 18 32 1 0,
 oL 19 1 18,
 oN 20 1 19,
 oO 21 (.bin .leq 2 (.t 20) (.c (.int .i64 20))),
 oM 22 21,
⟨(some 23),.faddr 32 (.t 1) 2,(some (22,true))⟩,
⟨(some 24),.load 9 (.t 23),(some (22,true))⟩,
⟨(some 25),.len 9 (.t 24),(some (22,true))⟩,
⟨(some 26),.bin .leq 2 (.t 25) (.c (.int .i64 8)),(some (22,true))⟩,
 oO 27 (.pick (.t 22) (.t 26) (.c (.bool false))),
 oA 2 27])
(.ret)))⟩

def f224 : DFn := ⟨23,[.cell 6 0],
 .seq (rg [oO 3 (.box 0 (.t 0)),
 oO 6 (.alloc 0)])
(.seq (.region true [] [
 oF 7 0 3 2,
 oL 8 14 7,
 oM 9 1,
 oO 10 (.slice 14 (.t 8) none (some (.t 9)) none),
 oM 11 2,
 oF 12 0 3 2,
 oL 13 14 12,
 oM 14 1,
 oM 15 2,
 oN 16 14 15,
 oO 17 (.bin .add 2 (.t 14) (.t 16)),
 oO 18 (.slice 14 (.t 13) (some (.t 17)) none none),
 oO 19 (.bslice false 45 3 [(0,(.t 10)),(1,(.t 11)),(2,(.t 18))]),
 oO 20 (.call 0 (.f 233) [(.t 19)]),
 oF 21 0 3 2,
 oE (.store 14 (.t 21) (.t 20))])
(.seq (rg [oL 22 0 3,
 oE (.store 0 (.t 6) (.t 22))])
(.ret)))⟩

def f225 : DFn := ⟨59,[],
 .seq (rg [oL 8 0 1,
 oM 9 0,
 oO 10 (.call 0 (.f 22) [(.t 8),(.t 9)]),
 oM 7 10,
 oO 11 (.extract (.t 7) 0),
 oO 12 (.extract (.t 7) 1),
 oA 4 11,
 oA 5 12])
(.seq (.seq (rg [oM 13 5,
 oO 14 (.bin .neq 3 (.t 13) (.c (.int .i64 0)))])
(.cond (.t 14) (.ret) (.skip)))
(.seq (rg [oM 15 4,
 oL 16 42 2,
 oO 17 (.nilc (.t 16)),
 oF 18 41 17 1,
 oF 19 29 18 1,
 oL 20 6 19,
 oO 21 (.call 0 (.f 87) [(.t 15),(.t 20)]),
 oA 6 21])
(.seq (rg [oL 22 42 2,
 oO 23 (.nilc (.t 22)),
 oF 24 41 23 2,
 oL 25 7 24,
 oO 26 (.un .not (.t 25)),
 oM 27 26,
⟨(some 28),.move (.t 6),(some (27,false))⟩,
⟨(some 29),.bin .lss 2 (.t 28) (.c (.int .i64 0)),(some (27,false))⟩,
 oO 30 (.pick (.t 27) (.c (.bool true)) (.t 29)),
 oM 31 30,
⟨(some 32),.move (.t 6),(some (31,false))⟩,
⟨(some 33),.bin .eql 2 (.t 32) (.c (.int .i64 0)),(some (31,false))⟩,
⟨(some 34),.move (.t 33),(some (31,false))⟩,
⟨(some 35),.move (.t 0),(some (34,true))⟩,
⟨(some 36),.load 42 (.t 2),(some (34,true))⟩,
⟨(some 37),.nilc (.t 36),(some (34,true))⟩,
⟨(some 38),.faddr 41 (.t 37) 1,(some (34,true))⟩,
⟨(some 39),.faddr 29 (.t 38) 0,(some (34,true))⟩,
⟨(some 40),.load 6 (.t 39),(some (34,true))⟩,
⟨(some 41),.call 0 (.f 87) [(.t 35),(.t 40)],(some (34,true))⟩,
⟨(some 42),.bin .lss 2 (.t 41) (.c (.int .i64 0)),(some (34,true))⟩,
⟨(some 43),.pick (.t 34) (.t 42) (.c (.bool false)),(some (31,false))⟩,
 oO 44 (.pick (.t 31) (.c (.bool true)) (.t 43))])
(.cond (.t 44) (.region true [(1,9),(2,9),(2,13)] [
 oL 45 42 2,
 oL 46 42 2,
 oL 47 42 2,
 oM 48 0,
 oO 49 (.call 0 (.f 96) [(.t 48)]),
 oM 50 4,
 oO 51 (.nilc (.t 45)),
 oF 52 41 51 1,
 oF 53 29 52 0,
 oE (.store 6 (.t 53) (.t 49)),
 oO 54 (.nilc (.t 46)),
 oF 55 41 54 1,
 oF 56 29 55 1,
 oE (.store 6 (.t 56) (.t 50)),
 oO 57 (.nilc (.t 47)),
 oF 58 41 57 2,
 oE (.store 7 (.t 58) (.c (.bool true)))]) (.skip)))))⟩

def f226 : DFn := ⟨57,[],
 .seq (.seq (rg [oM 8 1,
 oN 9 1 8,
 oM 10 0,
 oO 11 (.nilc (.t 10)),
 oF 12 41 11 0,
 oF 13 0 12 2,
 oL 14 14 13,
 oN 15 14 14,
 oO 16 (.bin .eql 2 (.t 9) (.t 15))])
(.cond (.t 16) (.seq (rg [oM 17 0,
 oO 18 (.nilc (.t 17)),
 oF 19 41 18 3,
 oL 20 43 19,
 oM 21 1,
 oO 22 (.call 2 (.t 20) [(.t 21)])])
(.seq (rg [oM 23 0,
 oM 24 1,
 oO 25 (.call 2 (.f 234) [(.t 23),(.t 24),(.c (.int .i64 1))])])
(.ret))) (.skip)))
(.seq (.seq (rg [oM 26 0,
 oO 27 (.nilc (.t 26)),
 oF 28 41 27 2,
 oL 29 7 28,
 oM 30 29,
⟨(some 31),.move (.t 0),(some (30,true))⟩,
⟨(some 32),.move (.t 1),(some (30,true))⟩,
⟨(some 33),.call 2 (.f 235) [(.t 31),(.t 32)],(some (30,true))⟩,
 oO 34 (.pick (.t 30) (.t 33) (.c (.bool false)))])
(.cond (.t 34) (.seq (rg [oM 35 0,
 oM 36 1,
 oO 37 (.call 2 (.f 234) [(.t 35),(.t 36),(.c (.int .i64 2))])])
(.ret)) (.skip)))
(.seq (rg [oM 39 0,
 oO 40 (.nilc (.t 39)),
 oF 41 41 40 0,
 oL 42 0 41,
 oM 43 1,
 oO 44 (.call 0 (.f 7) [(.t 42),(.t 43)]),
 oM 38 44,
 oO 45 (.extract (.t 38) 0),
 oO 46 (.extract (.t 38) 1),
 oA 4 45,
 oA 5 46])
(.seq (rg [oM 47 4,
 oN 48 4 47,
 oO 49 (.move (.c (.int .i64 0)))])
(.block 0 (.loop (.seq (rg [oO 50 (.bin .lss 2 (.t 49) (.t 48))])
(.seq (.cond (.t 50) (.skip) (.exit 0))
(.seq (.block 1 (.seq (rg [oI 51 4 47 49,
 oL 52 1 51,
 oA 7 52])
(rg [oM 53 0,
 oM 54 7,
 oO 55 (.call 2 (.f 226) [(.t 53),(.t 54)])])))
(rg [oO 56 (.bin .add 2 (.t 49) (.c (.int .i64 1))),
 oM 49 56])))))))))⟩

def f228 : DFn := ⟨6,[],
 .seq (rg [oM 2 0,
 oO 3 (.bin .eql 3 (.t 2) (.c (.int .i64 0))),
 oM 4 0,
 oO 5 (.call 5 (.f 229) [(.t 3),(.t 4)])])
(.ifp (.t 5) (.exit 1000005) (rg [     ]))⟩

def f229 : DFn := ⟨9,[],
 .seq (rg [oM 4 0,
 oO 5 (.un .not (.t 4))])
(.cond (.t 5) (.seq (rg [oM 6 1,
 oO 7 (.build 44 [(0,(.t 6))]),
 oO 8 (.mark true (.t 7))])
(.exit 1000008)) (.skip))⟩

def f230 : DFn := ⟨19,[.tmp 4,.tmp 5],
 .seq (rg [oO 2 (.box 0 (.t 0)),
 oO 4 (.assign (.c (.bool false))),
 oO 5 (.assign (.c (.int .i64 0)))])
(.seq (.seq (rg [oL 7 0 2,
 oO 8 (.call 0 (.f 15) [(.t 7)]),
 oA 5 8])
(.seq (rg [oM 9 5,
 oO 10 (.bin .neq 3 (.t 9) (.c (.int .i64 0)))])
(.cond (.t 10) (.seq (rg [oM 11 5,
 oO 4 (.assign (.c (.bool false))),
 oA 5 11])
(.ret)) (.skip))))
(.seq (.seq (rg [oM 12 1,
 oO 13 (.mkfn 237 [(.t 2)]),
 oO 14 (.call 3 (.f 159) [(.t 12),(.t 13)])])
(.cond (.t 14) (.seq (rg [oO 4 (.assign (.c (.bool false))),
 oO 5 (.assign (.c (.int .i64 310)))])
(.ret)) (.skip)))
(.seq (rg [oO 6 (.alloc 47)])
(.seq (rg [oO 15 (.mkfn 238 [(.t 2),(.t 6)]),
 oE (.store 47 (.t 6) (.t 15))])
(.seq (rg [oL 16 47 6,
 oM 17 1,
 oO 18 (.call 2 (.t 16) [(.t 17),(.c (.int .i64 0))]),
 oA 4 18,
 oO 5 (.assign (.c (.int .i64 0)))])
(.ret))))))⟩

def f231 : DFn := ⟨47,[.cell 6 3],
 .seq (rg [oO 3 (.box 0 (.t 0)),
 oO 5 (.box 32 (.t 2)),
 oO 6 (.alloc 3)])
(.seq (rg [oO 9 (.mkfn 239 [(.t 6)])])
(.seq (rg [oL 11 0 3,
 oM 12 1,
 oO 13 (.call 0 (.f 22) [(.t 11),(.t 12)]),
 oM 10 13,
 oO 14 (.extract (.t 10) 0),
 oO 15 (.extract (.t 10) 1),
 oA 7 14,
 oE (.store 3 (.t 6) (.t 15))])
(.seq (.seq (rg [oL 16 3 6,
 oO 17 (.call 5 (.f 228) [(.t 16)])])
(.ifp (.t 17) (.seq (rg [ oO 17 (.extract (.t 17) 1),
 oO 17 (.field 44 (.t 17) 0),
 oE (.store 3 (.t 6) (.t 17))]) .ret) (rg [     ])))
(.seq (.seq (rg [oL 18 0 3,
 oF 19 32 5 0,
 oL 20 1 19,
 oO 21 (.call 0 (.f 240) [(.t 18),(.t 20)]),
 oM 22 21,
⟨(some 23),.faddr 32 (.t 5) 1,(some (22,true))⟩,
⟨(some 24),.load 2 (.t 23),(some (22,true))⟩,
⟨(some 25),.bin .geq 2 (.t 24) (.c (.int .i64 1)),(some (22,true))⟩,
 oO 26 (.pick (.t 22) (.t 25) (.c (.bool false))),
 oM 27 26,
⟨(some 28),.faddr 32 (.t 5) 1,(some (27,true))⟩,
⟨(some 29),.load 2 (.t 28),(some (27,true))⟩,
⟨(some 30),.bin .leq 2 (.t 29) (.c (.int .i64 3)),(some (27,true))⟩,
 oO 31 (.pick (.t 27) (.t 30) (.c (.bool false))),
 oO 32 (.call 5 (.f 229) [(.t 31),(.c (.int .i64 310))])])
(.ifp (.t 32) (.seq (rg [ oO 32 (.extract (.t 32) 1),
 oO 32 (.field 44 (.t 32) 0),
 oE (.store 3 (.t 6) (.t 32))]) .ret) (rg [     ])))
(.seq (rg [oO 8 (.alloc 48)])
(.seq (rg [oO 33 (.build 49 [(1,(.f 241)),(2,(.f 242)),(3,(.f 243))]),
 oF 34 48 8 0,
 oE (.store 49 (.t 34) (.t 33))])
(.seq (.seq (.region true [] [
 oF 35 32 5 1,
 oL 36 2 35,
 oF 37 48 8 0,
 oI 38 49 37 36,
 oL 39 50 38,
 oL 40 0 3,
 oM 41 1,
 oM 42 7,
 oO 43 (.build 51 [(0,(.t 40)),(1,(.t 41)),(2,(.t 42))]),
 oL 44 32 5])
(.seq (rg [oO 45 (.call 5 (.t 39) [(.t 43),(.t 44)])])
(.ifp (.t 45) (.seq (rg [ oO 45 (.extract (.t 45) 1),
 oO 45 (.field 44 (.t 45) 0),
 oE (.store 3 (.t 6) (.t 45))]) .ret) (.seq (rg [oO 46 (.call 5 (.f 229) [(.t 45),(.c (.int .i64 310))])])
(.ifp (.t 46) (.seq (rg [ oO 46 (.extract (.t 46) 1),
 oO 46 (.field 44 (.t 46) 0),
 oE (.store 3 (.t 6) (.t 46))]) .ret) .skip)))))
(.seq (rg [oE (.store 3 (.t 6) (.c (.int .i64 0)))])
(.ret)))))))))⟩

def f232 : DFn := ⟨26,[.tmp 4],
 .seq (rg [oO 4 (.assign (.c (.bool false)))])
(.seq (.seq (rg [oM 6 0,
 oN 7 18 6,
 oM 8 1,
 oN 9 18 8,
 oO 10 (.bin .neq 2 (.t 7) (.t 9))])
(.cond (.t 10) (.seq (rg [oO 4 (.assign (.c (.bool false)))])
(.ret)) (.skip)))
(.seq (.seq (rg [oO 5 (.assign (.c (.int .i64 0)))])
(.block 0 (.loop (.seq (.seq (rg [oM 11 5,
 oM 12 0,
 oN 13 18 12,
 oO 14 (.bin .lss 2 (.t 11) (.t 13))])
(.cond (.t 14) (.skip) (.exit 0)))
(.seq (.block 1 (.seq (.region true [] [
 oM 17 0,
 oM 18 5,
 oI 19 18 17 18,
 oL 20 19 19,
 oM 21 1,
 oM 22 5,
 oI 23 18 21 22,
 oL 24 19 23,
 oO 25 (.bin .neq 19 (.t 20) (.t 24))])
(.cond (.t 25) (.seq (rg [oO 4 (.assign (.c (.bool false)))])
(.ret)) (.skip))))
(rg [oM 15 5,
 oO 16 (.bin .add 2 (.t 15) (.c (.int .i64 1))),
 oA 5 16]))))))
(.seq (rg [oO 4 (.assign (.c (.bool true)))])
(.ret))))⟩

def f233 : DFn := ⟨36,[.tmp 2],
 .seq (rg [oO 2 (.assign (.c (.imm .exact [])))])
(.seq (rg [oO 3 (.assign (.c (.int .i64 0)))])
(.seq (.seq (rg [oM 9 0,
 oN 10 45 9,
 oO 11 (.move (.c (.int .i64 0)))])
(.block 0 (.loop (.seq (rg [oO 12 (.bin .lss 2 (.t 11) (.t 10))])
(.seq (.cond (.t 12) (.skip) (.exit 0))
(.seq (.block 1 (.seq (rg [oI 13 45 9 11,
 oL 14 14 13,
 oA 5 14])
(.seq (rg [oM 15 3,
 oM 16 5,
 oN 17 14 16,
 oO 18 (.bin .add 2 (.t 15) (.t 17)),
 oA 3 18])
(.seq (rg [oM 19 3,
 oO 20 (.bin .lss 2 (.t 19) (.c (.int .i64 0)))])
(.cond (.t 20) (.cond (.c .undef) .skip .skip) (.skip))))))
(rg [oO 22 (.bin .add 2 (.t 11) (.c (.int .i64 1))),
 oM 11 22])))))))
(.seq (rg [oM 23 3,
 oO 24 (.call 2 (.f 244) [(.c (.imm .exact [])),(.t 23)]),
 oA 6 24])
(.seq (.seq (rg [oM 25 0,
 oN 26 45 25,
 oO 27 (.move (.c (.int .i64 0)))])
(.block 2 (.loop (.seq (rg [oO 28 (.bin .lss 2 (.t 27) (.t 26))])
(.seq (.cond (.t 28) (.skip) (.exit 2))
(.seq (.block 3 (.seq (rg [oI 29 45 25 27,
 oL 30 14 29,
 oA 8 30])
(rg [oM 31 6,
 oM 32 8,
 oO 33 (.append 0 14 14 (.t 31) (.t 32)),
 oA 6 33])))
(rg [oO 34 (.bin .add 2 (.t 27) (.c (.int .i64 1))),
 oM 27 34])))))))
(.seq (rg [oM 35 6,
 oA 2 35])
(.ret))))))⟩

def f234 : DFn := ⟨20,[],
 .region false [] [
 oM 6 0,
 oM 7 0,
 oO 8 (.nilc (.t 7)),
 oF 9 41 8 1,
 oF 10 29 9 2,
 oL 11 31 10,
 oM 12 1,
 oM 13 2,
 oO 14 (.build 32 [(0,(.t 12)),(1,(.t 13))]),
 oO 15 (.bslice false 31 1 [(0,(.t 14))]),
 oO 16 (.append 0 31 31 (.t 11) (.t 15)),
 oO 17 (.nilc (.t 6)),
 oF 18 41 17 1,
 oF 19 29 18 2,
 oE (.store 31 (.t 19) (.t 16))]⟩

def f235 : DFn := ⟨47,[.tmp 4],
 .seq (rg [oO 4 (.assign (.c (.bool false)))])
(.seq (rg [oM 11 0,
 oO 12 (.nilc (.t 11)),
 oF 13 41 12 0,
 oL 14 0 13,
 oM 15 1,
 oO 16 (.call 0 (.f 3) [(.t 14),(.t 15)]),
 oM 10 16,
 oO 17 (.extract (.t 10) 0),
 oO 18 (.extract (.t 10) 1),
 oA 5 17,
 oA 6 18])
(.seq (.seq (rg [oM 19 5,
 oM 20 0,
 oO 21 (.nilc (.t 20)),
 oF 22 41 21 1,
 oF 23 29 22 1,
 oL 24 6 23,
 oO 25 (.call 0 (.f 87) [(.t 19),(.t 24)]),
 oA 7 25])
(.seq (rg [oM 26 7,
 oO 27 (.bin .neq 2 (.t 26) (.c (.int .i64 0)))])
(.cond (.t 27) (.seq (rg [oM 28 7,
 oO 29 (.bin .gtr 2 (.t 28) (.c (.int .i64 0))),
 oA 4 29])
(.ret)) (.skip))))
(.seq (rg [oM 31 0,
 oO 32 (.nilc (.t 31)),
 oF 33 41 32 0,
 oL 34 0 33,
 oM 35 1,
 oO 36 (.call 0 (.f 9) [(.t 34),(.t 35)]),
 oM 30 36,
 oO 37 (.extract (.t 30) 0),
 oO 38 (.extract (.t 30) 1),
 oA 8 37,
 oA 9 38])
(.seq (rg [oM 39 8,
 oM 40 0,
 oO 41 (.nilc (.t 40)),
 oF 42 41 41 1,
 oF 43 29 42 0,
 oL 44 6 43,
 oO 45 (.call 0 (.f 87) [(.t 39),(.t 44)]),
 oO 46 (.bin .geq 2 (.t 45) (.c (.int .i64 0))),
 oA 4 46])
(.ret)))))⟩

def f237 : DFn := ⟨8,[.tmp 3],
 .seq (rg [oO 3 (.assign (.c (.bool false)))])
(.seq (rg [oL 4 0 1,
 oM 5 0,
 oO 6 (.call 0 (.f 240) [(.t 4),(.t 5)]),
 oO 7 (.un .not (.t 6)),
 oA 3 7])
(.ret))⟩

def f238 : DFn := ⟨65,[.tmp 6],
 .seq (rg [oO 5 (.box 2 (.t 1)),
 oO 6 (.assign (.c (.bool false)))])
(.seq (.seq (rg [oM 12 0,
 oO 13 (.mkfn 245 [(.t 5)]),
 oO 14 (.call 3 (.f 159) [(.t 12),(.t 13)])])
(.cond (.t 14) (.seq (rg [oM 15 0,
 oN 16 4 15,
 oO 17 (.bin .eql 2 (.t 16) (.c (.int .i64 1))),
 oA 6 17])
(.ret)) (.skip)))
(.seq (.seq (rg [oM 18 0,
 oN 19 4 18,
 oO 20 (.bin .eql 2 (.t 19) (.c (.int .i64 0)))])
(.cond (.t 20) (.seq (rg [oO 6 (.assign (.c (.bool false)))])
(.ret)) (.skip)))
(.seq (rg [oF 21 0 2 2,
 oL 22 14 21,
 oL 23 2 5,
 oI 24 14 22 23,
 oF 25 15 24 3,
 oL 26 16 25,
 oN 27 16 26,
 oO 28 (.mkslice true 52 (.t 27) (.t 27)),
 oA 7 28])
(.seq (.seq (rg [oM 29 0,
 oN 30 4 29,
 oO 31 (.move (.c (.int .i64 0)))])
(.block 0 (.loop (.seq (rg [oO 32 (.bin .lss 2 (.t 31) (.t 30))])
(.seq (.cond (.t 32) (.skip) (.exit 0))
(.seq (.block 1 (.seq (rg [oI 33 4 29 31,
 oL 34 1 33,
 oA 9 34])
(.region true [] [
 oM 35 7,
 oM 36 9,
 oL 37 2 5,
 oI 38 1 36 37,
 oL 39 2 38,
 oM 40 7,
 oM 41 9,
 oL 42 2 5,
 oI 43 1 41 42,
 oL 44 2 43,
 oI 45 52 40 44,
 oL 46 4 45,
 oM 47 9,
 oO 48 (.bslice false 4 1 [(0,(.t 47))]),
 oO 49 (.append 0 4 4 (.t 46) (.t 48)),
 oI 50 52 35 39,
 oE (.store 4 (.t 50) (.t 49))])))
(rg [oO 51 (.bin .add 2 (.t 31) (.c (.int .i64 1))),
 oM 31 51])))))))
(.seq (.seq (rg [oM 52 7,
 oN 53 52 52,
 oO 54 (.move (.c (.int .i64 0)))])
(.block 2 (.loop (.seq (rg [oO 55 (.bin .lss 2 (.t 54) (.t 53))])
(.seq (.cond (.t 55) (.skip) (.exit 2))
(.seq (.block 3 (.seq (rg [oI 56 52 52 54,
 oL 57 4 56,
 oA 11 57])
(.seq (rg [oL 58 47 3,
 oM 59 11,
 oL 60 2 5,
 oO 61 (.bin .add 2 (.t 60) (.c (.int .i64 1))),
 oO 62 (.call 2 (.t 58) [(.t 59),(.t 61)]),
 oO 63 (.un .not (.t 62))])
(.cond (.t 63) (.seq (rg [oO 6 (.assign (.c (.bool false)))])
(.ret)) (.skip)))))
(rg [oO 64 (.bin .add 2 (.t 54) (.c (.int .i64 1))),
 oM 54 64])))))))
(.seq (rg [oO 6 (.assign (.c (.bool true)))])
(.ret)))))))⟩

def f240 : DFn := ⟨15,[.tmp 4],
 .seq (rg [oO 2 (.box 0 (.t 0)),
 oO 4 (.assign (.c (.bool false)))])
(.seq (rg [oL 8 0 2,
 oM 9 1,
 oO 10 (.call 0 (.f 14) [(.t 8),(.t 9),(.c (.int .i64 0))]),
 oM 7 10,
 oO 11 (.extract (.t 7) 0),
 oO 12 (.extract (.t 7) 1),
 oA 5 11,
 oA 6 12])
(.seq (rg [oM 13 6,
 oO 14 (.bin .eql 3 (.t 13) (.c (.int .i64 0))),
 oA 4 14])
(.ret)))⟩

def f241 : DFn := ⟨23,[.tmp 4],
 .seq (rg [oO 2 (.box 51 (.t 0)),
 oO 3 (.box 32 (.t 1)),
 oO 4 (.assign (.c (.bool false)))])
(.seq (rg [oF 8 51 2 0,
 oL 9 0 8,
 oF 10 32 3 0,
 oL 11 1 10,
 oF 12 51 2 1,
 oL 13 6 12,
 oO 14 (.call 0 (.f 24) [(.t 9),(.t 11),(.t 13)]),
 oM 7 14,
 oO 15 (.extract (.t 7) 0),
 oO 16 (.extract (.t 7) 1),
 oA 5 15,
 oA 6 16])
(.seq (rg [oM 17 6,
 oO 18 (.bin .eql 3 (.t 17) (.c (.int .i64 0))),
 oM 19 18,
⟨(some 20),.move (.t 5),(some (19,true))⟩,
⟨(some 21),.un .not (.t 20),(some (19,true))⟩,
 oO 22 (.pick (.t 19) (.t 21) (.c (.bool false))),
 oA 4 22])
(.ret)))⟩

def f242 : DFn := ⟨44,[.tmp 4],
 .seq (rg [oO 2 (.box 51 (.t 0)),
 oO 3 (.box 32 (.t 1)),
 oO 4 (.assign (.c (.bool false)))])
(.seq (rg [oF 10 51 2 0,
 oL 11 0 10,
 oF 12 32 3 0,
 oL 13 1 12,
 oO 14 (.call 0 (.f 3) [(.t 11),(.t 13)]),
 oM 9 14,
 oO 15 (.extract (.t 9) 0),
 oO 16 (.extract (.t 9) 1),
 oA 5 15,
 oA 6 16])
(.seq (.seq (rg [oM 17 6,
 oO 18 (.bin .neq 3 (.t 17) (.c (.int .i64 0)))])
(.cond (.t 18) (.seq (rg [oO 4 (.assign (.c (.bool false)))])
(.ret)) (.skip)))
(.seq (.seq (rg [oM 19 5,
 oF 20 51 2 2,
 oL 21 6 20,
 oO 22 (.call 5 (.f 246) [(.t 19),(.t 21)])])
(.ifp (.t 22) (.exit 1000022) (rg [oA 7 22])))
(.seq (.seq (rg [oM 23 7,
 oO 24 (.bin .neq 2 (.t 23) (.c (.int .i64 0)))])
(.cond (.t 24) (.seq (rg [oM 25 7,
 oO 26 (.bin .gtr 2 (.t 25) (.c (.int .i64 0))),
 oA 4 26])
(.ret)) (.skip)))
(.seq (rg [oF 28 51 2 0,
 oL 29 0 28,
 oF 30 32 3 0,
 oL 31 1 30,
 oO 32 (.call 0 (.f 9) [(.t 29),(.t 31)]),
 oM 27 32,
 oO 33 (.extract (.t 27) 0),
 oO 34 (.extract (.t 27) 1),
 oA 8 33,
 oA 6 34])
(.seq (.seq (rg [oM 35 6,
 oO 36 (.bin .eql 3 (.t 35) (.c (.int .i64 0))),
 oM 37 36,
⟨(some 38),.move (.t 8),(some (37,true))⟩,
⟨(some 39),.faddr 51 (.t 2) 1,(some (37,true))⟩,
⟨(some 40),.load 6 (.t 39),(some (37,true))⟩,
⟨(some 41),.call 5 (.f 246) [(.t 38),(.t 40)],(some (37,true))⟩])
(.ifp (.t 41) (.exit 1000041) (rg [
⟨(some 42),.bin .geq 2 (.t 41) (.c (.int .i64 0)),(some (37,true))⟩,
 oO 43 (.pick (.t 37) (.t 42) (.c (.bool false))),
 oA 4 43])))
(.ret)))))))⟩

def f243 : DFn := ⟨87,[.tmp 4],
 .seq (rg [oO 2 (.box 51 (.t 0)),
 oO 3 (.box 32 (.t 1)),
 oO 4 (.assign (.c (.bool false)))])
(.seq (rg [oF 12 51 2 0,
 oL 13 0 12,
 oF 14 32 3 0,
 oL 15 1 14,
 oO 16 (.call 0 (.f 3) [(.t 13),(.t 15)]),
 oM 11 16,
 oO 17 (.extract (.t 11) 0),
 oO 18 (.extract (.t 11) 1),
 oA 5 17,
 oA 6 18])
(.seq (.seq (.region true [] [
 oM 19 6,
 oO 20 (.bin .neq 3 (.t 19) (.c (.int .i64 0))),
 oM 21 20,
⟨(some 22),.faddr 51 (.t 2) 2,(some (21,false))⟩,
⟨(some 23),.load 6 (.t 22),(some (21,false))⟩,
⟨(some 24),.iaddr 6 (.t 23) (.c (.int .i64 0)),(some (21,false))⟩,
⟨(some 25),.load 2 (.t 24),(some (21,false))⟩,
⟨(some 26),.bin .neq 2 (.t 25) (.c (.int .i64 0)),(some (21,false))⟩,
 oO 27 (.pick (.t 21) (.c (.bool true)) (.t 26)),
 oM 28 27,
⟨(some 29),.move (.t 5),(some (28,false))⟩,
⟨(some 30),.iaddr 6 (.t 29) (.c (.int .i64 1)),(some (28,false))⟩,
⟨(some 31),.load 2 (.t 30),(some (28,false))⟩,
⟨(some 32),.faddr 51 (.t 2) 2,(some (28,false))⟩,
⟨(some 33),.load 6 (.t 32),(some (28,false))⟩,
⟨(some 34),.iaddr 6 (.t 33) (.c (.int .i64 1)),(some (28,false))⟩,
⟨(some 35),.load 2 (.t 34),(some (28,false))⟩,
⟨(some 36),.bin .lss 2 (.t 31) (.t 35),(some (28,false))⟩,
 oO 37 (.pick (.t 28) (.c (.bool true)) (.t 36))])
(.cond (.t 37) (.seq (rg [oO 4 (.assign (.c (.bool false)))])
(.ret)) (.skip)))
(.seq (.region true [] [
 oF 39 51 2 0,
 oL 40 0 39,
 oF 41 32 3 0,
 oL 42 1 41,
 oF 43 51 2 2,
 oL 44 6 43,
 oO 45 (.iaddr 6 (.t 44) (.c (.int .i64 1))),
 oL 46 2 45,
 oF 47 32 3 2,
 oL 48 9 47,
 oO 49 (.call 0 (.f 39) [(.t 40),(.t 42),(.t 46),(.t 48)]),
 oM 38 49,
 oO 50 (.extract (.t 38) 0),
 oO 51 (.extract (.t 38) 1),
 oA 7 50,
 oA 6 51])
(.seq (.region true [] [
 oF 53 51 2 0,
 oL 54 0 53,
 oF 55 32 3 0,
 oL 56 1 55,
 oF 57 51 2 2,
 oL 58 6 57,
 oO 59 (.iaddr 6 (.t 58) (.c (.int .i64 1))),
 oL 60 2 59,
 oF 61 32 3 2,
 oL 62 9 61,
 oO 63 (.call 0 (.f 37) [(.t 54),(.t 56),(.t 60),(.t 62)]),
 oM 52 63,
 oO 64 (.extract (.t 52) 0),
 oO 65 (.extract (.t 52) 1),
 oO 66 (.extract (.t 52) 2),
 oA 8 64,
 oA 9 65,
 oA 10 66])
(.seq (rg [oM 67 6,
 oO 68 (.bin .eql 3 (.t 67) (.c (.int .i64 0))),
 oM 69 68,
⟨(some 70),.move (.t 10),(some (69,true))⟩,
⟨(some 71),.bin .eql 3 (.t 70) (.c (.int .i64 0)),(some (69,true))⟩,
 oO 72 (.pick (.t 69) (.t 71) (.c (.bool false))),
 oM 73 72,
⟨(some 74),.move (.t 7),(some (73,true))⟩,
⟨(some 75),.move (.t 74),(some (73,true))⟩,
⟨(some 76),.move (.t 9),(some (75,false))⟩,
⟨(some 77),.move (.t 76),(some (75,false))⟩,
⟨(some 78),.move (.t 8),(some (77,true))⟩,
⟨(some 79),.faddr 51 (.t 2) 2,(some (77,true))⟩,
⟨(some 80),.load 6 (.t 79),(some (77,true))⟩,
⟨(some 81),.iaddr 6 (.t 80) (.c (.int .i64 2)),(some (77,true))⟩,
⟨(some 82),.load 2 (.t 81),(some (77,true))⟩,
⟨(some 83),.bin .gtr 2 (.t 78) (.t 82),(some (77,true))⟩,
⟨(some 84),.pick (.t 77) (.t 83) (.c (.bool false)),(some (75,false))⟩,
⟨(some 85),.pick (.t 75) (.c (.bool true)) (.t 84),(some (73,true))⟩,
 oO 86 (.pick (.t 73) (.t 85) (.c (.bool false))),
 oA 4 86])
(.ret))))))⟩

def f244 : DFn := ⟨2,[.tmp 0],
 .seq (rg [⟨some 2,.mark false (.c (.int .i64 0)),none⟩])
(.ifp (.t 2) (.cond (.c .undef) .skip .skip)
(.seq (rg [⟨some 0,.append 1 14 14 (.t 0) (.c (.imm .exact [])),none⟩,⟨some 0,.len 14 (.t 0),none⟩,⟨some 0,.bin .eql 2 (.t 0) (.c (.int .i64 0)),none⟩, oE (.bin .lss 2 (.t 1) (.c (.int .i64 0))), oE (.mkslice false 14 (.t 1) (.t 1))])
(.cond (.t 0) (.seq (rg [⟨some 0,.append 0 14 14 (.c (.imm .exact [])) (.c (.imm .exact [])),none⟩]) .ret) (.cond (.c .undef) .skip .skip))))⟩

def f245 : DFn := ⟨8,[.tmp 3],
 .seq (rg [oO 3 (.assign (.c (.bool false)))])
(.seq (rg [oM 4 0,
 oN 5 1 4,
 oL 6 2 1,
 oO 7 (.bin .eql 2 (.t 5) (.t 6)),
 oA 3 7])
(.ret))⟩

def f246 : DFn := ⟨17,[.tmp 4],
 .seq (rg [oO 4 (.assign (.c (.int .i64 0)))])
(.seq (rg [oM 8 0,
 oM 9 1,
 oO 10 (.call 0 (.f 30) [(.t 8),(.t 9)]),
 oM 7 10,
 oO 11 (.extract (.t 7) 0),
 oO 12 (.extract (.t 7) 1),
 oA 5 11,
 oA 6 12])
(.seq (.seq (rg [oM 13 6,
 oO 14 (.bin .eql 3 (.t 13) (.c (.int .i64 0))),
 oO 15 (.call 5 (.f 229) [(.t 14),(.c (.int .i64 310))])])
(.ifp (.t 15) (.exit 1000015) (rg [     ])))
(.seq (rg [oM 16 5,
 oA 4 16])
(.ret))))⟩

def tyTab : Nat -> TI
 | 0 => ⟨.struct [(0,10),(1,9),(2,14)],3,72,[(.imm .exact []),(.imm .exact []),(.imm .exact [])],false⟩
 | 1 => ⟨.slice 2,1,24,[(.imm .exact [])],false⟩
 | 2 => ⟨.int .i64,1,8,[(.int .i64 0)],false⟩
 | 3 => ⟨.int .i64,1,8,[(.int .i64 0)],false⟩
 | 4 => ⟨.slice 1,1,24,[(.imm .exact [])],false⟩
 | 6 => ⟨.slice 2,1,24,[(.imm .exact [])],false⟩
 | 7 => ⟨.bool,1,1,[(.bool false)],false⟩
 | 9 => ⟨.slice 6,1,24,[(.imm .exact [])],false⟩
 | 10 => ⟨.slice 20,1,24,[(.imm .exact [])],false⟩
 | 11 => ⟨.struct [(0,2),(1,2)],2,16,[(.int .i64 0),(.int .i64 0)],true⟩
 | 12 => ⟨.int .u64,1,8,[(.int .u64 0)],false⟩
 | 13 => ⟨.int .u8,1,1,[(.int .u8 0)],false⟩
 | 14 => ⟨.slice 15,1,24,[(.imm .exact [])],false⟩
 | 15 => ⟨.struct [(0,2),(1,2),(2,6),(3,16)],4,64,[(.int .i64 0),(.int .i64 0),(.imm .exact []),(.imm .exact [])],false⟩
 | 16 => ⟨.slice 17,1,24,[(.imm .exact [])],false⟩
 | 17 => ⟨.struct [(0,2),(1,2),(2,2),(3,18)],4,48,[(.int .i64 0),(.int .i64 0),(.int .i64 0),(.imm .exact [])],false⟩
 | 18 => ⟨.slice 19,1,24,[(.imm .exact [])],false⟩
 | 19 => ⟨.struct [(0,20),(3,2)],4,32,[(.bool false),(.int .i64 0),(.int .i64 0),(.int .i64 0)],true⟩
 | 20 => ⟨.struct [(0,7),(1,2),(2,2)],3,24,[(.bool false),(.int .i64 0),(.int .i64 0)],true⟩
 | 21 => ⟨.map 20 7,1,8,[(.map none)],false⟩
 | 22 => ⟨.arr 4 2,4,32,[(.int .i64 0),(.int .i64 0),(.int .i64 0),(.int .i64 0)],true⟩
 | 23 => ⟨.arr 2 6,2,48,[(.imm .exact []),(.imm .exact [])],false⟩
 | 24 => ⟨.slice 23,1,24,[(.imm .exact [])],false⟩
 | 25 => ⟨.struct [(0,0),(3,1),(4,2),(5,9)],6,128,[(.imm .exact []),(.imm .exact []),(.imm .exact []),(.imm .exact []),(.int .i64 0),(.imm .exact [])],false⟩
 | 26 => ⟨.map 20 2,1,8,[(.map none)],false⟩
 | 27 => ⟨.func,1,8,[.nilfn],false⟩
 | 29 => ⟨.struct [(0,6),(1,6),(2,31)],3,72,[(.imm .exact []),(.imm .exact []),(.imm .exact [])],false⟩
 | 31 => ⟨.slice 32,1,24,[(.imm .exact [])],false⟩
 | 32 => ⟨.struct [(0,1),(1,2),(2,9)],3,56,[(.imm .exact []),(.int .i64 0),(.imm .exact [])],false⟩
 | 41 => ⟨.struct [(0,0),(3,29),(6,7),(7,43)],8,160,[(.imm .exact []),(.imm .exact []),(.imm .exact []),(.imm .exact []),(.imm .exact []),(.imm .exact []),(.bool false),.nilfn],false⟩
 | 42 => ⟨.ptr 41,1,8,[.nilp],false⟩
 | 43 => ⟨.func,1,8,[.nilfn],false⟩
 | 44 => ⟨.struct [(0,3)],1,8,[(.int .i64 0)],true⟩
 | 45 => ⟨.slice 14,1,24,[(.imm .exact [])],false⟩
 | 47 => ⟨.func,1,8,[.nilfn],false⟩
 | 48 => ⟨.struct [(0,49)],4,32,[.nilfn,.nilfn,.nilfn,.nilfn],false⟩
 | 49 => ⟨.arr 4 50,4,32,[.nilfn,.nilfn,.nilfn,.nilfn],false⟩
 | 50 => ⟨.func,1,8,[.nilfn],false⟩
 | 51 => ⟨.struct [(0,0),(3,6),(4,6)],5,120,[(.imm .exact []),(.imm .exact []),(.imm .exact []),(.imm .exact []),(.imm .exact [])],false⟩
 | 52 => ⟨.slice 4,1,24,[(.imm .exact [])],false⟩
 | _ => ⟨.other,0,0,[],false⟩

def fnTab : Nat -> Option DFn
 | 2 => some f2
 | 3 => some f3
 | 7 => some f7
 | 9 => some f9
 | 14 => some f14
 | 15 => some f15
 | 20 => some f20
 | 22 => some f22
 | 24 => some f24
 | 30 => some f30
 | 37 => some f37
 | 39 => some f39
 | 41 => some f41
 | 61 => some f61
 | 62 => some f62
 | 63 => some f63
 | 66 => some f66
 | 67 => some f67
 | 68 => some f68
 | 69 => some f69
 | 70 => some f70
 | 71 => some f71
 | 72 => some f72
 | 73 => some f73
 | 74 => some f74
 | 75 => some f75
 | 76 => some f76
 | 83 => some f83
 | 84 => some f84
 | 87 => some f87
 | 89 => some f89
 | 90 => some f90
 | 93 => some f93
 | 94 => some f94
 | 96 => some f96
 | 97 => some f97
 | 98 => some f98
 | 102 => some f102
 | 104 => some f104
 | 105 => some f105
 | 106 => some f106
 | 107 => some f107
 | 110 => some f110
 | 112 => some f112
 | 113 => some f113
 | 114 => some f114
 | 115 => some f115
 | 116 => some f116
 | 117 => some f117
 | 118 => some f118
 | 122 => some f122
 | 123 => some f123
 | 124 => some f124
 | 125 => some f125
 | 129 => some f129
 | 159 => some f159
 | 162 => some f162
 | 173 => some f173
 | 211 => some f211
 | 212 => some f212
 | 213 => some f213
 | 214 => some f214
 | 215 => some f215
 | 216 => some f216
 | 217 => some f217
 | 218 => some f218
 | 219 => some f219
 | 220 => some f220
 | 221 => some f221
 | 222 => some f222
 | 223 => some f223
 | 224 => some f224
 | 225 => some f225
 | 226 => some f226
 | 228 => some f228
 | 229 => some f229
 | 230 => some f230
 | 231 => some f231
 | 232 => some f232
 | 233 => some f233
 | 234 => some f234
 | 235 => some f235
 | 237 => some f237
 | 238 => some f238
 | 240 => some f240
 | 241 => some f241
 | 242 => some f242
 | 243 => some f243
 | 244 => some f244
 | 245 => some f245
 | 246 => some f246
 | _ => none

def keepTab : Nat -> Bool
 | _ => false

def mpTab : Nat -> Bool
 | 228 => true
 | 229 => true
 | 241 => true
 | 242 => true
 | 243 => true
 | 246 => true
 | _ => false

def E : Env := ⟨tyTab,fnTab,keepTab,mpTab⟩

end Dv
