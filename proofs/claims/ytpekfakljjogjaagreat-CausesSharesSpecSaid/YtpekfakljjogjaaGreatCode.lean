/- Texts that a proof of this claim uses, joined: Dv.Code. -/
import Derived.Test.YtpekfakljjogjaaGreatDva
set_option linter.all false
/- The code of the functions in the short form, as printed by program from the translation; YtLink.lean ties each to the given program. -/
namespace Dv
open Go (IntKind BinOp UnOp)

abbrev oO (n : Nat) (x : DOp) : DOpr := ⟨some n, x, none⟩
abbrev oE (x : DOp) : DOpr := ⟨none, x, none⟩
abbrev oM (n k : Nat) : DOpr := ⟨some n, .move (.t k), none⟩
abbrev oL (n t a : Nat) : DOpr := ⟨some n, .load t (.t a), none⟩
abbrev oF (n t a k : Nat) : DOpr := ⟨some n, .faddr t (.t a) k, none⟩
abbrev oI (n t a b : Nat) : DOpr := ⟨some n, .iaddr t (.t a) (.t b), none⟩
abbrev oN (n t a : Nat) : DOpr := ⟨some n, .len t (.t a), none⟩
abbrev oA (n a : Nat) : DOpr := ⟨some n, .assign (.t a), none⟩
abbrev rg (l : List DOpr) : DC := .region false [] l
def f2 : DFn := ⟨77, [.tmp 2],
    .seq (rg [oO 1 (.box 0 (.t 0)),
 oO 2 (.assign (.c (.bool false)))])
(.seq (.seq (rg [oF 7 0 1 0,
 oL 8 10 7,
 oN 9 10 8,
 oO 10 (.bin .gtr 2 (.t 9) (.c (.int .i64 12))),
 oM 11 10,
⟨(some 12), .faddr 0 (.t 1) 1, (some (11, false))⟩,
⟨(some 13), .load 9 (.t 12), (some (11, false))⟩,
⟨(some 14), .len 9 (.t 13), (some (11, false))⟩,
⟨(some 15), .bin .gtr 2 (.t 14) (.c (.int .i64 4)), (some (11, false))⟩,
 oO 16 (.pick (.t 11) (.c (.bool true)) (.t 15)),
 oM 17 16,
⟨(some 18), .faddr 0 (.t 1) 2, (some (17, false))⟩,
⟨(some 19), .load 14 (.t 18), (some (17, false))⟩,
⟨(some 20), .len 14 (.t 19), (some (17, false))⟩,
⟨(some 21), .bin .gtr 2 (.t 20) (.c (.int .i64 6)), (some (17, false))⟩,
 oO 22 (.pick (.t 17) (.c (.bool true)) (.t 21))])
(.cond (.t 22) (.seq (rg [oO 2 (.assign (.c (.bool false)))])
(.ret)) (.skip)))
(.seq (.seq (rg [oO 3 (.assign (.c (.int .i64 0)))])
(.block 0 (.loop (.seq (.seq (rg [oM 23 3,
 oF 24 0 1 1,
 oL 25 9 24,
 oN 26 9 25,
 oO 27 (.bin .lss 2 (.t 23) (.t 26))])
(.cond (.t 27) (.skip) (.exit 0)))
(.seq (.block 1 (.seq (rg [oF 30 0 1 1,
 oL 31 9 30,
 oM 32 3,
 oI 33 9 31 32,
 oL 34 6 33,
 oN 35 6 34,
 oO 36 (.bin .gtr 2 (.t 35) (.c (.int .i64 16)))])
(.cond (.t 36) (.seq (rg [oO 2 (.assign (.c (.bool false)))])
(.ret)) (.skip))))
(rg [oM 28 3,
 oO 29 (.bin .add 2 (.t 28) (.c (.int .i64 1))),
 oA 3 29]))))))
(.seq (.seq (rg [oO 4 (.assign (.c (.int .i64 0)))])
(.block 2 (.loop (.seq (.seq (rg [oM 37 4,
 oF 38 0 1 2,
 oL 39 14 38,
 oN 40 14 39,
 oO 41 (.bin .lss 2 (.t 37) (.t 40))])
(.cond (.t 41) (.skip) (.exit 2)))
(.seq (.block 3 (.seq (rg [oF 44 0 1 2,
 oL 45 14 44,
 oM 46 4,
 oI 47 14 45 46,
 oL 48 15 47,
 oO 5 (.alloc 15),
 oE (.store 15 (.t 5) (.t 48))])
(.seq (.seq (rg [oF 49 15 5 2,
 oL 50 6 49,
 oN 51 6 50,
 oO 52 (.bin .gtr 2 (.t 51) (.c (.int .i64 8))),
 oM 53 52,
⟨(some 54), .faddr 15 (.t 5) 3, (some (53, false))⟩,
⟨(some 55), .load 16 (.t 54), (some (53, false))⟩,
⟨(some 56), .len 16 (.t 55), (some (53, false))⟩,
⟨(some 57), .bin .gtr 2 (.t 56) (.c (.int .i64 8)), (some (53, false))⟩,
 oO 58 (.pick (.t 53) (.c (.bool true)) (.t 57))])
(.cond (.t 58) (.seq (rg [oO 2 (.assign (.c (.bool false)))])
(.ret)) (.skip)))
(.seq (rg [oO 6 (.assign (.c (.int .i64 0)))])
(.block 4 (.loop (.seq (.seq (rg [oM 59 6,
 oF 60 15 5 3,
 oL 61 16 60,
 oN 62 16 61,
 oO 63 (.bin .lss 2 (.t 59) (.t 62))])
(.cond (.t 63) (.skip) (.exit 4)))
(.seq (.block 5 (.seq (rg [oF 66 15 5 3,
 oL 67 16 66,
 oM 68 6,
 oI 69 16 67 68,
 oF 70 17 69 3,
 oL 71 18 70,
 oN 72 18 71,
 oO 73 (.bin .gtr 2 (.t 72) (.c (.int .i64 12)))])
(.cond (.t 73) (.seq (rg [oO 2 (.assign (.c (.bool false)))])
(.ret)) (.skip))))
(rg [oM 64 6,
 oO 65 (.bin .add 2 (.t 64) (.c (.int .i64 1))),
 oA 6 65])))))))))
(rg [oM 42 4,
 oO 43 (.bin .add 2 (.t 42) (.c (.int .i64 1))),
 oA 4 43]))))))
(.seq (rg [oL 74 0 1,
 oO 75 (.call 0 (.f 61) [(.t 74), (.c (.int .i64 2000))]),
 oO 76 (.bin .lss 2 (.t 75) (.c (.int .i64 2000))),
 oA 2 76])
(.ret)))))⟩

def f3 : DFn := ⟨89, [.cell 4 6, .tmp 5],
    .seq (rg [oO 2 (.box 0 (.t 0)),
 oO 4 (.alloc 6),
 oO 5 (.assign (.c (.int .i64 0)))])
(.seq (.seq (rg [oL 14 0 2,
 oM 15 1,
 oO 16 (.call 0 (.f 62) [(.t 14), (.t 15)]),
 oA 5 16])
(.seq (rg [oM 17 5,
 oO 18 (.bin .neq 3 (.t 17) (.c (.int .i64 0)))])
(.cond (.t 18) (.seq (rg [oM 19 5,
 oE (.store 6 (.t 4) (.c (.imm .exact []))),
 oA 5 19])
(.ret)) (.skip))))
(.seq (rg [oO 20 (.mkslice true 6 (.c (.int .i64 4)) (.c (.int .i64 4))),
 oE (.store 6 (.t 4) (.t 20))])
(.seq (.seq (rg [oF 21 0 2 1,
 oL 22 9 21,
 oN 23 9 22,
 oO 24 (.move (.c (.int .i64 0)))])
(.block 0 (.loop (.seq (rg [oO 25 (.bin .lss 2 (.t 24) (.t 23))])
(.seq (.cond (.t 25) (.skip) (.exit 0))
(.seq (.block 1 (.seq (rg [oM 26 24,
 oI 27 9 22 24,
 oL 28 6 27,
 oA 6 26,
 oA 7 28])
(.seq (rg [oL 30 0 2,
 oM 31 1,
 oM 32 6,
 oO 33 (.call 0 (.f 14) [(.t 30), (.t 31), (.t 32)]),
 oM 29 33,
 oO 34 (.extract (.t 29) 0),
 oO 35 (.extract (.t 29) 1),
 oA 8 34,
 oA 9 35])
(.seq (rg [oM 36 8,
 oN 37 6 36,
 oO 38 (.move (.c (.int .i64 0)))])
(.block 2 (.loop (.seq (rg [oO 39 (.bin .lss 2 (.t 38) (.t 37))])
(.seq (.cond (.t 39) (.skip) (.exit 2))
(.seq (.block 3 (.seq (rg [oM 40 38,
 oI 41 6 36 38,
 oL 42 2 41,
 oA 10 40,
 oA 11 42])
(.region true [] [
 oL 43 6 4,
 oO 44 (.iaddr 6 (.t 43) (.c (.int .i64 0))),
 oL 45 2 44,
 oM 46 11,
 oM 47 7,
 oM 48 10,
 oI 49 6 47 48,
 oL 50 2 49,
 oO 51 (.bin .sub 2 (.t 46) (.t 50)),
 oO 52 (.maxi [(.t 51), (.c (.int .i64 0))]),
 oO 53 (.bin .add 2 (.t 45) (.t 52)),
 oO 54 (.iaddr 6 (.t 43) (.c (.int .i64 0))),
 oE (.store 2 (.t 54) (.t 53))])))
(rg [oO 55 (.bin .add 2 (.t 38) (.c (.int .i64 1))),
 oM 38 55]))))))))))
(rg [oO 56 (.bin .add 2 (.t 24) (.c (.int .i64 1))),
 oM 24 56])))))))
(.seq (.seq (rg [oL 57 0 2,
 oM 58 1,
 oO 59 (.call 0 (.f 63) [(.t 57), (.t 58)])])
(.block 4 (.rfunc (.t 59) [60, 61] (.seq (rg [oA 12 60])
(rg [oO 13 (.alloc 17),
 oE (.store 17 (.t 13) (.t 61))])) (.block 5 (.seq (.region true [] [
 oL 62 6 4,
 oL 63 6 4,
 oO 64 (.iaddr 6 (.t 63) (.c (.int .i64 1))),
 oL 65 2 64,
 oF 66 17 13 0,
 oL 67 2 66,
 oO 68 (.maxi [(.t 65), (.t 67)]),
 oO 69 (.iaddr 6 (.t 62) (.c (.int .i64 1))),
 oE (.store 2 (.t 69) (.t 68))])
(.seq (.region true [] [
 oL 70 6 4,
 oO 71 (.iaddr 6 (.t 70) (.c (.int .i64 2))),
 oL 72 2 71,
 oF 73 17 13 1,
 oL 74 2 73,
 oM 75 12,
 oO 76 (.bin .mul 2 (.t 74) (.t 75)),
 oO 77 (.bin .add 2 (.t 72) (.t 76)),
 oO 78 (.iaddr 6 (.t 70) (.c (.int .i64 2))),
 oE (.store 2 (.t 78) (.t 77))])
(.region true [] [
 oL 79 6 4,
 oO 80 (.iaddr 6 (.t 79) (.c (.int .i64 3))),
 oL 81 2 80,
 oF 82 17 13 2,
 oL 83 2 82,
 oM 84 12,
 oO 85 (.bin .mul 2 (.t 83) (.t 84)),
 oO 86 (.bin .add 2 (.t 81) (.t 85)),
 oO 87 (.iaddr 6 (.t 79) (.c (.int .i64 3))),
 oE (.store 2 (.t 87) (.t 86))])))))))
(.seq (rg [oL 88 6 4,
 oE (.store 6 (.t 4) (.t 88)),
 oO 5 (.assign (.c (.int .i64 0)))])
(.ret))))))⟩

def f4 : DFn := ⟨136, [.tmp 4, .tmp 5],
    .seq (rg [oO 2 (.box 0 (.t 0)),
 oO 4 (.assign (.c (.imm .exact []))),
 oO 5 (.assign (.c (.int .i64 0)))])
(.seq (rg [oL 15 0 2,
 oM 16 1,
 oO 17 (.call 0 (.f 64) [(.t 15), (.t 16)]),
 oA 6 17])
(.seq (.seq (rg [oM 18 6,
 oO 19 (.bin .neq 3 (.t 18) (.c (.int .i64 0)))])
(.cond (.t 19) (.seq (rg [oM 20 6,
 oO 4 (.assign (.c (.imm .exact []))),
 oA 5 20])
(.ret)) (.skip)))
(.seq (rg [oO 21 (.bslice true 6 4 [(0, (.c (.int .i64 0))), (1, (.c (.int .i64 0))), (2, (.c (.int .i64 0))), (3, (.c (.int .i64 0)))]),
 oA 7 21])
(.seq (.seq (rg [oO 8 (.assign (.c (.int .i64 0)))])
(.block 0 (.loop (.seq (.seq (rg [oM 22 8,
 oF 23 0 2 1,
 oL 24 9 23,
 oN 25 9 24,
 oO 26 (.bin .lss 2 (.t 22) (.t 25))])
(.cond (.t 26) (.skip) (.exit 0)))
(.seq (.block 1 (.seq (rg [oL 30 0 2,
 oM 31 1,
 oM 32 8,
 oO 33 (.call 0 (.f 18) [(.t 30), (.t 31), (.t 32)]),
 oM 29 33,
 oO 34 (.extract (.t 29) 0),
 oO 35 (.extract (.t 29) 1),
 oA 9 34,
 oA 10 35])
(.seq (rg [oO 11 (.assign (.c (.int .i64 0)))])
(.block 2 (.loop (.seq (.seq (rg [oM 36 11,
 oM 37 9,
 oN 38 6 37,
 oO 39 (.bin .lss 2 (.t 36) (.t 38))])
(.cond (.t 39) (.skip) (.exit 2)))
(.seq (.block 3 (.seq (.region true [] [
 oM 42 9,
 oM 43 11,
 oI 44 6 42 43,
 oL 45 2 44,
 oF 46 0 2 1,
 oL 47 9 46,
 oM 48 8,
 oI 49 9 47 48,
 oL 50 6 49,
 oM 51 11,
 oI 52 6 50 51,
 oL 53 2 52,
 oO 54 (.bin .gtr 2 (.t 45) (.t 53))])
(.cond (.t 54) (.region true [] [
 oM 55 7,
 oM 56 7,
 oO 57 (.iaddr 6 (.t 56) (.c (.int .i64 0))),
 oL 58 2 57,
 oM 59 9,
 oM 60 11,
 oI 61 6 59 60,
 oL 62 2 61,
 oO 63 (.bin .add 2 (.t 58) (.t 62)),
 oF 64 0 2 1,
 oL 65 9 64,
 oM 66 8,
 oI 67 9 65 66,
 oL 68 6 67,
 oM 69 11,
 oI 70 6 68 69,
 oL 71 2 70,
 oO 72 (.bin .sub 2 (.t 63) (.t 71)),
 oO 73 (.iaddr 6 (.t 55) (.c (.int .i64 0))),
 oE (.store 2 (.t 73) (.t 72))]) (.skip))))
(rg [oM 40 11,
 oO 41 (.bin .add 2 (.t 40) (.c (.int .i64 1))),
 oA 11 41]))))))))
(rg [oM 27 8,
 oO 28 (.bin .add 2 (.t 27) (.c (.int .i64 1))),
 oA 8 28]))))))
(.seq (.seq (rg [oO 12 (.assign (.c (.int .i64 0)))])
(.block 4 (.loop (.seq (.seq (rg [oM 74 12,
 oF 75 0 2 2,
 oL 76 14 75,
 oN 77 14 76,
 oO 78 (.bin .lss 2 (.t 74) (.t 77))])
(.cond (.t 78) (.skip) (.exit 4)))
(.seq (.block 5 (.seq (rg [oF 81 0 2 2,
 oL 82 14 81,
 oM 83 12,
 oI 84 14 82 83,
 oL 85 15 84,
 oO 13 (.alloc 15),
 oE (.store 15 (.t 13) (.t 85))])
(.seq (rg [oF 86 15 13 3,
 oL 87 16 86,
 oO 88 (.call 0 (.f 65) [(.t 87)]),
 oO 14 (.alloc 17),
 oE (.store 17 (.t 14) (.t 88))])
(.seq (.seq (rg [oM 89 12,
 oM 90 1,
 oN 91 1 90,
 oO 92 (.bin .lss 2 (.t 89) (.t 91))])
(.cond (.t 92) (.region true [] [
 oF 93 15 13 3,
 oL 94 16 93,
 oM 95 1,
 oM 96 12,
 oI 97 1 95 96,
 oL 98 2 97,
 oI 99 16 94 98,
 oL 100 17 99,
 oE (.store 17 (.t 14) (.t 100))]) (.skip)))
(.seq (.seq (.region true [] [
 oF 101 17 14 0,
 oL 102 2 101,
 oM 103 7,
 oO 104 (.iaddr 6 (.t 103) (.c (.int .i64 1))),
 oL 105 2 104,
 oO 106 (.bin .gtr 2 (.t 102) (.t 105))])
(.cond (.t 106) (rg [oM 107 7,
 oF 108 17 14 0,
 oL 109 2 108,
 oO 110 (.iaddr 6 (.t 107) (.c (.int .i64 1))),
 oE (.store 2 (.t 110) (.t 109))]) (.skip)))
(.seq (.region true [] [
 oM 111 7,
 oM 112 7,
 oO 113 (.iaddr 6 (.t 112) (.c (.int .i64 2))),
 oL 114 2 113,
 oF 115 17 14 1,
 oL 116 2 115,
 oF 117 15 13 2,
 oL 118 6 117,
 oN 119 6 118,
 oO 120 (.bin .mul 2 (.t 116) (.t 119)),
 oO 121 (.bin .add 2 (.t 114) (.t 120)),
 oO 122 (.iaddr 6 (.t 111) (.c (.int .i64 2))),
 oE (.store 2 (.t 122) (.t 121))])
(.region true [] [
 oM 123 7,
 oM 124 7,
 oO 125 (.iaddr 6 (.t 124) (.c (.int .i64 3))),
 oL 126 2 125,
 oF 127 17 14 2,
 oL 128 2 127,
 oF 129 15 13 2,
 oL 130 6 129,
 oN 131 6 130,
 oO 132 (.bin .mul 2 (.t 128) (.t 131)),
 oO 133 (.bin .add 2 (.t 126) (.t 132)),
 oO 134 (.iaddr 6 (.t 123) (.c (.int .i64 3))),
 oE (.store 2 (.t 134) (.t 133))])))))))
(rg [oM 79 12,
 oO 80 (.bin .add 2 (.t 79) (.c (.int .i64 1))),
 oA 12 80]))))))
(.seq (rg [oM 135 7,
 oA 4 135,
 oO 5 (.assign (.c (.int .i64 0)))])
(.ret)))))))⟩

def f7 : DFn := ⟨43, [.tmp 4, .tmp 5],
    .seq (rg [oO 2 (.box 0 (.t 0)),
 oO 4 (.assign (.c (.imm .exact []))),
 oO 5 (.assign (.c (.int .i64 0)))])
(.seq (.seq (rg [oL 8 0 2,
 oM 9 1,
 oO 10 (.call 0 (.f 62) [(.t 8), (.t 9)]),
 oA 5 10])
(.seq (rg [oM 11 5,
 oO 12 (.bin .neq 3 (.t 11) (.c (.int .i64 0)))])
(.cond (.t 12) (.seq (rg [oM 13 5,
 oO 4 (.assign (.c (.imm .exact []))),
 oA 5 13])
(.ret)) (.skip))))
(.seq (rg [oM 14 1,
 oN 15 1 14,
 oA 6 15])
(.seq (.seq (rg [oM 16 6,
 oF 17 0 2 2,
 oL 18 14 17,
 oN 19 14 18,
 oO 20 (.bin .eql 2 (.t 16) (.t 19))])
(.cond (.t 20) (.seq (rg [oO 4 (.assign (.c (.imm .exact []))),
 oO 5 (.assign (.c (.int .i64 280)))])
(.ret)) (.skip)))
(.seq (.seq (rg [oF 21 0 2 2,
 oL 22 14 21,
 oM 23 6,
 oI 24 14 22 23,
 oF 25 15 24 3,
 oL 26 16 25,
 oN 27 16 26,
 oO 28 (.move (.c (.int .i64 0)))])
(.block 0 (.loop (.seq (rg [oO 29 (.bin .lss 2 (.t 28) (.t 27))])
(.seq (.cond (.t 29) (.skip) (.exit 0))
(.seq (.block 1 (.seq (rg [oM 30 28,
 oA 7 30])
(rg [oM 31 4,
 oM 32 1,
 oM 33 6,
 oM 34 6,
 oO 35 (.slice 1 (.t 32) none (some (.t 33)) (some (.t 34))),
 oM 36 7,
 oO 37 (.bslice false 1 1 [(0, (.t 36))]),
 oO 38 (.append 0 1 1 (.t 35) (.t 37)),
 oO 39 (.bslice false 4 1 [(0, (.t 38))]),
 oO 40 (.append 0 4 4 (.t 31) (.t 39)),
 oA 4 40])))
(rg [oO 41 (.bin .add 2 (.t 28) (.c (.int .i64 1))),
 oM 28 41])))))))
(.seq (rg [oM 42 4,
 oA 4 42,
 oO 5 (.assign (.c (.int .i64 0)))])
(.ret))))))⟩

def f8 : DFn := ⟨43, [.tmp 4, .tmp 5],
    .seq (rg [oO 2 (.box 0 (.t 0)),
 oO 4 (.assign (.c (.imm .exact []))),
 oO 5 (.assign (.c (.int .i64 0)))])
(.seq (rg [oL 9 0 2,
 oM 10 1,
 oO 11 (.call 0 (.f 64) [(.t 9), (.t 10)]),
 oA 6 11])
(.seq (.seq (rg [oM 12 6,
 oO 13 (.bin .neq 3 (.t 12) (.c (.int .i64 0)))])
(.cond (.t 13) (.seq (rg [oM 14 6,
 oO 4 (.assign (.c (.imm .exact []))),
 oA 5 14])
(.ret)) (.skip)))
(.seq (.seq (rg [oM 15 1,
 oN 16 1 15,
 oF 17 0 2 2,
 oL 18 14 17,
 oN 19 14 18,
 oO 20 (.bin .eql 2 (.t 16) (.t 19))])
(.cond (.t 20) (.seq (rg [oO 4 (.assign (.c (.imm .exact []))),
 oO 5 (.assign (.c (.int .i64 280)))])
(.ret)) (.skip)))
(.seq (rg [oO 7 (.assign (.c (.imm .exact [])))])
(.seq (.seq (rg [oO 8 (.assign (.c (.int .i64 0)))])
(.block 0 (.loop (.seq (.seq (rg [oM 21 8,
 oF 22 0 2 2,
 oL 23 14 22,
 oM 24 1,
 oN 25 1 24,
 oI 26 14 23 25,
 oF 27 15 26 3,
 oL 28 16 27,
 oN 29 16 28,
 oO 30 (.bin .lss 2 (.t 21) (.t 29))])
(.cond (.t 30) (.skip) (.exit 0)))
(.seq (.block 1 (rg [oM 33 7,
 oO 34 (.bslice false 1 0 []),
 oM 35 1,
 oO 36 (.append 0 1 1 (.t 34) (.t 35)),
 oM 37 8,
 oO 38 (.bslice false 1 1 [(0, (.t 37))]),
 oO 39 (.append 0 1 1 (.t 36) (.t 38)),
 oO 40 (.bslice false 4 1 [(0, (.t 39))]),
 oO 41 (.append 0 4 4 (.t 33) (.t 40)),
 oA 7 41]))
(rg [oM 31 8,
 oO 32 (.bin .add 2 (.t 31) (.c (.int .i64 1))),
 oA 8 32]))))))
(.seq (rg [oM 42 7,
 oA 4 42,
 oO 5 (.assign (.c (.int .i64 0)))])
(.ret)))))))⟩

def f14 : DFn := ⟨27, [.tmp 6, .tmp 7],
    .seq (rg [oO 3 (.box 0 (.t 0)),
 oO 6 (.assign (.c (.imm .exact []))),
 oO 7 (.assign (.c (.int .i64 0)))])
(.seq (.seq (rg [oL 8 0 3,
 oM 9 1,
 oO 10 (.call 0 (.f 66) [(.t 8), (.t 9)]),
 oA 7 10])
(.seq (rg [oM 11 7,
 oO 12 (.bin .neq 3 (.t 11) (.c (.int .i64 0)))])
(.cond (.t 12) (.seq (rg [oM 13 7,
 oO 6 (.assign (.c (.imm .exact []))),
 oA 7 13])
(.ret)) (.skip))))
(.seq (.seq (rg [oM 14 2,
 oF 15 0 3 1,
 oL 16 9 15,
 oN 17 9 16,
 oO 18 (.bin .sub 2 (.t 17) (.c (.int .i64 1))),
 oO 19 (.call 0 (.f 67) [(.t 14), (.c (.int .i64 0)), (.t 18)]),
 oO 20 (.un .not (.t 19))])
(.cond (.t 20) (.seq (rg [oO 6 (.assign (.c (.imm .exact []))),
 oO 7 (.assign (.c (.int .i64 270)))])
(.ret)) (.skip)))
(.seq (rg [oL 21 0 3,
 oM 22 1,
 oO 23 (.call 0 (.f 68) [(.t 21), (.t 22)]),
 oM 24 2,
 oI 25 9 23 24,
 oL 26 6 25,
 oA 6 26,
 oO 7 (.assign (.c (.int .i64 0)))])
(.ret))))⟩

def f15 : DFn := ⟨173, [.tmp 2],
    .seq (rg [oO 1 (.box 0 (.t 0)),
 oO 2 (.assign (.c (.int .i64 0)))])
(.seq (.seq (rg [oF 15 0 1 0,
 oL 16 10 15,
 oN 17 10 16,
 oO 18 (.bin .gtr 2 (.t 17) (.c (.int .i64 4096))),
 oM 19 18,
⟨(some 20), .faddr 0 (.t 1) 1, (some (19, false))⟩,
⟨(some 21), .load 9 (.t 20), (some (19, false))⟩,
⟨(some 22), .len 9 (.t 21), (some (19, false))⟩,
⟨(some 23), .call 0 (.f 67) [(.t 22), (.c (.int .i64 1)), (.c (.int .i64 32))], (some (19, false))⟩,
⟨(some 24), .un .not (.t 23), (some (19, false))⟩,
 oO 25 (.pick (.t 19) (.c (.bool true)) (.t 24)),
 oM 26 25,
⟨(some 27), .faddr 0 (.t 1) 2, (some (26, false))⟩,
⟨(some 28), .load 14 (.t 27), (some (26, false))⟩,
⟨(some 29), .len 14 (.t 28), (some (26, false))⟩,
⟨(some 30), .bin .gtr 2 (.t 29) (.c (.int .i64 64)), (some (26, false))⟩,
 oO 31 (.pick (.t 26) (.c (.bool true)) (.t 30)),
 oM 32 31,
⟨(some 33), .faddr 0 (.t 1) 0, (some (32, false))⟩,
⟨(some 34), .load 10 (.t 33), (some (32, false))⟩,
⟨(some 35), .call 0 (.f 69) [(.t 34), (.f 70)], (some (32, false))⟩,
⟨(some 36), .un .not (.t 35), (some (32, false))⟩,
 oO 37 (.pick (.t 32) (.c (.bool true)) (.t 36))])
(.cond (.t 37) (.seq (rg [oO 2 (.assign (.c (.int .i64 270)))])
(.ret)) (.skip)))
(.seq (rg [oO 38 (.mkmap 21),
 oA 3 38])
(.seq (.seq (rg [oF 39 0 1 0,
 oL 40 10 39,
 oN 41 10 40,
 oO 42 (.move (.c (.int .i64 0)))])
(.block 0 (.loop (.seq (rg [oO 43 (.bin .lss 2 (.t 42) (.t 41))])
(.seq (.cond (.t 43) (.skip) (.exit 0))
(.seq (.block 1 (.seq (rg [oI 44 10 40 42,
 oL 45 20 44,
 oO 5 (.alloc 20),
 oE (.store 20 (.t 5) (.t 45))])
(.seq (.seq (rg [oF 46 20 5 1,
 oL 47 2 46,
 oO 48 (.bin .lss 2 (.t 47) (.c (.int .i64 0))),
 oM 49 48,
⟨(some 50), .faddr 20 (.t 5) 2, (some (49, false))⟩,
⟨(some 51), .load 2 (.t 50), (some (49, false))⟩,
⟨(some 52), .bin .lss 2 (.t 51) (.c (.int .i64 0)), (some (49, false))⟩,
 oO 53 (.pick (.t 49) (.c (.bool true)) (.t 52))])
(.cond (.t 53) (.seq (rg [oO 2 (.assign (.c (.int .i64 270)))])
(.ret)) (.skip)))
(rg [oM 54 3,
 oL 55 20 5,
 oE (.mapset 21 (.t 54) (.t 55) (.c (.bool true)))]))))
(rg [oO 56 (.bin .add 2 (.t 42) (.c (.int .i64 1))),
 oM 42 56])))))))
(.seq (.seq (rg [oF 57 0 1 1,
 oL 58 9 57,
 oN 59 9 58,
 oO 60 (.move (.c (.int .i64 0)))])
(.block 2 (.loop (.seq (rg [oO 61 (.bin .lss 2 (.t 60) (.t 59))])
(.seq (.cond (.t 61) (.skip) (.exit 2))
(.seq (.block 3 (.seq (rg [oI 62 9 58 60,
 oL 63 6 62,
 oA 7 63])
(.seq (rg [oM 64 7,
 oN 65 6 64,
 oF 66 0 1 0,
 oL 67 10 66,
 oN 68 10 67,
 oO 69 (.bin .neq 2 (.t 65) (.t 68)),
 oM 70 69,
⟨(some 71), .move (.t 7), (some (70, false))⟩,
⟨(some 72), .call 0 (.f 71) [(.t 71), (.f 72)], (some (70, false))⟩,
 oO 73 (.pick (.t 70) (.c (.bool true)) (.t 72))])
(.cond (.t 73) (.seq (rg [oO 2 (.assign (.c (.int .i64 270)))])
(.ret)) (.skip)))))
(rg [oO 74 (.bin .add 2 (.t 60) (.c (.int .i64 1))),
 oM 60 74])))))))
(.seq (.seq (rg [oF 75 0 1 2,
 oL 76 14 75,
 oN 77 14 76,
 oO 78 (.move (.c (.int .i64 0)))])
(.block 4 (.loop (.seq (rg [oO 79 (.bin .lss 2 (.t 78) (.t 77))])
(.seq (.cond (.t 79) (.skip) (.exit 4))
(.seq (.block 5 (.seq (rg [oI 80 14 76 78,
 oL 81 15 80,
 oO 9 (.alloc 15),
 oE (.store 15 (.t 9) (.t 81))])
(.seq (.seq (.region true [] [
 oF 82 15 9 2,
 oL 83 6 82,
 oN 84 6 83,
 oO 85 (.bin .eql 2 (.t 84) (.c (.int .i64 0))),
 oM 86 85,
⟨(some 87), .faddr 15 (.t 9) 3, (some (86, false))⟩,
⟨(some 88), .load 16 (.t 87), (some (86, false))⟩,
⟨(some 89), .len 16 (.t 88), (some (86, false))⟩,
⟨(some 90), .call 0 (.f 67) [(.t 89), (.c (.int .i64 1)), (.c (.int .i64 96))], (some (86, false))⟩,
⟨(some 91), .un .not (.t 90), (some (86, false))⟩,
 oO 92 (.pick (.t 86) (.c (.bool true)) (.t 91)),
 oM 93 92,
⟨(some 94), .faddr 15 (.t 9) 2, (some (93, false))⟩,
⟨(some 95), .load 6 (.t 94), (some (93, false))⟩,
⟨(some 96), .call 0 (.f 73) [(.t 95), (.f 74)], (some (93, false))⟩,
⟨(some 97), .un .not (.t 96), (some (93, false))⟩,
 oO 98 (.pick (.t 93) (.c (.bool true)) (.t 97)),
 oM 99 98,
⟨(some 100), .faddr 15 (.t 9) 2, (some (99, false))⟩,
⟨(some 101), .load 6 (.t 100), (some (99, false))⟩,
⟨(some 102), .iaddr 6 (.t 101) (.c (.int .i64 0)), (some (99, false))⟩,
⟨(some 103), .load 2 (.t 102), (some (99, false))⟩,
⟨(some 104), .bin .lss 2 (.t 103) (.c (.int .i64 0)), (some (99, false))⟩,
 oO 105 (.pick (.t 99) (.c (.bool true)) (.t 104)),
 oM 106 105,
⟨(some 107), .faddr 15 (.t 9) 2, (some (106, false))⟩,
⟨(some 108), .load 6 (.t 107), (some (106, false))⟩,
⟨(some 109), .faddr 15 (.t 9) 2, (some (106, false))⟩,
⟨(some 110), .load 6 (.t 109), (some (106, false))⟩,
⟨(some 111), .len 6 (.t 110), (some (106, false))⟩,
⟨(some 112), .bin .sub 2 (.t 111) (.c (.int .i64 1)), (some (106, false))⟩,
⟨(some 113), .iaddr 6 (.t 108) (.t 112), (some (106, false))⟩,
⟨(some 114), .load 2 (.t 113), (some (106, false))⟩,
⟨(some 115), .faddr 0 (.t 1) 1, (some (106, false))⟩,
⟨(some 116), .load 9 (.t 115), (some (106, false))⟩,
⟨(some 117), .len 9 (.t 116), (some (106, false))⟩,
⟨(some 118), .bin .geq 2 (.t 114) (.t 117), (some (106, false))⟩,
 oO 119 (.pick (.t 106) (.c (.bool true)) (.t 118))])
(.cond (.t 119) (.seq (rg [oO 2 (.assign (.c (.int .i64 270)))])
(.ret)) (.skip)))
(.seq (rg [oF 120 15 9 3,
 oL 121 16 120,
 oN 122 16 121,
 oO 123 (.move (.c (.int .i64 0)))])
(.block 6 (.loop (.seq (rg [oO 124 (.bin .lss 2 (.t 123) (.t 122))])
(.seq (.cond (.t 124) (.skip) (.exit 6))
(.seq (.block 7 (.seq (rg [oI 125 16 121 123,
 oL 126 17 125,
 oO 11 (.alloc 17),
 oE (.store 17 (.t 11) (.t 126))])
(.seq (rg [oO 12 (.assign (.c (.int .i64 1048576)))])
(.seq (.seq (rg [oF 127 17 11 0,
 oL 128 2 127,
 oM 129 12,
 oO 130 (.call 0 (.f 67) [(.t 128), (.c (.int .i64 0)), (.t 129)]),
 oO 131 (.un .not (.t 130)),
 oM 132 131,
⟨(some 133), .faddr 17 (.t 11) 1, (some (132, false))⟩,
⟨(some 134), .load 2 (.t 133), (some (132, false))⟩,
⟨(some 135), .move (.t 12), (some (132, false))⟩,
⟨(some 136), .call 0 (.f 67) [(.t 134), (.c (.int .i64 0)), (.t 135)], (some (132, false))⟩,
⟨(some 137), .un .not (.t 136), (some (132, false))⟩,
 oO 138 (.pick (.t 132) (.c (.bool true)) (.t 137)),
 oM 139 138,
⟨(some 140), .faddr 17 (.t 11) 2, (some (139, false))⟩,
⟨(some 141), .load 2 (.t 140), (some (139, false))⟩,
⟨(some 142), .move (.t 12), (some (139, false))⟩,
⟨(some 143), .call 0 (.f 67) [(.t 141), (.c (.int .i64 0)), (.t 142)], (some (139, false))⟩,
⟨(some 144), .un .not (.t 143), (some (139, false))⟩,
 oO 145 (.pick (.t 139) (.c (.bool true)) (.t 144)),
 oM 146 145,
⟨(some 147), .faddr 17 (.t 11) 3, (some (146, false))⟩,
⟨(some 148), .load 18 (.t 147), (some (146, false))⟩,
⟨(some 149), .call 0 (.f 75) [(.t 148), (.f 76)], (some (146, false))⟩,
⟨(some 150), .un .not (.t 149), (some (146, false))⟩,
 oO 151 (.pick (.t 146) (.c (.bool true)) (.t 150))])
(.cond (.t 151) (.seq (rg [oO 2 (.assign (.c (.int .i64 270)))])
(.ret)) (.skip)))
(.seq (rg [oF 152 17 11 3,
 oL 153 18 152,
 oN 154 18 153,
 oO 155 (.move (.c (.int .i64 0)))])
(.block 8 (.loop (.seq (rg [oO 156 (.bin .lss 2 (.t 155) (.t 154))])
(.seq (.cond (.t 156) (.skip) (.exit 8))
(.seq (.block 9 (.seq (rg [oI 157 18 153 155,
 oL 158 19 157,
 oO 14 (.alloc 19),
 oE (.store 19 (.t 14) (.t 158))])
(.seq (rg [oM 159 3,
 oF 160 19 14 0,
 oL 161 20 160,
 oO 162 (.lookup 21 (.t 159) (.t 161) false),
 oO 163 (.un .not (.t 162)),
 oM 164 163,
⟨(some 165), .faddr 19 (.t 14) 1, (some (164, false))⟩,
⟨(some 166), .load 2 (.t 165), (some (164, false))⟩,
⟨(some 167), .call 0 (.f 67) [(.t 166), (.c (.int .i64 1)), (.c (.int .i64 8))], (some (164, false))⟩,
⟨(some 168), .un .not (.t 167), (some (164, false))⟩,
 oO 169 (.pick (.t 164) (.c (.bool true)) (.t 168))])
(.cond (.t 169) (.seq (rg [oO 2 (.assign (.c (.int .i64 270)))])
(.ret)) (.skip)))))
(rg [oO 170 (.bin .add 2 (.t 155) (.c (.int .i64 1))),
 oM 155 170])))))))))))
(rg [oO 171 (.bin .add 2 (.t 123) (.c (.int .i64 1))),
 oM 123 171]))))))))))
(rg [oO 172 (.bin .add 2 (.t 78) (.c (.int .i64 1))),
 oM 78 172])))))))
(.seq (rg [oO 2 (.assign (.c (.int .i64 0)))])
(.ret)))))))⟩

def f18 : DFn := ⟨31, [.tmp 6, .tmp 7],
    .seq (rg [oO 3 (.box 0 (.t 0)),
 oO 6 (.assign (.c (.imm .exact []))),
 oO 7 (.assign (.c (.int .i64 0)))])
(.seq (rg [oL 9 0 3,
 oO 10 (.call 0 (.f 19) [(.t 9)]),
 oA 8 10])
(.seq (.seq (rg [oM 11 8,
 oO 12 (.bin .neq 3 (.t 11) (.c (.int .i64 0)))])
(.cond (.t 12) (.seq (rg [oM 13 8,
 oO 6 (.assign (.c (.imm .exact []))),
 oA 7 13])
(.ret)) (.skip)))
(.seq (.seq (rg [oL 14 0 3,
 oM 15 1,
 oO 16 (.call 0 (.f 78) [(.t 14), (.t 15)]),
 oO 17 (.un .not (.t 16)),
 oM 18 17,
⟨(some 19), .move (.t 2), (some (18, false))⟩,
⟨(some 20), .faddr 0 (.t 3) 1, (some (18, false))⟩,
⟨(some 21), .load 9 (.t 20), (some (18, false))⟩,
⟨(some 22), .len 9 (.t 21), (some (18, false))⟩,
⟨(some 23), .bin .sub 2 (.t 22) (.c (.int .i64 1)), (some (18, false))⟩,
⟨(some 24), .call 0 (.f 79) [(.t 19), (.c (.int .i64 0)), (.t 23)], (some (18, false))⟩,
⟨(some 25), .un .not (.t 24), (some (18, false))⟩,
 oO 26 (.pick (.t 18) (.c (.bool true)) (.t 25))])
(.cond (.t 26) (.seq (rg [oO 6 (.assign (.c (.imm .exact []))),
 oO 7 (.assign (.c (.int .i64 270)))])
(.ret)) (.skip)))
(.seq (rg [oL 27 0 3,
 oM 28 1,
 oM 29 2,
 oO 30 (.call 0 (.f 80) [(.t 27), (.t 28), (.t 29)]),
 oA 6 30,
 oO 7 (.assign (.c (.int .i64 0)))])
(.ret)))))⟩

def f19 : DFn := ⟨120, [.tmp 2],
    .seq (rg [oO 1 (.box 0 (.t 0)),
 oO 2 (.assign (.c (.int .i64 0)))])
(.seq (.seq (rg [oF 7 0 1 0,
 oL 8 10 7,
 oN 9 10 8,
 oO 10 (.bin .gtr 2 (.t 9) (.c (.int .i64 4096))),
 oM 11 10,
⟨(some 12), .faddr 0 (.t 1) 1, (some (11, false))⟩,
⟨(some 13), .load 9 (.t 12), (some (11, false))⟩,
⟨(some 14), .len 9 (.t 13), (some (11, false))⟩,
⟨(some 15), .bin .lss 2 (.t 14) (.c (.int .i64 1)), (some (11, false))⟩,
 oO 16 (.pick (.t 11) (.c (.bool true)) (.t 15)),
 oM 17 16,
⟨(some 18), .faddr 0 (.t 1) 1, (some (17, false))⟩,
⟨(some 19), .load 9 (.t 18), (some (17, false))⟩,
⟨(some 20), .len 9 (.t 19), (some (17, false))⟩,
⟨(some 21), .bin .gtr 2 (.t 20) (.c (.int .i64 32)), (some (17, false))⟩,
 oO 22 (.pick (.t 17) (.c (.bool true)) (.t 21)),
 oM 23 22,
⟨(some 24), .faddr 0 (.t 1) 2, (some (23, false))⟩,
⟨(some 25), .load 14 (.t 24), (some (23, false))⟩,
⟨(some 26), .len 14 (.t 25), (some (23, false))⟩,
⟨(some 27), .bin .gtr 2 (.t 26) (.c (.int .i64 64)), (some (23, false))⟩,
 oO 28 (.pick (.t 23) (.c (.bool true)) (.t 27))])
(.cond (.t 28) (.seq (rg [oO 2 (.assign (.c (.int .i64 270)))])
(.ret)) (.skip)))
(.seq (.seq (rg [oO 3 (.assign (.c (.int .i64 0)))])
(.block 0 (.loop (.seq (.seq (rg [oM 29 3,
 oF 30 0 1 0,
 oL 31 10 30,
 oN 32 10 31,
 oO 33 (.bin .lss 2 (.t 29) (.t 32))])
(.cond (.t 33) (.skip) (.exit 0)))
(.seq (.block 1 (.seq (.region true [] [
 oF 36 0 1 0,
 oL 37 10 36,
 oM 38 3,
 oI 39 10 37 38,
 oF 40 20 39 1,
 oL 41 2 40,
 oO 42 (.bin .lss 2 (.t 41) (.c (.int .i64 0))),
 oM 43 42,
⟨(some 44), .faddr 0 (.t 1) 0, (some (43, false))⟩,
⟨(some 45), .load 10 (.t 44), (some (43, false))⟩,
⟨(some 46), .move (.t 3), (some (43, false))⟩,
⟨(some 47), .iaddr 10 (.t 45) (.t 46), (some (43, false))⟩,
⟨(some 48), .faddr 20 (.t 47) 2, (some (43, false))⟩,
⟨(some 49), .load 2 (.t 48), (some (43, false))⟩,
⟨(some 50), .bin .lss 2 (.t 49) (.c (.int .i64 0)), (some (43, false))⟩,
 oO 51 (.pick (.t 43) (.c (.bool true)) (.t 50)),
 oM 52 51,
⟨(some 53), .move (.t 3), (some (52, false))⟩,
⟨(some 54), .bin .gtr 2 (.t 53) (.c (.int .i64 0)), (some (52, false))⟩,
⟨(some 55), .move (.t 54), (some (52, false))⟩,
⟨(some 56), .faddr 0 (.t 1) 0, (some (55, true))⟩,
⟨(some 57), .load 10 (.t 56), (some (55, true))⟩,
⟨(some 58), .move (.t 3), (some (55, true))⟩,
⟨(some 59), .bin .sub 2 (.t 58) (.c (.int .i64 1)), (some (55, true))⟩,
⟨(some 60), .iaddr 10 (.t 57) (.t 59), (some (55, true))⟩,
⟨(some 61), .load 20 (.t 60), (some (55, true))⟩,
⟨(some 62), .faddr 0 (.t 1) 0, (some (55, true))⟩,
⟨(some 63), .load 10 (.t 62), (some (55, true))⟩,
⟨(some 64), .move (.t 3), (some (55, true))⟩,
⟨(some 65), .iaddr 10 (.t 63) (.t 64), (some (55, true))⟩,
⟨(some 66), .load 20 (.t 65), (some (55, true))⟩,
⟨(some 67), .call 0 (.f 81) [(.t 61), (.t 66)], (some (55, true))⟩,
⟨(some 68), .un .not (.t 67), (some (55, true))⟩,
⟨(some 69), .pick (.t 55) (.t 68) (.c (.bool false)), (some (52, false))⟩,
 oO 70 (.pick (.t 52) (.c (.bool true)) (.t 69))])
(.cond (.t 70) (.seq (rg [oO 2 (.assign (.c (.int .i64 270)))])
(.ret)) (.skip))))
(rg [oM 34 3,
 oO 35 (.bin .add 2 (.t 34) (.c (.int .i64 1))),
 oA 3 35]))))))
(.seq (.seq (rg [oO 4 (.assign (.c (.int .i64 0)))])
(.block 2 (.loop (.seq (.seq (rg [oM 71 4,
 oF 72 0 1 1,
 oL 73 9 72,
 oN 74 9 73,
 oO 75 (.bin .lss 2 (.t 71) (.t 74))])
(.cond (.t 75) (.skip) (.exit 2)))
(.seq (.block 3 (.seq (.seq (.region true [] [
 oF 78 0 1 1,
 oL 79 9 78,
 oM 80 4,
 oI 81 9 79 80,
 oL 82 6 81,
 oN 83 6 82,
 oF 84 0 1 0,
 oL 85 10 84,
 oN 86 10 85,
 oO 87 (.bin .neq 2 (.t 83) (.t 86))])
(.cond (.t 87) (.seq (rg [oO 2 (.assign (.c (.int .i64 270)))])
(.ret)) (.skip)))
(.seq (rg [oO 5 (.assign (.c (.int .i64 0)))])
(.block 4 (.loop (.seq (.seq (rg [oM 88 5,
 oF 89 0 1 0,
 oL 90 10 89,
 oN 91 10 90,
 oO 92 (.bin .lss 2 (.t 88) (.t 91))])
(.cond (.t 92) (.skip) (.exit 4)))
(.seq (.block 5 (.seq (rg [oF 95 0 1 1,
 oL 96 9 95,
 oM 97 4,
 oI 98 9 96 97,
 oL 99 6 98,
 oM 100 5,
 oI 101 6 99 100,
 oL 102 2 101,
 oO 103 (.call 0 (.f 79) [(.t 102), (.c (.int .i64 0)), (.c (.int .i64 4096))]),
 oO 104 (.un .not (.t 103))])
(.cond (.t 104) (.seq (rg [oO 2 (.assign (.c (.int .i64 270)))])
(.ret)) (.skip))))
(rg [oM 93 5,
 oO 94 (.bin .add 2 (.t 93) (.c (.int .i64 1))),
 oA 5 94]))))))))
(rg [oM 76 4,
 oO 77 (.bin .add 2 (.t 76) (.c (.int .i64 1))),
 oA 4 77]))))))
(.seq (.seq (rg [oO 6 (.assign (.c (.int .i64 0)))])
(.block 6 (.loop (.seq (.seq (rg [oM 105 6,
 oF 106 0 1 2,
 oL 107 14 106,
 oN 108 14 107,
 oO 109 (.bin .lss 2 (.t 105) (.t 108))])
(.cond (.t 109) (.skip) (.exit 6)))
(.seq (.block 7 (.seq (.region true [] [
 oL 112 0 1,
 oF 113 0 1 2,
 oL 114 14 113,
 oM 115 6,
 oI 116 14 114 115,
 oL 117 15 116,
 oO 118 (.call 0 (.f 82) [(.t 112), (.t 117)]),
 oO 119 (.un .not (.t 118))])
(.cond (.t 119) (.seq (rg [oO 2 (.assign (.c (.int .i64 270)))])
(.ret)) (.skip))))
(rg [oM 110 6,
 oO 111 (.bin .add 2 (.t 110) (.c (.int .i64 1))),
 oA 6 111]))))))
(.seq (rg [oO 2 (.assign (.c (.int .i64 0)))])
(.ret))))))⟩

def f20 : DFn := ⟨26, [.tmp 4],
    .seq (rg [oO 4 (.assign (.c (.bool false)))])
(.seq (.seq (rg [oM 6 0,
 oN 7 6 6,
 oM 8 1,
 oN 9 6 8,
 oO 10 (.bin .neq 2 (.t 7) (.t 9))])
(.cond (.t 10) (.seq (rg [oO 4 (.assign (.c (.bool false)))])
(.ret)) (.skip)))
(.seq (.seq (rg [oO 5 (.assign (.c (.int .i64 0)))])
(.block 0 (.loop (.seq (.seq (rg [oM 11 5,
 oM 12 0,
 oN 13 6 12,
 oO 14 (.bin .lss 2 (.t 11) (.t 13))])
(.cond (.t 14) (.skip) (.exit 0)))
(.seq (.block 1 (.seq (.region true [] [
 oM 17 0,
 oM 18 5,
 oI 19 6 17 18,
 oL 20 2 19,
 oM 21 1,
 oM 22 5,
 oI 23 6 21 22,
 oL 24 2 23,
 oO 25 (.bin .neq 2 (.t 20) (.t 24))])
(.cond (.t 25) (.seq (rg [oO 4 (.assign (.c (.bool false)))])
(.ret)) (.skip))))
(rg [oM 15 5,
 oO 16 (.bin .add 2 (.t 15) (.c (.int .i64 1))),
 oA 5 16]))))))
(.seq (rg [oO 4 (.assign (.c (.bool true)))])
(.ret))))⟩

def f22 : DFn := ⟨76, [.tmp 4, .tmp 5],
    .seq (rg [oO 2 (.box 0 (.t 0)),
 oO 4 (.assign (.c (.imm .exact []))),
 oO 5 (.assign (.c (.int .i64 0)))])
(.seq (.seq (rg [oL 13 0 2,
 oM 14 1,
 oO 15 (.call 0 (.f 83) [(.t 13), (.t 14)]),
 oA 5 15])
(.seq (rg [oM 16 5,
 oO 17 (.bin .neq 3 (.t 16) (.c (.int .i64 0)))])
(.cond (.t 17) (.seq (rg [oM 18 5,
 oO 4 (.assign (.c (.imm .exact []))),
 oA 5 18])
(.ret)) (.skip))))
(.seq (rg [oO 6 (.alloc 22)])
(.seq (.seq (rg [oL 19 0 2,
 oM 20 1,
 oO 21 (.call 0 (.f 84) [(.t 19), (.t 20)])])
(.block 0 (.rfunc (.t 21) [22, 23] (rg [oA 8 23]) (.block 1 (rg [oO 24 (.iaddr 22 (.t 6) (.c (.int .i64 0))),
 oL 25 2 24,
 oM 26 8,
 oO 27 (.bin .add 2 (.t 25) (.t 26)),
 oO 28 (.iaddr 22 (.t 6) (.c (.int .i64 0))),
 oE (.store 2 (.t 28) (.t 27))])))))
(.seq (.seq (rg [oM 29 1,
 oN 30 6 29,
 oO 31 (.move (.c (.int .i64 0)))])
(.block 2 (.loop (.seq (rg [oO 32 (.bin .lss 2 (.t 31) (.t 30))])
(.seq (.cond (.t 32) (.skip) (.exit 2))
(.seq (.block 3 (.seq (rg [oM 33 31,
 oI 34 6 29 31,
 oL 35 2 34,
 oA 9 33,
 oA 10 35])
(.seq (.region true [(10, 17), (14, 17), (15, 17)] [
 oF 36 0 2 2,
 oL 37 14 36,
 oM 38 9,
 oI 39 14 37 38,
 oF 40 15 39 3,
 oL 41 16 40,
 oM 42 10,
 oI 43 16 41 42,
 oL 44 17 43,
 oF 45 0 2 2,
 oL 46 14 45,
 oM 47 9,
 oI 48 14 46 47,
 oF 49 15 48 2,
 oL 50 6 49,
 oN 51 6 50,
 oO 11 (.alloc 17),
 oE (.store 17 (.t 11) (.t 44)),
 oA 12 51])
(.seq (rg [oO 52 (.iaddr 22 (.t 6) (.c (.int .i64 1))),
 oL 53 2 52,
 oF 54 17 11 0,
 oL 55 2 54,
 oO 56 (.maxi [(.t 53), (.t 55)]),
 oO 57 (.iaddr 22 (.t 6) (.c (.int .i64 1))),
 oE (.store 2 (.t 57) (.t 56))])
(.seq (rg [oO 58 (.iaddr 22 (.t 6) (.c (.int .i64 2))),
 oL 59 2 58,
 oF 60 17 11 1,
 oL 61 2 60,
 oM 62 12,
 oO 63 (.bin .mul 2 (.t 61) (.t 62)),
 oO 64 (.bin .add 2 (.t 59) (.t 63)),
 oO 65 (.iaddr 22 (.t 6) (.c (.int .i64 2))),
 oE (.store 2 (.t 65) (.t 64))])
(rg [oO 66 (.iaddr 22 (.t 6) (.c (.int .i64 3))),
 oL 67 2 66,
 oF 68 17 11 2,
 oL 69 2 68,
 oM 70 12,
 oO 71 (.bin .mul 2 (.t 69) (.t 70)),
 oO 72 (.bin .add 2 (.t 67) (.t 71)),
 oO 73 (.iaddr 22 (.t 6) (.c (.int .i64 3))),
 oE (.store 2 (.t 73) (.t 72))]))))))
(rg [oO 74 (.bin .add 2 (.t 31) (.c (.int .i64 1))),
 oM 31 74])))))))
(.seq (rg [oO 75 (.slice 22 (.t 6) none none none),
 oA 4 75,
 oO 5 (.assign (.c (.int .i64 0)))])
(.ret))))))⟩

def f23 : DFn := ⟨86, [.tmp 4, .tmp 5],
    .seq (rg [oO 2 (.box 0 (.t 0)),
 oO 4 (.assign (.c (.imm .exact []))),
 oO 5 (.assign (.c (.int .i64 0)))])
(.seq (rg [oL 11 0 2,
 oO 12 (.call 0 (.f 19) [(.t 11)]),
 oA 6 12])
(.seq (.seq (rg [oM 13 6,
 oO 14 (.bin .neq 3 (.t 13) (.c (.int .i64 0)))])
(.cond (.t 14) (.seq (rg [oM 15 6,
 oO 4 (.assign (.c (.imm .exact []))),
 oA 5 15])
(.ret)) (.skip)))
(.seq (.seq (rg [oL 16 0 2,
 oM 17 1,
 oO 18 (.call 0 (.f 78) [(.t 16), (.t 17)]),
 oO 19 (.un .not (.t 18)),
 oM 20 19,
⟨(some 21), .move (.t 1), (some (20, false))⟩,
⟨(some 22), .len 6 (.t 21), (some (20, false))⟩,
⟨(some 23), .faddr 0 (.t 2) 2, (some (20, false))⟩,
⟨(some 24), .load 14 (.t 23), (some (20, false))⟩,
⟨(some 25), .len 14 (.t 24), (some (20, false))⟩,
⟨(some 26), .bin .neq 2 (.t 22) (.t 25), (some (20, false))⟩,
 oO 27 (.pick (.t 20) (.c (.bool true)) (.t 26))])
(.cond (.t 27) (.seq (rg [oO 4 (.assign (.c (.imm .exact []))),
 oO 5 (.assign (.c (.int .i64 270)))])
(.ret)) (.skip)))
(.seq (rg [oL 28 0 2,
 oM 29 1,
 oO 30 (.call 0 (.f 85) [(.t 28), (.t 29)]),
 oO 31 (.bslice true 6 4 [(0, (.t 30)), (1, (.c (.int .i64 0))), (2, (.c (.int .i64 0))), (3, (.c (.int .i64 0)))]),
 oA 7 31])
(.seq (.seq (rg [oO 8 (.assign (.c (.int .i64 0)))])
(.block 0 (.loop (.seq (.seq (rg [oM 32 8,
 oM 33 1,
 oN 34 6 33,
 oO 35 (.bin .lss 2 (.t 32) (.t 34))])
(.cond (.t 35) (.skip) (.exit 0)))
(.seq (.block 1 (.seq (.region true [] [
 oF 38 0 2 2,
 oL 39 14 38,
 oM 40 8,
 oI 41 14 39 40,
 oF 42 15 41 3,
 oL 43 16 42,
 oM 44 1,
 oM 45 8,
 oI 46 6 44 45,
 oL 47 2 46,
 oI 48 16 43 47,
 oL 49 17 48,
 oO 9 (.alloc 17),
 oE (.store 17 (.t 9) (.t 49))])
(.seq (rg [oF 50 0 2 2,
 oL 51 14 50,
 oM 52 8,
 oI 53 14 51 52,
 oF 54 15 53 2,
 oL 55 6 54,
 oN 56 6 55,
 oA 10 56])
(.seq (.region true [] [
 oM 57 7,
 oM 58 7,
 oO 59 (.iaddr 6 (.t 58) (.c (.int .i64 1))),
 oL 60 2 59,
 oF 61 17 9 0,
 oL 62 2 61,
 oO 63 (.maxi [(.t 60), (.t 62)]),
 oO 64 (.iaddr 6 (.t 57) (.c (.int .i64 1))),
 oE (.store 2 (.t 64) (.t 63))])
(.seq (.region true [] [
 oM 65 7,
 oM 66 7,
 oO 67 (.iaddr 6 (.t 66) (.c (.int .i64 2))),
 oL 68 2 67,
 oF 69 17 9 1,
 oL 70 2 69,
 oM 71 10,
 oO 72 (.bin .mul 2 (.t 70) (.t 71)),
 oO 73 (.bin .add 2 (.t 68) (.t 72)),
 oO 74 (.iaddr 6 (.t 65) (.c (.int .i64 2))),
 oE (.store 2 (.t 74) (.t 73))])
(.region true [] [
 oM 75 7,
 oM 76 7,
 oO 77 (.iaddr 6 (.t 76) (.c (.int .i64 3))),
 oL 78 2 77,
 oF 79 17 9 2,
 oL 80 2 79,
 oM 81 10,
 oO 82 (.bin .mul 2 (.t 80) (.t 81)),
 oO 83 (.bin .add 2 (.t 78) (.t 82)),
 oO 84 (.iaddr 6 (.t 75) (.c (.int .i64 3))),
 oE (.store 2 (.t 84) (.t 83))]))))))
(rg [oM 36 8,
 oO 37 (.bin .add 2 (.t 36) (.c (.int .i64 1))),
 oA 8 37]))))))
(.seq (rg [oM 85 7,
 oA 4 85,
 oO 5 (.assign (.c (.int .i64 0)))])
(.ret)))))))⟩

def f61 : DFn := ⟨32, [.tmp 4],
    .seq (rg [oO 2 (.box 0 (.t 0)),
 oO 4 (.assign (.c (.int .i64 0)))])
(.seq (rg [oO 5 (.assign (.c (.int .i64 1)))])
(.seq (.seq (rg [oO 6 (.assign (.c (.int .i64 0)))])
(.block 0 (.loop (.seq (.seq (rg [oM 7 6,
 oF 8 0 2 2,
 oL 9 14 8,
 oN 10 14 9,
 oO 11 (.bin .lss 2 (.t 7) (.t 10)),
 oM 12 11,
⟨(some 13), .move (.t 5), (some (12, true))⟩,
⟨(some 14), .move (.t 1), (some (12, true))⟩,
⟨(some 15), .bin .lss 2 (.t 13) (.t 14), (some (12, true))⟩,
 oO 16 (.pick (.t 12) (.t 15) (.c (.bool false)))])
(.cond (.t 16) (.skip) (.exit 0)))
(.seq (.block 1 (rg [oM 19 5,
 oF 20 0 2 2,
 oL 21 14 20,
 oM 22 6,
 oI 23 14 21 22,
 oF 24 15 23 3,
 oL 25 16 24,
 oN 26 16 25,
 oO 27 (.maxi [(.c (.int .i64 1)), (.t 26)]),
 oO 28 (.bin .mul 2 (.t 19) (.t 27)),
 oA 5 28]))
(rg [oM 17 6,
 oO 18 (.bin .add 2 (.t 17) (.c (.int .i64 1))),
 oA 6 18]))))))
(.seq (rg [oM 29 5,
 oM 30 1,
 oO 31 (.mini [(.t 29), (.t 30)]),
 oA 4 31])
(.ret))))⟩

def f62 : DFn := ⟨39, [.tmp 4],
    .seq (rg [oO 2 (.box 0 (.t 0)),
 oO 4 (.assign (.c (.int .i64 0)))])
(.seq (.seq (rg [oL 7 0 2,
 oO 8 (.call 0 (.f 15) [(.t 7)]),
 oA 4 8])
(.seq (rg [oM 9 4,
 oO 10 (.bin .neq 3 (.t 9) (.c (.int .i64 0)))])
(.cond (.t 10) (.seq (rg [oM 11 4,
 oA 4 11])
(.ret)) (.skip))))
(.seq (.seq (rg [oM 12 1,
 oN 13 1 12,
 oF 14 0 2 2,
 oL 15 14 14,
 oN 16 14 15,
 oO 17 (.bin .gtr 2 (.t 13) (.t 16))])
(.cond (.t 17) (.seq (rg [oO 4 (.assign (.c (.int .i64 280)))])
(.ret)) (.skip)))
(.seq (.seq (rg [oM 18 1,
 oN 19 1 18,
 oO 20 (.move (.c (.int .i64 0)))])
(.block 0 (.loop (.seq (rg [oO 21 (.bin .lss 2 (.t 20) (.t 19))])
(.seq (.cond (.t 21) (.skip) (.exit 0))
(.seq (.block 1 (.seq (rg [oM 22 20,
 oI 23 1 18 20,
 oL 24 2 23,
 oA 5 22,
 oA 6 24])
(.seq (rg [oM 25 6,
 oO 26 (.bin .lss 2 (.t 25) (.c (.int .i64 0))),
 oM 27 26,
⟨(some 28), .move (.t 6), (some (27, false))⟩,
⟨(some 29), .faddr 0 (.t 2) 2, (some (27, false))⟩,
⟨(some 30), .load 14 (.t 29), (some (27, false))⟩,
⟨(some 31), .move (.t 5), (some (27, false))⟩,
⟨(some 32), .iaddr 14 (.t 30) (.t 31), (some (27, false))⟩,
⟨(some 33), .faddr 15 (.t 32) 3, (some (27, false))⟩,
⟨(some 34), .load 16 (.t 33), (some (27, false))⟩,
⟨(some 35), .len 16 (.t 34), (some (27, false))⟩,
⟨(some 36), .bin .geq 2 (.t 28) (.t 35), (some (27, false))⟩,
 oO 37 (.pick (.t 27) (.c (.bool true)) (.t 36))])
(.cond (.t 37) (.seq (rg [oO 4 (.assign (.c (.int .i64 280)))])
(.ret)) (.skip)))))
(rg [oO 38 (.bin .add 2 (.t 20) (.c (.int .i64 1))),
 oM 20 38])))))))
(.seq (rg [oO 4 (.assign (.c (.int .i64 0)))])
(.ret)))))⟩

def f63 : DFn := ⟨6, [.tmp 4],
    .seq (rg [oO 2 (.box 0 (.t 0)),
 oO 3 (.box 1 (.t 1)),
 oO 4 (.assign (.c .nilfn))])
(.seq (rg [oO 5 (.mkfn 102 [(.t 2), (.t 3)]),
 oA 4 5])
(.ret))⟩

def f64 : DFn := ⟨15, [.tmp 4],
    .seq (rg [oO 2 (.box 0 (.t 0)),
 oO 4 (.assign (.c (.int .i64 0)))])
(.seq (rg [oL 6 0 2,
 oO 7 (.call 0 (.f 19) [(.t 6)]),
 oA 5 7])
(.seq (.seq (rg [oM 8 5,
 oO 9 (.bin .neq 3 (.t 8) (.c (.int .i64 0)))])
(.cond (.t 9) (.seq (rg [oM 10 5,
 oA 4 10])
(.ret)) (.skip)))
(.seq (.seq (rg [oL 11 0 2,
 oM 12 1,
 oO 13 (.call 0 (.f 103) [(.t 11), (.t 12)]),
 oO 14 (.un .not (.t 13))])
(.cond (.t 14) (.seq (rg [oO 4 (.assign (.c (.int .i64 280)))])
(.ret)) (.skip)))
(.seq (rg [oO 4 (.assign (.c (.int .i64 0)))])
(.ret)))))⟩

def f65 : DFn := ⟨67, [.cell 2 17],
    .seq (rg [oO 2 (.alloc 17)])
(.seq (.region true [] [
 oM 5 0,
 oO 6 (.iaddr 16 (.t 5) (.c (.int .i64 0))),
 oF 7 17 6 0,
 oL 8 2 7,
 oM 9 0,
 oO 10 (.iaddr 16 (.t 9) (.c (.int .i64 0))),
 oF 11 17 10 1,
 oL 12 2 11,
 oM 13 0,
 oO 14 (.iaddr 16 (.t 13) (.c (.int .i64 0))),
 oF 15 17 14 2,
 oL 16 2 15,
 oO 17 (.build 17 [(0, (.t 8)), (1, (.t 12)), (2, (.t 16))]),
 oO 3 (.alloc 17),
 oE (.store 17 (.t 3) (.t 17))])
(.seq (.seq (rg [oO 4 (.assign (.c (.int .i64 1)))])
(.block 0 (.loop (.seq (.seq (rg [oM 18 4,
 oM 19 0,
 oN 20 16 19,
 oO 21 (.bin .lss 2 (.t 18) (.t 20))])
(.cond (.t 21) (.skip) (.exit 0)))
(.seq (.block 1 (.seq (.seq (.region true [] [
 oM 24 0,
 oM 25 4,
 oI 26 16 24 25,
 oF 27 17 26 0,
 oL 28 2 27,
 oF 29 17 3 0,
 oL 30 2 29,
 oO 31 (.bin .lss 2 (.t 28) (.t 30))])
(.cond (.t 31) (rg [oM 32 0,
 oM 33 4,
 oI 34 16 32 33,
 oF 35 17 34 0,
 oL 36 2 35,
 oF 37 17 3 0,
 oE (.store 2 (.t 37) (.t 36))]) (.skip)))
(.seq (.seq (.region true [] [
 oM 38 0,
 oM 39 4,
 oI 40 16 38 39,
 oF 41 17 40 1,
 oL 42 2 41,
 oF 43 17 3 1,
 oL 44 2 43,
 oO 45 (.bin .lss 2 (.t 42) (.t 44))])
(.cond (.t 45) (rg [oM 46 0,
 oM 47 4,
 oI 48 16 46 47,
 oF 49 17 48 1,
 oL 50 2 49,
 oF 51 17 3 1,
 oE (.store 2 (.t 51) (.t 50))]) (.skip)))
(.seq (.region true [] [
 oM 52 0,
 oM 53 4,
 oI 54 16 52 53,
 oF 55 17 54 2,
 oL 56 2 55,
 oF 57 17 3 2,
 oL 58 2 57,
 oO 59 (.bin .lss 2 (.t 56) (.t 58))])
(.cond (.t 59) (rg [oM 60 0,
 oM 61 4,
 oI 62 16 60 61,
 oF 63 17 62 2,
 oL 64 2 63,
 oF 65 17 3 2,
 oE (.store 2 (.t 65) (.t 64))]) (.skip))))))
(rg [oM 22 4,
 oO 23 (.bin .add 2 (.t 22) (.c (.int .i64 1))),
 oA 4 23]))))))
(.seq (rg [oL 66 17 3,
 oE (.store 17 (.t 2) (.t 66))])
(.ret))))⟩

def f66 : DFn := ⟨38, [.tmp 4],
    .seq (rg [oO 2 (.box 0 (.t 0)),
 oO 4 (.assign (.c (.int .i64 0)))])
(.seq (.seq (rg [oL 8 0 2,
 oO 9 (.call 0 (.f 15) [(.t 8)]),
 oA 5 9])
(.seq (rg [oM 10 5,
 oO 11 (.bin .neq 3 (.t 10) (.c (.int .i64 0)))])
(.cond (.t 11) (.seq (rg [oM 12 5,
 oA 4 12])
(.ret)) (.skip))))
(.seq (.seq (rg [oM 13 1,
 oN 14 6 13,
 oF 15 0 2 2,
 oL 16 14 15,
 oN 17 14 16,
 oO 18 (.bin .gtr 2 (.t 14) (.t 17))])
(.cond (.t 18) (.seq (rg [oO 4 (.assign (.c (.int .i64 270)))])
(.ret)) (.skip)))
(.seq (.seq (rg [oM 19 1,
 oN 20 6 19,
 oO 21 (.move (.c (.int .i64 0)))])
(.block 0 (.loop (.seq (rg [oO 22 (.bin .lss 2 (.t 21) (.t 20))])
(.seq (.cond (.t 22) (.skip) (.exit 0))
(.seq (.block 1 (.seq (rg [oM 23 21,
 oI 24 6 19 21,
 oL 25 2 24,
 oA 6 23,
 oA 7 25])
(.seq (rg [oM 26 7,
 oF 27 0 2 2,
 oL 28 14 27,
 oM 29 6,
 oI 30 14 28 29,
 oF 31 15 30 3,
 oL 32 16 31,
 oN 33 16 32,
 oO 34 (.bin .sub 2 (.t 33) (.c (.int .i64 1))),
 oO 35 (.call 0 (.f 67) [(.t 26), (.c (.int .i64 0)), (.t 34)]),
 oO 36 (.un .not (.t 35))])
(.cond (.t 36) (.seq (rg [oO 4 (.assign (.c (.int .i64 270)))])
(.ret)) (.skip)))))
(rg [oO 37 (.bin .add 2 (.t 21) (.c (.int .i64 1))),
 oM 21 37])))))))
(.seq (rg [oO 4 (.assign (.c (.int .i64 0)))])
(.ret)))))⟩

def f67 : DFn := ⟨15, [.tmp 6],
    .seq (rg [oO 6 (.assign (.c (.bool false)))])
(.seq (rg [oM 7 1,
 oM 8 0,
 oO 9 (.bin .leq 2 (.t 7) (.t 8)),
 oM 10 9,
⟨(some 11), .move (.t 0), (some (10, true))⟩,
⟨(some 12), .move (.t 2), (some (10, true))⟩,
⟨(some 13), .bin .leq 2 (.t 11) (.t 12), (some (10, true))⟩,
 oO 14 (.pick (.t 10) (.t 13) (.c (.bool false))),
 oA 6 14])
(.ret))⟩

def f68 : DFn := ⟨62, [.tmp 4],
    .seq (rg [oO 2 (.box 0 (.t 0)),
 oO 4 (.assign (.c (.imm .exact [])))])
(.seq (rg [oO 12 (.mkmap 26),
 oO 5 (.alloc 26),
 oE (.store 26 (.t 5) (.t 12))])
(.seq (.seq (rg [oF 13 0 2 0,
 oL 14 10 13,
 oN 15 10 14,
 oO 16 (.move (.c (.int .i64 0)))])
(.block 0 (.loop (.seq (rg [oO 17 (.bin .lss 2 (.t 16) (.t 15))])
(.seq (.cond (.t 17) (.skip) (.exit 0))
(.seq (.block 1 (.seq (rg [oM 18 16,
 oI 19 10 14 16,
 oL 20 20 19,
 oO 7 (.alloc 20),
 oA 6 18,
 oE (.store 20 (.t 7) (.t 20))])
(rg [oL 21 26 5,
 oL 22 20 7,
 oM 23 6,
 oE (.mapset 26 (.t 21) (.t 22) (.t 23))])))
(rg [oO 24 (.bin .add 2 (.t 16) (.c (.int .i64 1))),
 oM 16 24])))))))
(.seq (rg [oF 25 0 2 1,
 oL 26 9 25,
 oN 27 9 26,
 oO 28 (.mkslice true 9 (.t 27) (.t 27)),
 oO 8 (.alloc 9),
 oE (.store 9 (.t 8) (.t 28))])
(.seq (.seq (rg [oL 29 9 8,
 oN 30 9 29,
 oO 31 (.move (.c (.int .i64 0)))])
(.block 2 (.loop (.seq (rg [oO 32 (.bin .lss 2 (.t 31) (.t 30))])
(.seq (.cond (.t 32) (.skip) (.exit 2))
(.seq (.block 3 (.seq (rg [oM 33 31,
 oA 9 33])
(.region true [] [
 oL 34 9 8,
 oM 35 9,
 oF 36 0 2 0,
 oL 37 10 36,
 oN 38 10 37,
 oO 39 (.mkslice true 6 (.t 38) (.t 38)),
 oI 40 9 34 35,
 oE (.store 6 (.t 40) (.t 39))])))
(rg [oO 41 (.bin .add 2 (.t 31) (.c (.int .i64 1))),
 oM 31 41])))))))
(.seq (.seq (rg [oL 42 0 2,
 oM 43 1,
 oO 44 (.call 0 (.f 104) [(.t 42), (.t 43)])])
(.block 4 (.rfunc (.t 44) [45, 46] (.seq (rg [oA 10 45])
(rg [oO 11 (.alloc 19),
 oE (.store 19 (.t 11) (.t 46))])) (.block 5 (.region true [] [
 oL 47 9 8,
 oM 48 10,
 oI 49 9 47 48,
 oL 50 6 49,
 oL 51 26 5,
 oF 52 19 11 0,
 oL 53 20 52,
 oO 54 (.lookup 26 (.t 51) (.t 53) false),
 oI 55 6 50 54,
 oL 56 2 55,
 oF 57 19 11 1,
 oL 58 2 57,
 oO 59 (.bin .add 2 (.t 56) (.t 58)),
 oI 60 6 50 54,
 oE (.store 2 (.t 60) (.t 59))])))))
(.seq (rg [oL 61 9 8,
 oA 4 61])
(.ret)))))))⟩

def f69 : DFn := ⟨24, [.tmp 4],
    .seq (rg [oO 4 (.assign (.c (.bool false)))])
(.seq (.seq (rg [oO 5 (.assign (.c (.int .i64 1)))])
(.block 0 (.loop (.seq (.seq (rg [oM 6 5,
 oM 7 0,
 oN 8 10 7,
 oO 9 (.bin .lss 2 (.t 6) (.t 8))])
(.cond (.t 9) (.skip) (.exit 0)))
(.seq (.block 1 (.seq (.region true [] [
 oM 12 1,
 oM 13 0,
 oM 14 5,
 oO 15 (.bin .sub 2 (.t 14) (.c (.int .i64 1))),
 oI 16 10 13 15,
 oL 17 20 16,
 oM 18 0,
 oM 19 5,
 oI 20 10 18 19,
 oL 21 20 20,
 oO 22 (.call 0 (.t 12) [(.t 17), (.t 21)]),
 oO 23 (.bin .geq 2 (.t 22) (.c (.int .i64 0)))])
(.cond (.t 23) (.seq (rg [oO 4 (.assign (.c (.bool false)))])
(.ret)) (.skip))))
(rg [oM 10 5,
 oO 11 (.bin .add 2 (.t 10) (.c (.int .i64 1))),
 oA 5 11]))))))
(.seq (rg [oO 4 (.assign (.c (.bool true)))])
(.ret)))⟩

def f70 : DFn := ⟨24, [.tmp 4],
    .seq (rg [oO 2 (.box 20 (.t 0)),
 oO 3 (.box 20 (.t 1)),
 oO 4 (.assign (.c (.int .i64 0)))])
(.seq (.seq (rg [oF 5 20 2 0,
 oL 6 7 5,
 oF 7 20 3 0,
 oL 8 7 7,
 oO 9 (.bin .neq 7 (.t 6) (.t 8))])
(.cond (.t 9) (.seq (.seq (rg [oF 10 20 3 0,
 oL 11 7 10])
(.cond (.t 11) (.seq (rg [oO 4 (.assign (.c (.int .i64 (-1))))])
(.ret)) (.skip)))
(.seq (rg [oO 4 (.assign (.c (.int .i64 1)))])
(.ret))) (.skip)))
(.seq (.region true [] [
 oF 12 20 2 1,
 oL 13 2 12,
 oF 14 20 3 1,
 oL 15 2 14,
 oO 16 (.call 0 (.f 74) [(.t 13), (.t 15)]),
 oF 17 20 2 2,
 oL 18 2 17,
 oF 19 20 3 2,
 oL 20 2 19,
 oO 21 (.call 0 (.f 74) [(.t 18), (.t 20)]),
 oO 22 (.bslice false 6 2 [(0, (.t 16)), (1, (.t 21))]),
 oO 23 (.call 0 (.f 105) [(.t 22)]),
 oA 4 23])
(.ret)))⟩

def f71 : DFn := ⟨9, [.tmp 4],
    .seq (rg [oO 4 (.assign (.c (.bool false)))])
(.seq (rg [oM 5 0,
 oM 6 1,
 oO 7 (.call 0 (.f 106) [(.t 5), (.t 6)]),
 oO 8 (.bin .geq 2 (.t 7) (.c (.int .i64 0))),
 oA 4 8])
(.ret))⟩

def f72 : DFn := ⟨6, [.tmp 2],
    .seq (rg [oO 2 (.assign (.c (.bool false)))])
(.seq (rg [oM 3 0,
 oO 4 (.call 0 (.f 67) [(.t 3), (.c (.int .i64 0)), (.c (.int .i64 4096))]),
 oO 5 (.un .not (.t 4)),
 oA 2 5])
(.ret))⟩

def f73 : DFn := ⟨24, [.tmp 4],
    .seq (rg [oO 4 (.assign (.c (.bool false)))])
(.seq (.seq (rg [oO 5 (.assign (.c (.int .i64 1)))])
(.block 0 (.loop (.seq (.seq (rg [oM 6 5,
 oM 7 0,
 oN 8 6 7,
 oO 9 (.bin .lss 2 (.t 6) (.t 8))])
(.cond (.t 9) (.skip) (.exit 0)))
(.seq (.block 1 (.seq (.region true [] [
 oM 12 1,
 oM 13 0,
 oM 14 5,
 oO 15 (.bin .sub 2 (.t 14) (.c (.int .i64 1))),
 oI 16 6 13 15,
 oL 17 2 16,
 oM 18 0,
 oM 19 5,
 oI 20 6 18 19,
 oL 21 2 20,
 oO 22 (.call 0 (.t 12) [(.t 17), (.t 21)]),
 oO 23 (.bin .geq 2 (.t 22) (.c (.int .i64 0)))])
(.cond (.t 23) (.seq (rg [oO 4 (.assign (.c (.bool false)))])
(.ret)) (.skip))))
(rg [oM 10 5,
 oO 11 (.bin .add 2 (.t 10) (.c (.int .i64 1))),
 oA 5 11]))))))
(.seq (rg [oO 4 (.assign (.c (.bool true)))])
(.ret)))⟩

def f74 : DFn := ⟨20, [.tmp 4],
    .seq (rg [oO 4 (.assign (.c (.int .i64 0)))])
(.seq (rg [oM 7 0,
 oO 8 (.call 0 (.f 107) [(.t 7)]),
 oA 5 8])
(.seq (rg [oM 9 1,
 oO 10 (.call 0 (.f 107) [(.t 9)]),
 oA 6 10])
(.seq (.seq (rg [oM 11 5])
(.cond (.t 11) (.seq (.seq (rg [oM 12 6])
(.cond (.t 12) (.seq (rg [oO 4 (.assign (.c (.int .i64 0)))])
(.ret)) (.skip)))
(.seq (rg [oO 4 (.assign (.c (.int .i64 (-1))))])
(.ret))) (.skip)))
(.seq (.seq (rg [oM 13 6])
(.cond (.t 13) (.seq (rg [oO 4 (.assign (.c (.int .i64 1)))])
(.ret)) (.skip)))
(.seq (.seq (rg [oM 14 0,
 oM 15 1,
 oO 16 (.bin .lss 2 (.t 14) (.t 15))])
(.cond (.t 16) (.seq (rg [oO 4 (.assign (.c (.int .i64 (-1))))])
(.ret)) (.skip)))
(.seq (.seq (rg [oM 17 0,
 oM 18 1,
 oO 19 (.bin .gtr 2 (.t 17) (.t 18))])
(.cond (.t 19) (.seq (rg [oO 4 (.assign (.c (.int .i64 1)))])
(.ret)) (.skip)))
(.seq (rg [oO 4 (.assign (.c (.int .i64 0)))])
(.ret))))))))⟩

def f75 : DFn := ⟨24, [.tmp 4],
    .seq (rg [oO 4 (.assign (.c (.bool false)))])
(.seq (.seq (rg [oO 5 (.assign (.c (.int .i64 1)))])
(.block 0 (.loop (.seq (.seq (rg [oM 6 5,
 oM 7 0,
 oN 8 18 7,
 oO 9 (.bin .lss 2 (.t 6) (.t 8))])
(.cond (.t 9) (.skip) (.exit 0)))
(.seq (.block 1 (.seq (.region true [] [
 oM 12 1,
 oM 13 0,
 oM 14 5,
 oO 15 (.bin .sub 2 (.t 14) (.c (.int .i64 1))),
 oI 16 18 13 15,
 oL 17 19 16,
 oM 18 0,
 oM 19 5,
 oI 20 18 18 19,
 oL 21 19 20,
 oO 22 (.call 0 (.t 12) [(.t 17), (.t 21)]),
 oO 23 (.bin .geq 2 (.t 22) (.c (.int .i64 0)))])
(.cond (.t 23) (.seq (rg [oO 4 (.assign (.c (.bool false)))])
(.ret)) (.skip))))
(rg [oM 10 5,
 oO 11 (.bin .add 2 (.t 10) (.c (.int .i64 1))),
 oA 5 11]))))))
(.seq (rg [oO 4 (.assign (.c (.bool true)))])
(.ret)))⟩

def f76 : DFn := ⟨10, [.tmp 4],
    .seq (rg [oO 2 (.box 19 (.t 0)),
 oO 3 (.box 19 (.t 1)),
 oO 4 (.assign (.c (.int .i64 0)))])
(.seq (rg [oF 5 19 2 0,
 oL 6 20 5,
 oF 7 19 3 0,
 oL 8 20 7,
 oO 9 (.call 0 (.f 70) [(.t 6), (.t 8)]),
 oA 4 9])
(.ret))⟩

def f78 : DFn := ⟨32, [.tmp 4],
    .seq (rg [oO 2 (.box 0 (.t 0)),
 oO 4 (.assign (.c (.bool false)))])
(.seq (.seq (rg [oM 6 1,
 oN 7 6 6,
 oF 8 0 2 2,
 oL 9 14 8,
 oN 10 14 9,
 oO 11 (.bin .gtr 2 (.t 7) (.t 10))])
(.cond (.t 11) (.seq (rg [oO 4 (.assign (.c (.bool false)))])
(.ret)) (.skip)))
(.seq (.seq (rg [oO 5 (.assign (.c (.int .i64 0)))])
(.block 0 (.loop (.seq (.seq (rg [oM 12 5,
 oM 13 1,
 oN 14 6 13,
 oO 15 (.bin .lss 2 (.t 12) (.t 14))])
(.cond (.t 15) (.skip) (.exit 0)))
(.seq (.block 1 (.seq (.region true [] [
 oM 18 1,
 oM 19 5,
 oI 20 6 18 19,
 oL 21 2 20,
 oF 22 0 2 2,
 oL 23 14 22,
 oM 24 5,
 oI 25 14 23 24,
 oF 26 15 25 3,
 oL 27 16 26,
 oN 28 16 27,
 oO 29 (.bin .sub 2 (.t 28) (.c (.int .i64 1))),
 oO 30 (.call 0 (.f 79) [(.t 21), (.c (.int .i64 0)), (.t 29)]),
 oO 31 (.un .not (.t 30))])
(.cond (.t 31) (.seq (rg [oO 4 (.assign (.c (.bool false)))])
(.ret)) (.skip))))
(rg [oM 16 5,
 oO 17 (.bin .add 2 (.t 16) (.c (.int .i64 1))),
 oA 5 17]))))))
(.seq (rg [oO 4 (.assign (.c (.bool true)))])
(.ret))))⟩

def f79 : DFn := ⟨15, [.tmp 6],
    .seq (rg [oO 6 (.assign (.c (.bool false)))])
(.seq (rg [oM 7 1,
 oM 8 0,
 oO 9 (.bin .leq 2 (.t 7) (.t 8)),
 oM 10 9,
⟨(some 11), .move (.t 0), (some (10, true))⟩,
⟨(some 12), .move (.t 2), (some (10, true))⟩,
⟨(some 13), .bin .leq 2 (.t 11) (.t 12), (some (10, true))⟩,
 oO 14 (.pick (.t 10) (.t 13) (.c (.bool false))),
 oA 6 14])
(.ret))⟩

def f80 : DFn := ⟨71, [.tmp 6],
    .seq (rg [oO 3 (.box 0 (.t 0)),
 oO 6 (.assign (.c (.imm .exact [])))])
(.seq (rg [oF 12 0 3 0,
 oL 13 10 12,
 oN 14 10 13,
 oO 15 (.mkslice true 6 (.t 14) (.t 14)),
 oA 7 15])
(.seq (.seq (rg [oO 8 (.assign (.c (.int .i64 0)))])
(.block 0 (.loop (.seq (.seq (rg [oM 16 8,
 oM 17 1,
 oN 18 6 17,
 oO 19 (.bin .lss 2 (.t 16) (.t 18))])
(.cond (.t 19) (.skip) (.exit 0)))
(.seq (.block 1 (.seq (.seq (rg [oF 22 0 3 2,
 oL 23 14 22,
 oM 24 8,
 oI 25 14 23 24,
 oL 26 15 25,
 oM 27 2,
 oO 28 (.call 0 (.f 108) [(.t 26), (.t 27)]),
 oO 29 (.un .not (.t 28))])
(.cond (.t 29) (.exit 1) (.skip)))
(.seq (.region true [] [
 oF 30 0 3 2,
 oL 31 14 30,
 oM 32 8,
 oI 33 14 31 32,
 oF 34 15 33 3,
 oL 35 16 34,
 oM 36 1,
 oM 37 8,
 oI 38 6 36 37,
 oL 39 2 38,
 oI 40 16 35 39,
 oF 41 17 40 3,
 oL 42 18 41,
 oA 9 42])
(.seq (rg [oO 10 (.assign (.c (.int .i64 0)))])
(.block 2 (.loop (.seq (.seq (rg [oM 43 10,
 oM 44 9,
 oN 45 18 44,
 oO 46 (.bin .lss 2 (.t 43) (.t 45))])
(.cond (.t 46) (.skip) (.exit 2)))
(.seq (.block 3 (.seq (.region true [] [
 oF 49 0 3 0,
 oL 50 10 49,
 oM 51 9,
 oM 52 10,
 oI 53 18 51 52,
 oF 54 19 53 0,
 oL 55 20 54,
 oO 56 (.call 0 (.f 109) [(.t 50), (.t 55)]),
 oA 11 56])
(.region true [] [
 oM 57 7,
 oM 58 11,
 oM 59 7,
 oM 60 11,
 oI 61 6 59 60,
 oL 62 2 61,
 oM 63 9,
 oM 64 10,
 oI 65 18 63 64,
 oF 66 19 65 1,
 oL 67 2 66,
 oO 68 (.bin .add 2 (.t 62) (.t 67)),
 oI 69 6 57 58,
 oE (.store 2 (.t 69) (.t 68))])))
(rg [oM 47 10,
 oO 48 (.bin .add 2 (.t 47) (.c (.int .i64 1))),
 oA 10 48])))))))))
(rg [oM 20 8,
 oO 21 (.bin .add 2 (.t 20) (.c (.int .i64 1))),
 oA 8 21]))))))
(.seq (rg [oM 70 7,
 oA 6 70])
(.ret))))⟩

def f81 : DFn := ⟨27, [.tmp 4],
    .seq (rg [oO 2 (.box 20 (.t 0)),
 oO 3 (.box 20 (.t 1)),
 oO 4 (.assign (.c (.bool false)))])
(.seq (.seq (rg [oF 5 20 2 0,
 oL 6 7 5,
 oF 7 20 3 0,
 oL 8 7 7,
 oO 9 (.bin .neq 7 (.t 6) (.t 8))])
(.cond (.t 9) (.seq (rg [oF 10 20 3 0,
 oL 11 7 10,
 oA 4 11])
(.ret)) (.skip)))
(.seq (.seq (rg [oF 12 20 2 1,
 oL 13 2 12,
 oF 14 20 3 1,
 oL 15 2 14,
 oO 16 (.bin .neq 2 (.t 13) (.t 15))])
(.cond (.t 16) (.seq (rg [oF 17 20 2 1,
 oL 18 2 17,
 oF 19 20 3 1,
 oL 20 2 19,
 oO 21 (.bin .lss 2 (.t 18) (.t 20)),
 oA 4 21])
(.ret)) (.skip)))
(.seq (rg [oF 22 20 2 2,
 oL 23 2 22,
 oF 24 20 3 2,
 oL 25 2 24,
 oO 26 (.bin .lss 2 (.t 23) (.t 25)),
 oA 4 26])
(.ret))))⟩

def f82 : DFn := ⟨131, [.tmp 4],
    .seq (rg [oO 2 (.box 0 (.t 0)),
 oO 3 (.box 15 (.t 1)),
 oO 4 (.assign (.c (.bool false)))])
(.seq (.seq (rg [oF 10 15 3 2,
 oL 11 6 10,
 oN 12 6 11,
 oO 13 (.bin .lss 2 (.t 12) (.c (.int .i64 1))),
 oM 14 13,
⟨(some 15), .faddr 15 (.t 3) 3, (some (14, false))⟩,
⟨(some 16), .load 16 (.t 15), (some (14, false))⟩,
⟨(some 17), .len 16 (.t 16), (some (14, false))⟩,
⟨(some 18), .bin .lss 2 (.t 17) (.c (.int .i64 1)), (some (14, false))⟩,
 oO 19 (.pick (.t 14) (.c (.bool true)) (.t 18)),
 oM 20 19,
⟨(some 21), .faddr 15 (.t 3) 3, (some (20, false))⟩,
⟨(some 22), .load 16 (.t 21), (some (20, false))⟩,
⟨(some 23), .len 16 (.t 22), (some (20, false))⟩,
⟨(some 24), .bin .gtr 2 (.t 23) (.c (.int .i64 96)), (some (20, false))⟩,
 oO 25 (.pick (.t 20) (.c (.bool true)) (.t 24))])
(.cond (.t 25) (.seq (rg [oO 4 (.assign (.c (.bool false)))])
(.ret)) (.skip)))
(.seq (.seq (rg [oO 5 (.assign (.c (.int .i64 0)))])
(.block 0 (.loop (.seq (.seq (rg [oM 26 5,
 oF 27 15 3 2,
 oL 28 6 27,
 oN 29 6 28,
 oO 30 (.bin .lss 2 (.t 26) (.t 29))])
(.cond (.t 30) (.skip) (.exit 0)))
(.seq (.block 1 (.seq (.region true [] [
 oF 33 15 3 2,
 oL 34 6 33,
 oM 35 5,
 oI 36 6 34 35,
 oL 37 2 36,
 oF 38 0 2 1,
 oL 39 9 38,
 oN 40 9 39,
 oO 41 (.bin .sub 2 (.t 40) (.c (.int .i64 1))),
 oO 42 (.call 0 (.f 79) [(.t 37), (.c (.int .i64 0)), (.t 41)]),
 oO 43 (.un .not (.t 42)),
 oM 44 43,
⟨(some 45), .move (.t 5), (some (44, false))⟩,
⟨(some 46), .bin .gtr 2 (.t 45) (.c (.int .i64 0)), (some (44, false))⟩,
⟨(some 47), .move (.t 46), (some (44, false))⟩,
⟨(some 48), .faddr 15 (.t 3) 2, (some (47, true))⟩,
⟨(some 49), .load 6 (.t 48), (some (47, true))⟩,
⟨(some 50), .move (.t 5), (some (47, true))⟩,
⟨(some 51), .bin .sub 2 (.t 50) (.c (.int .i64 1)), (some (47, true))⟩,
⟨(some 52), .iaddr 6 (.t 49) (.t 51), (some (47, true))⟩,
⟨(some 53), .load 2 (.t 52), (some (47, true))⟩,
⟨(some 54), .faddr 15 (.t 3) 2, (some (47, true))⟩,
⟨(some 55), .load 6 (.t 54), (some (47, true))⟩,
⟨(some 56), .move (.t 5), (some (47, true))⟩,
⟨(some 57), .iaddr 6 (.t 55) (.t 56), (some (47, true))⟩,
⟨(some 58), .load 2 (.t 57), (some (47, true))⟩,
⟨(some 59), .bin .geq 2 (.t 53) (.t 58), (some (47, true))⟩,
⟨(some 60), .pick (.t 47) (.t 59) (.c (.bool false)), (some (44, false))⟩,
 oO 61 (.pick (.t 44) (.c (.bool true)) (.t 60))])
(.cond (.t 61) (.seq (rg [oO 4 (.assign (.c (.bool false)))])
(.ret)) (.skip))))
(rg [oM 31 5,
 oO 32 (.bin .add 2 (.t 31) (.c (.int .i64 1))),
 oA 5 32]))))))
(.seq (.seq (rg [oO 6 (.assign (.c (.int .i64 0)))])
(.block 2 (.loop (.seq (.seq (rg [oM 62 6,
 oF 63 15 3 3,
 oL 64 16 63,
 oN 65 16 64,
 oO 66 (.bin .lss 2 (.t 62) (.t 65))])
(.cond (.t 66) (.skip) (.exit 2)))
(.seq (.block 3 (.seq (rg [oF 69 15 3 3,
 oL 70 16 69,
 oM 71 6,
 oI 72 16 70 71,
 oL 73 17 72,
 oO 7 (.alloc 17),
 oE (.store 17 (.t 7) (.t 73))])
(.seq (.seq (rg [oF 74 17 7 0,
 oL 75 2 74,
 oO 76 (.call 0 (.f 79) [(.t 75), (.c (.int .i64 0)), (.c (.int .i64 1048576))]),
 oO 77 (.un .not (.t 76)),
 oM 78 77,
⟨(some 79), .faddr 17 (.t 7) 1, (some (78, false))⟩,
⟨(some 80), .load 2 (.t 79), (some (78, false))⟩,
⟨(some 81), .call 0 (.f 79) [(.t 80), (.c (.int .i64 0)), (.c (.int .i64 1048576))], (some (78, false))⟩,
⟨(some 82), .un .not (.t 81), (some (78, false))⟩,
 oO 83 (.pick (.t 78) (.c (.bool true)) (.t 82)),
 oM 84 83,
⟨(some 85), .faddr 17 (.t 7) 2, (some (84, false))⟩,
⟨(some 86), .load 2 (.t 85), (some (84, false))⟩,
⟨(some 87), .call 0 (.f 79) [(.t 86), (.c (.int .i64 0)), (.c (.int .i64 1048576))], (some (84, false))⟩,
⟨(some 88), .un .not (.t 87), (some (84, false))⟩,
 oO 89 (.pick (.t 84) (.c (.bool true)) (.t 88))])
(.cond (.t 89) (.seq (rg [oO 4 (.assign (.c (.bool false)))])
(.ret)) (.skip)))
(.seq (rg [oO 8 (.assign (.c (.int .i64 0)))])
(.block 4 (.loop (.seq (.seq (rg [oM 90 8,
 oF 91 17 7 3,
 oL 92 18 91,
 oN 93 18 92,
 oO 94 (.bin .lss 2 (.t 90) (.t 93))])
(.cond (.t 94) (.skip) (.exit 4)))
(.seq (.block 5 (.seq (rg [oF 97 17 7 3,
 oL 98 18 97,
 oM 99 8,
 oI 100 18 98 99,
 oL 101 19 100,
 oO 9 (.alloc 19),
 oE (.store 19 (.t 9) (.t 101))])
(.seq (.region true [] [
 oF 102 0 2 0,
 oL 103 10 102,
 oF 104 19 9 0,
 oL 105 20 104,
 oO 106 (.call 0 (.f 109) [(.t 103), (.t 105)]),
 oO 107 (.bin .lss 2 (.t 106) (.c (.int .i64 0))),
 oM 108 107,
⟨(some 109), .faddr 19 (.t 9) 1, (some (108, false))⟩,
⟨(some 110), .load 2 (.t 109), (some (108, false))⟩,
⟨(some 111), .call 0 (.f 79) [(.t 110), (.c (.int .i64 1)), (.c (.int .i64 8))], (some (108, false))⟩,
⟨(some 112), .un .not (.t 111), (some (108, false))⟩,
 oO 113 (.pick (.t 108) (.c (.bool true)) (.t 112)),
 oM 114 113,
⟨(some 115), .move (.t 8), (some (114, false))⟩,
⟨(some 116), .bin .gtr 2 (.t 115) (.c (.int .i64 0)), (some (114, false))⟩,
⟨(some 117), .move (.t 116), (some (114, false))⟩,
⟨(some 118), .faddr 17 (.t 7) 3, (some (117, true))⟩,
⟨(some 119), .load 18 (.t 118), (some (117, true))⟩,
⟨(some 120), .move (.t 8), (some (117, true))⟩,
⟨(some 121), .bin .sub 2 (.t 120) (.c (.int .i64 1)), (some (117, true))⟩,
⟨(some 122), .iaddr 18 (.t 119) (.t 121), (some (117, true))⟩,
⟨(some 123), .faddr 19 (.t 122) 0, (some (117, true))⟩,
⟨(some 124), .load 20 (.t 123), (some (117, true))⟩,
⟨(some 125), .faddr 19 (.t 9) 0, (some (117, true))⟩,
⟨(some 126), .load 20 (.t 125), (some (117, true))⟩,
⟨(some 127), .call 0 (.f 81) [(.t 124), (.t 126)], (some (117, true))⟩,
⟨(some 128), .un .not (.t 127), (some (117, true))⟩,
⟨(some 129), .pick (.t 117) (.t 128) (.c (.bool false)), (some (114, false))⟩,
 oO 130 (.pick (.t 114) (.c (.bool true)) (.t 129))])
(.cond (.t 130) (.seq (rg [oO 4 (.assign (.c (.bool false)))])
(.ret)) (.skip)))))
(rg [oM 95 8,
 oO 96 (.bin .add 2 (.t 95) (.c (.int .i64 1))),
 oA 8 96])))))))))
(rg [oM 67 6,
 oO 68 (.bin .add 2 (.t 67) (.c (.int .i64 1))),
 oA 6 68]))))))
(.seq (rg [oO 4 (.assign (.c (.bool true)))])
(.ret)))))⟩

def f83 : DFn := ⟨18, [.tmp 4],
    .seq (rg [oO 2 (.box 0 (.t 0)),
 oO 4 (.assign (.c (.int .i64 0)))])
(.seq (.seq (rg [oL 6 0 2,
 oM 7 1,
 oO 8 (.call 0 (.f 66) [(.t 6), (.t 7)]),
 oA 5 8])
(.seq (rg [oM 9 5,
 oO 10 (.bin .neq 3 (.t 9) (.c (.int .i64 0)))])
(.cond (.t 10) (.seq (rg [oM 11 5,
 oA 4 11])
(.ret)) (.skip))))
(.seq (.seq (rg [oM 12 1,
 oN 13 6 12,
 oF 14 0 2 2,
 oL 15 14 14,
 oN 16 14 15,
 oO 17 (.bin .neq 2 (.t 13) (.t 16))])
(.cond (.t 17) (.seq (rg [oO 4 (.assign (.c (.int .i64 270)))])
(.ret)) (.skip)))
(.seq (rg [oO 4 (.assign (.c (.int .i64 0)))])
(.ret))))⟩

def f84 : DFn := ⟨6, [.tmp 4],
    .seq (rg [oO 2 (.box 0 (.t 0)),
 oO 3 (.box 6 (.t 1)),
 oO 4 (.assign (.c .nilfn))])
(.seq (rg [oO 5 (.mkfn 110 [(.t 2), (.t 3)]),
 oA 4 5])
(.ret))⟩

def f85 : DFn := ⟨43, [.tmp 4],
    .seq (rg [oO 2 (.box 0 (.t 0)),
 oO 4 (.assign (.c (.int .i64 0)))])
(.seq (rg [oO 5 (.assign (.c (.int .i64 0)))])
(.seq (.seq (rg [oO 6 (.assign (.c (.int .i64 0)))])
(.block 0 (.loop (.seq (.seq (rg [oM 9 6,
 oF 10 0 2 1,
 oL 11 9 10,
 oN 12 9 11,
 oO 13 (.bin .lss 2 (.t 9) (.t 12))])
(.cond (.t 13) (.skip) (.exit 0)))
(.seq (.block 1 (.seq (rg [oL 16 0 2,
 oM 17 1,
 oM 18 6,
 oO 19 (.call 0 (.f 80) [(.t 16), (.t 17), (.t 18)]),
 oA 7 19])
(.seq (rg [oO 8 (.assign (.c (.int .i64 0)))])
(.block 2 (.loop (.seq (.seq (rg [oM 20 8,
 oM 21 7,
 oN 22 6 21,
 oO 23 (.bin .lss 2 (.t 20) (.t 22))])
(.cond (.t 23) (.skip) (.exit 2)))
(.seq (.block 3 (.region true [] [
 oM 26 5,
 oM 27 7,
 oM 28 8,
 oI 29 6 27 28,
 oL 30 2 29,
 oF 31 0 2 1,
 oL 32 9 31,
 oM 33 6,
 oI 34 9 32 33,
 oL 35 6 34,
 oM 36 8,
 oI 37 6 35 36,
 oL 38 2 37,
 oO 39 (.bin .sub 2 (.t 30) (.t 38)),
 oO 40 (.maxi [(.c (.int .i64 0)), (.t 39)]),
 oO 41 (.bin .add 2 (.t 26) (.t 40)),
 oA 5 41]))
(rg [oM 24 8,
 oO 25 (.bin .add 2 (.t 24) (.c (.int .i64 1))),
 oA 8 25]))))))))
(rg [oM 14 6,
 oO 15 (.bin .add 2 (.t 14) (.c (.int .i64 1))),
 oA 6 15]))))))
(.seq (rg [oM 42 5,
 oA 4 42])
(.ret))))⟩

def f87 : DFn := ⟨36, [.tmp 4],
    .seq (rg [oO 4 (.assign (.c (.int .i64 0)))])
(.seq (.seq (rg [oM 9 0,
 oN 10 6 9,
 oO 11 (.move (.c (.int .i64 0)))])
(.block 0 (.loop (.seq (rg [oO 12 (.bin .lss 2 (.t 11) (.t 10))])
(.seq (.cond (.t 12) (.skip) (.exit 0))
(.seq (.block 1 (.seq (rg [oM 13 11,
 oI 14 6 9 11,
 oL 15 2 14,
 oA 5 13,
 oA 6 15])
(.seq (.seq (rg [oM 16 5,
 oM 17 1,
 oN 18 6 17,
 oO 19 (.bin .geq 2 (.t 16) (.t 18))])
(.cond (.t 19) (.seq (rg [oO 4 (.assign (.c (.int .i64 1)))])
(.ret)) (.skip)))
(.seq (rg [oM 20 1,
 oM 21 5,
 oI 22 6 20 21,
 oL 23 2 22,
 oA 7 23])
(.seq (rg [oM 24 6,
 oM 25 7,
 oO 26 (.call 0 (.f 74) [(.t 24), (.t 25)]),
 oA 8 26])
(.seq (rg [oM 27 8,
 oO 28 (.bin .neq 2 (.t 27) (.c (.int .i64 0)))])
(.cond (.t 28) (.seq (rg [oM 29 8,
 oA 4 29])
(.ret)) (.skip))))))))
(rg [oO 30 (.bin .add 2 (.t 11) (.c (.int .i64 1))),
 oM 11 30])))))))
(.seq (.seq (rg [oM 31 0,
 oN 32 6 31,
 oM 33 1,
 oN 34 6 33,
 oO 35 (.bin .lss 2 (.t 32) (.t 34))])
(.cond (.t 35) (.seq (rg [oO 4 (.assign (.c (.int .i64 (-1))))])
(.ret)) (.skip)))
(.seq (rg [oO 4 (.assign (.c (.int .i64 0)))])
(.ret))))⟩

def f94 : DFn := ⟨9, [.tmp 4],
    .seq (rg [oO 4 (.assign (.c (.bool false)))])
(.seq (rg [oM 5 0,
 oM 6 1,
 oO 7 (.call 0 (.f 113) [(.t 5), (.t 6)]),
 oO 8 (.bin .geq 2 (.t 7) (.c (.int .i64 0))),
 oA 4 8])
(.ret))⟩

def f96 : DFn := ⟨8, [.tmp 2],
    .seq (rg [ oO 2 (.assign (.c (.imm .exact [])))]) (.seq (rg [oO 5 (.bslice false 6 0 []),
 oM 6 0,
 oO 7 (.append 1 6 6 (.t 5) (.t 6)),
 oA 2 7]) .ret)⟩

def f102 : DFn := ⟨43, [],
    .seq (rg [oF 7 0 1 2,
 oL 8 14 7,
 oN 9 14 8,
 oO 10 (.move (.c (.int .i64 0)))])
(.block 0 (.loop (.seq (rg [oO 11 (.bin .lss 2 (.t 10) (.t 9))])
(.seq (.cond (.t 11) (.skip) (.exit 0))
(.seq (.block 1 (.seq (rg [oM 12 10,
 oI 13 14 8 10,
 oL 14 15 13,
 oO 5 (.alloc 15),
 oA 4 12,
 oE (.store 15 (.t 5) (.t 14))])
(.seq (.region true [] [
 oF 15 15 5 3,
 oL 16 16 15,
 oO 17 (.iaddr 16 (.t 16) (.c (.int .i64 0))),
 oL 18 17 17,
 oF 19 15 5 3,
 oL 20 16 19,
 oO 21 (.slice 16 (.t 20) (some (.c (.int .i64 1))) none none),
 oO 22 (.call 0 (.f 122) [(.t 18), (.t 21)]),
 oO 6 (.alloc 17),
 oE (.store 17 (.t 6) (.t 22))])
(.seq (.seq (rg [oM 23 4,
 oL 24 1 2,
 oN 25 1 24,
 oO 26 (.bin .lss 2 (.t 23) (.t 25))])
(.cond (.t 26) (.region true [] [
 oF 27 15 5 3,
 oL 28 16 27,
 oL 29 1 2,
 oM 30 4,
 oI 31 1 29 30,
 oL 32 2 31,
 oI 33 16 28 32,
 oL 34 17 33,
 oE (.store 17 (.t 6) (.t 34))]) (.skip)))
(.seq (rg [oM 35 0,
 oF 36 15 5 2,
 oL 37 6 36,
 oN 38 6 37,
 oL 39 17 6,
 oO 40 (.call 2 (.t 35) [(.t 38), (.t 39)]),
 oO 41 (.un .not (.t 40))])
(.cond (.t 41) (.ret) (.skip)))))))
(rg [oO 42 (.bin .add 2 (.t 10) (.c (.int .i64 1))),
 oM 10 42]))))))⟩

def f103 : DFn := ⟨37, [.tmp 4],
    .seq (rg [oO 2 (.box 0 (.t 0)),
 oO 4 (.assign (.c (.bool false)))])
(.seq (.seq (rg [oM 6 1,
 oN 7 1 6,
 oF 8 0 2 2,
 oL 9 14 8,
 oN 10 14 9,
 oO 11 (.bin .gtr 2 (.t 7) (.t 10))])
(.cond (.t 11) (.seq (rg [oO 4 (.assign (.c (.bool false)))])
(.ret)) (.skip)))
(.seq (.seq (rg [oO 5 (.assign (.c (.int .i64 0)))])
(.block 0 (.loop (.seq (.seq (rg [oM 12 5,
 oM 13 1,
 oN 14 1 13,
 oO 15 (.bin .lss 2 (.t 12) (.t 14))])
(.cond (.t 15) (.skip) (.exit 0)))
(.seq (.block 1 (.seq (.region true [] [
 oM 18 1,
 oM 19 5,
 oI 20 1 18 19,
 oL 21 2 20,
 oO 22 (.bin .lss 2 (.t 21) (.c (.int .i64 0))),
 oM 23 22,
⟨(some 24), .move (.t 1), (some (23, false))⟩,
⟨(some 25), .move (.t 5), (some (23, false))⟩,
⟨(some 26), .iaddr 1 (.t 24) (.t 25), (some (23, false))⟩,
⟨(some 27), .load 2 (.t 26), (some (23, false))⟩,
⟨(some 28), .faddr 0 (.t 2) 2, (some (23, false))⟩,
⟨(some 29), .load 14 (.t 28), (some (23, false))⟩,
⟨(some 30), .move (.t 5), (some (23, false))⟩,
⟨(some 31), .iaddr 14 (.t 29) (.t 30), (some (23, false))⟩,
⟨(some 32), .faddr 15 (.t 31) 3, (some (23, false))⟩,
⟨(some 33), .load 16 (.t 32), (some (23, false))⟩,
⟨(some 34), .len 16 (.t 33), (some (23, false))⟩,
⟨(some 35), .bin .geq 2 (.t 27) (.t 34), (some (23, false))⟩,
 oO 36 (.pick (.t 23) (.c (.bool true)) (.t 35))])
(.cond (.t 36) (.seq (rg [oO 4 (.assign (.c (.bool false)))])
(.ret)) (.skip))))
(rg [oM 16 5,
 oO 17 (.bin .add 2 (.t 16) (.c (.int .i64 1))),
 oA 5 17]))))))
(.seq (rg [oO 4 (.assign (.c (.bool true)))])
(.ret))))⟩

def f104 : DFn := ⟨6, [.tmp 4],
    .seq (rg [oO 2 (.box 0 (.t 0)),
 oO 3 (.box 6 (.t 1)),
 oO 4 (.assign (.c .nilfn))])
(.seq (rg [oO 5 (.mkfn 123 [(.t 3), (.t 2)]),
 oA 4 5])
(.ret))⟩

def f105 : DFn := ⟨18, [.tmp 2],
    .seq (rg [oO 2 (.assign (.c (.int .i64 0)))])
(.seq (rg [oO 3 (.assign (.c (.int .i64 0)))])
(.seq (.seq (rg [oM 6 0,
 oN 7 6 6,
 oO 8 (.move (.c (.int .i64 0)))])
(.block 0 (.loop (.seq (rg [oO 9 (.bin .lss 2 (.t 8) (.t 7))])
(.seq (.cond (.t 9) (.skip) (.exit 0))
(.seq (.block 1 (.seq (rg [oI 10 6 6 8,
 oL 11 2 10,
 oA 5 11])
(.seq (rg [oM 12 5,
 oM 13 3,
 oO 14 (.bin .neq 2 (.t 12) (.t 13))])
(.cond (.t 14) (.seq (rg [oM 15 5,
 oA 2 15])
(.ret)) (.skip)))))
(rg [oO 16 (.bin .add 2 (.t 8) (.c (.int .i64 1))),
 oM 8 16])))))))
(.seq (rg [oM 17 3,
 oA 2 17])
(.ret))))⟩

def f106 : DFn := ⟨19, [.tmp 4],
    .seq (rg [oO 4 (.assign (.c (.int .i64 0)))])
(.seq (.seq (rg [oM 6 0,
 oN 7 6 6,
 oO 8 (.move (.c (.int .i64 0)))])
(.block 0 (.loop (.seq (rg [oO 9 (.bin .lss 2 (.t 8) (.t 7))])
(.seq (.cond (.t 9) (.skip) (.exit 0))
(.seq (.block 1 (.seq (rg [oM 10 8,
 oA 5 10])
(.seq (rg [oM 11 1,
 oM 12 0,
 oM 13 5,
 oI 14 6 12 13,
 oL 15 2 14,
 oO 16 (.call 0 (.t 11) [(.t 15)])])
(.cond (.t 16) (.seq (rg [oM 17 5,
 oA 4 17])
(.ret)) (.skip)))))
(rg [oO 18 (.bin .add 2 (.t 8) (.c (.int .i64 1))),
 oM 8 18])))))))
(.seq (rg [oO 4 (.assign (.c (.int .i64 (-1))))])
(.ret)))⟩

def f107 : DFn := ⟨6, [.tmp 2],
    .seq (rg [oO 2 (.assign (.c (.bool false)))])
(.seq (rg [oM 3 0,
 oM 4 0,
 oO 5 (.bin .neq 2 (.t 3) (.t 4)),
 oA 2 5])
(.ret))⟩

def f108 : DFn := ⟨20, [.tmp 4],
    .seq (rg [oO 2 (.box 15 (.t 0)),
 oO 4 (.assign (.c (.bool false)))])
(.seq (.seq (rg [oO 5 (.assign (.c (.int .i64 0)))])
(.block 0 (.loop (.seq (.seq (rg [oM 6 5,
 oF 7 15 2 2,
 oL 8 6 7,
 oN 9 6 8,
 oO 10 (.bin .lss 2 (.t 6) (.t 9))])
(.cond (.t 10) (.skip) (.exit 0)))
(.seq (.block 1 (.seq (rg [oF 13 15 2 2,
 oL 14 6 13,
 oM 15 5,
 oI 16 6 14 15,
 oL 17 2 16,
 oM 18 1,
 oO 19 (.bin .eql 2 (.t 17) (.t 18))])
(.cond (.t 19) (.seq (rg [oO 4 (.assign (.c (.bool true)))])
(.ret)) (.skip))))
(rg [oM 11 5,
 oO 12 (.bin .add 2 (.t 11) (.c (.int .i64 1))),
 oA 5 12]))))))
(.seq (rg [oO 4 (.assign (.c (.bool false)))])
(.ret)))⟩

def f109 : DFn := ⟨19, [.tmp 4],
    .seq (rg [oO 3 (.box 20 (.t 1)),
 oO 4 (.assign (.c (.int .i64 0)))])
(.seq (.seq (rg [oO 5 (.assign (.c (.int .i64 0)))])
(.block 0 (.loop (.seq (.seq (rg [oM 6 5,
 oM 7 0,
 oN 8 10 7,
 oO 9 (.bin .lss 2 (.t 6) (.t 8))])
(.cond (.t 9) (.skip) (.exit 0)))
(.seq (.block 1 (.seq (.region true [] [
 oM 12 0,
 oM 13 5,
 oI 14 10 12 13,
 oL 15 20 14,
 oL 16 20 3,
 oO 17 (.bin .eql 20 (.t 15) (.t 16))])
(.cond (.t 17) (.seq (rg [oM 18 5,
 oA 4 18])
(.ret)) (.skip))))
(rg [oM 10 5,
 oO 11 (.bin .add 2 (.t 10) (.c (.int .i64 1))),
 oA 5 11]))))))
(.seq (rg [oO 4 (.assign (.c (.int .i64 (-1))))])
(.ret)))⟩

def f110 : DFn := ⟨48, [],
    .seq (rg [oL 9 0 1,
 oL 10 6 2,
 oO 11 (.call 0 (.f 68) [(.t 9), (.t 10)]),
 oN 12 9 11,
 oO 13 (.move (.c (.int .i64 0)))])
(.block 0 (.loop (.seq (rg [oO 14 (.bin .lss 2 (.t 13) (.t 12))])
(.seq (.cond (.t 14) (.skip) (.exit 0))
(.seq (.block 1 (.seq (rg [oM 15 13,
 oI 16 9 11 13,
 oL 17 6 16,
 oA 4 15,
 oA 5 17])
(.seq (rg [oM 18 5,
 oN 19 6 18,
 oO 20 (.move (.c (.int .i64 0)))])
(.block 2 (.loop (.seq (rg [oO 21 (.bin .lss 2 (.t 20) (.t 19))])
(.seq (.cond (.t 21) (.skip) (.exit 2))
(.seq (.block 3 (.seq (rg [oM 22 20,
 oI 23 6 18 20,
 oL 24 2 23,
 oA 6 22,
 oA 7 24])
(.seq (rg [oM 25 7,
 oF 26 0 1 1,
 oL 27 9 26,
 oM 28 4,
 oI 29 9 27 28,
 oL 30 6 29,
 oM 31 6,
 oI 32 6 30 31,
 oL 33 2 32,
 oO 34 (.bin .sub 2 (.t 25) (.t 33)),
 oA 8 34])
(.seq (rg [oM 35 8,
 oO 36 (.bin .gtr 2 (.t 35) (.c (.int .i64 0))),
 oM 37 36,
⟨(some 38), .move (.t 0), (some (37, true))⟩,
⟨(some 39), .move (.t 4), (some (37, true))⟩,
⟨(some 40), .move (.t 6), (some (37, true))⟩,
⟨(some 41), .build 11 [(0, (.t 39)), (1, (.t 40))], (some (37, true))⟩,
⟨(some 42), .move (.t 8), (some (37, true))⟩,
⟨(some 43), .call 2 (.t 38) [(.t 41), (.t 42)], (some (37, true))⟩,
⟨(some 44), .un .not (.t 43), (some (37, true))⟩,
 oO 45 (.pick (.t 37) (.t 44) (.c (.bool false)))])
(.cond (.t 45) (.ret) (.skip))))))
(rg [oO 46 (.bin .add 2 (.t 20) (.c (.int .i64 1))),
 oM 20 46])))))))))
(rg [oO 47 (.bin .add 2 (.t 13) (.c (.int .i64 1))),
 oM 13 47]))))))⟩

def f111 : DFn := ⟨30, [.tmp 4],
    .seq (rg [oO 4 (.assign (.c (.int .i64 0)))])
(.seq (.seq (rg [oO 5 (.assign (.c (.int .i64 0)))])
(.block 0 (.loop (.seq (.seq (rg [oM 6 5,
 oM 7 0,
 oN 8 6 7,
 oO 9 (.bin .lss 2 (.t 6) (.t 8))])
(.cond (.t 9) (.skip) (.exit 0)))
(.seq (.block 1 (.seq (.seq (.region true [] [
 oM 12 0,
 oM 13 5,
 oI 14 6 12 13,
 oL 15 2 14,
 oM 16 1,
 oM 17 5,
 oI 18 6 16 17,
 oL 19 2 18,
 oO 20 (.bin .lss 2 (.t 15) (.t 19))])
(.cond (.t 20) (.seq (rg [oO 4 (.assign (.c (.int .i64 (-1))))])
(.ret)) (.skip)))
(.seq (.region true [] [
 oM 21 0,
 oM 22 5,
 oI 23 6 21 22,
 oL 24 2 23,
 oM 25 1,
 oM 26 5,
 oI 27 6 25 26,
 oL 28 2 27,
 oO 29 (.bin .gtr 2 (.t 24) (.t 28))])
(.cond (.t 29) (.seq (rg [oO 4 (.assign (.c (.int .i64 1)))])
(.ret)) (.skip)))))
(rg [oM 10 5,
 oO 11 (.bin .add 2 (.t 10) (.c (.int .i64 1))),
 oA 5 11]))))))
(.seq (rg [oO 4 (.assign (.c (.int .i64 0)))])
(.ret)))⟩

def f113 : DFn := ⟨19, [.tmp 4],
    .seq (rg [oO 4 (.assign (.c (.int .i64 0)))])
(.seq (.seq (rg [oM 6 0,
 oN 7 9 6,
 oO 8 (.move (.c (.int .i64 0)))])
(.block 0 (.loop (.seq (rg [oO 9 (.bin .lss 2 (.t 8) (.t 7))])
(.seq (.cond (.t 9) (.skip) (.exit 0))
(.seq (.block 1 (.seq (rg [oM 10 8,
 oA 5 10])
(.seq (rg [oM 11 1,
 oM 12 0,
 oM 13 5,
 oI 14 9 12 13,
 oL 15 6 14,
 oO 16 (.call 0 (.t 11) [(.t 15)])])
(.cond (.t 16) (.seq (rg [oM 17 5,
 oA 4 17])
(.ret)) (.skip)))))
(rg [oO 18 (.bin .add 2 (.t 8) (.c (.int .i64 1))),
 oM 8 18])))))))
(.seq (rg [oO 4 (.assign (.c (.int .i64 (-1))))])
(.ret)))⟩

def f122 : DFn := ⟨33, [.cell 4 17],
    .seq (rg [oO 2 (.box 17 (.t 0)),
 oO 4 (.alloc 17)])
(.seq (.seq (rg [oM 7 1,
 oN 8 16 7,
 oO 9 (.move (.c (.int .i64 0)))])
(.block 0 (.loop (.seq (rg [oO 10 (.bin .lss 2 (.t 9) (.t 8))])
(.seq (.cond (.t 10) (.skip) (.exit 0))
(.seq (.block 1 (.seq (rg [oI 11 16 7 9,
 oL 12 17 11,
 oO 6 (.alloc 17),
 oE (.store 17 (.t 6) (.t 12))])
(.seq (rg [oF 13 17 2 0,
 oL 14 2 13,
 oF 15 17 6 0,
 oL 16 2 15,
 oO 17 (.mini [(.t 14), (.t 16)]),
 oF 18 17 2 0,
 oE (.store 2 (.t 18) (.t 17))])
(.seq (rg [oF 19 17 2 1,
 oL 20 2 19,
 oF 21 17 6 1,
 oL 22 2 21,
 oO 23 (.mini [(.t 20), (.t 22)]),
 oF 24 17 2 1,
 oE (.store 2 (.t 24) (.t 23))])
(rg [oF 25 17 2 2,
 oL 26 2 25,
 oF 27 17 6 2,
 oL 28 2 27,
 oO 29 (.mini [(.t 26), (.t 28)]),
 oF 30 17 2 2,
 oE (.store 2 (.t 30) (.t 29))])))))
(rg [oO 31 (.bin .add 2 (.t 9) (.c (.int .i64 1))),
 oM 9 31])))))))
(.seq (rg [oL 32 17 2,
 oE (.store 17 (.t 4) (.t 32))])
(.ret)))⟩

def f123 : DFn := ⟨51, [],
    .seq (rg [oL 10 6 1,
 oN 11 6 10,
 oO 12 (.move (.c (.int .i64 0)))])
(.block 0 (.loop (.seq (rg [oO 13 (.bin .lss 2 (.t 12) (.t 11))])
(.seq (.cond (.t 13) (.skip) (.exit 0))
(.seq (.block 1 (.seq (rg [oM 14 12,
 oI 15 6 10 12,
 oL 16 2 15,
 oA 4 14,
 oA 5 16])
(.seq (rg [oF 17 0 2 2,
 oL 18 14 17,
 oM 19 4,
 oI 20 14 18 19,
 oF 21 15 20 2,
 oL 22 6 21,
 oN 23 6 22,
 oO 24 (.move (.c (.int .i64 0)))])
(.block 2 (.loop (.seq (rg [oO 25 (.bin .lss 2 (.t 24) (.t 23))])
(.seq (.cond (.t 25) (.skip) (.exit 2))
(.seq (.block 3 (.seq (rg [oI 26 6 22 24,
 oL 27 2 26,
 oA 7 27])
(.seq (rg [oF 28 0 2 2,
 oL 29 14 28,
 oM 30 4,
 oI 31 14 29 30,
 oF 32 15 31 3,
 oL 33 16 32,
 oM 34 5,
 oI 35 16 33 34,
 oF 36 17 35 3,
 oL 37 18 36,
 oN 38 18 37,
 oO 39 (.move (.c (.int .i64 0)))])
(.block 4 (.loop (.seq (rg [oO 40 (.bin .lss 2 (.t 39) (.t 38))])
(.seq (.cond (.t 40) (.skip) (.exit 4))
(.seq (.block 5 (.seq (rg [oI 41 18 37 39,
 oL 42 19 41,
 oO 9 (.alloc 19),
 oE (.store 19 (.t 9) (.t 42))])
(.seq (rg [oM 43 0,
 oM 44 7,
 oL 45 19 9,
 oO 46 (.call 2 (.t 43) [(.t 44), (.t 45)]),
 oO 47 (.un .not (.t 46))])
(.cond (.t 47) (.ret) (.skip)))))
(rg [oO 48 (.bin .add 2 (.t 39) (.c (.int .i64 1))),
 oM 39 48])))))))))
(rg [oO 49 (.bin .add 2 (.t 24) (.c (.int .i64 1))),
 oM 24 49])))))))))
(rg [oO 50 (.bin .add 2 (.t 12) (.c (.int .i64 1))),
 oM 12 50]))))))⟩

def f129 : DFn := ⟨10, [.tmp 2],
    .seq (rg [oO 1 (.box 0 (.t 0)),
 oO 2 (.assign (.c (.bool false)))])
(.seq (rg [oL 3 0 1,
 oO 4 (.call 0 (.f 2) [(.t 3)]),
 oM 5 4,
⟨(some 6), .load 0 (.t 1), (some (5, true))⟩,
⟨(some 7), .call 0 (.f 61) [(.t 6), (.c (.int .i64 400))], (some (5, true))⟩,
⟨(some 8), .bin .leq 2 (.t 7) (.c (.int .i64 300)), (some (5, true))⟩,
 oO 9 (.pick (.t 5) (.t 8) (.c (.bool false))),
 oA 2 9])
(.ret))⟩

def f131 : DFn := ⟨21, [.cell 2 29, .tmp 3],
    .seq (rg [oO 1 (.box 0 (.t 0)),
 oO 2 (.alloc 29),
 oO 3 (.assign (.c (.int .i64 0)))])
(.seq (rg [oL 6 0 1,
 oO 7 (.call 0 (.f 139) [(.t 6)]),
 oM 5 7,
 oO 8 (.extract (.t 5) 0),
 oO 9 (.extract (.t 5) 1),
 oO 4 (.alloc 28),
 oE (.store 28 (.t 4) (.t 8)),
 oA 3 9])
(.seq (.seq (rg [oM 10 3,
 oO 11 (.bin .neq 3 (.t 10) (.c (.int .i64 0)))])
(.cond (.t 11) (.seq (rg [oL 12 29 2,
 oM 13 3,
 oE (.store 29 (.t 2) (.t 12)),
 oA 3 13])
(.ret)) (.skip)))
(.seq (.region true [] [
 oL 14 0 1,
 oL 15 0 1,
 oL 16 28 4,
 oO 17 (.call 0 (.f 150) [(.t 15), (.t 16), (.f 151)]),
 oO 18 (.call 0 (.f 133) [(.t 14), (.t 17)]),
 oO 19 (.extract (.t 18) 0),
 oO 20 (.extract (.t 18) 1),
 oE (.store 29 (.t 2) (.t 19)),
 oA 3 20])
(.ret))))⟩

def f132 : DFn := ⟨26, [.cell 2 29, .tmp 3],
    .seq (rg [oO 1 (.box 0 (.t 0)),
 oO 2 (.alloc 29),
 oO 3 (.assign (.c (.int .i64 0)))])
(.seq (rg [oL 7 0 1,
 oO 8 (.call 0 (.f 152) [(.t 7)]),
 oM 6 8,
 oO 9 (.extract (.t 6) 0),
 oO 10 (.extract (.t 6) 1),
 oO 4 (.alloc 28),
 oE (.store 28 (.t 4) (.t 9)),
 oA 5 10])
(.seq (.seq (rg [oM 11 5,
 oO 12 (.bin .neq 3 (.t 11) (.c (.int .i64 0)))])
(.cond (.t 12) (.seq (rg [oO 13 (.build 29 []),
 oM 14 5,
 oE (.store 29 (.t 2) (.t 13)),
 oA 3 14])
(.ret)) (.skip)))
(.seq (.block 0 (.loop (.seq (.seq (rg [oL 15 28 4,
 oO 16 (.call 0 (.f 153) [(.t 15)]),
 oO 17 (.un .not (.t 16))])
(.cond (.t 17) (.skip) (.exit 0)))
(.block 1 (rg [oL 18 0 1,
 oL 19 28 4,
 oO 20 (.call 0 (.f 154) [(.t 18), (.t 19)]),
 oE (.store 28 (.t 4) (.t 20))])))))
(.seq (rg [oL 21 0 1,
 oL 22 28 4,
 oO 23 (.call 0 (.f 134) [(.t 21), (.t 22)]),
 oO 24 (.extract (.t 23) 0),
 oO 25 (.extract (.t 23) 1),
 oE (.store 29 (.t 2) (.t 24)),
 oA 3 25])
(.ret)))))⟩

def f133 : DFn := ⟨31, [.cell 4 29, .tmp 5],
    .seq (rg [oO 2 (.box 0 (.t 0)),
 oO 3 (.box 28 (.t 1)),
 oO 4 (.alloc 29),
 oO 5 (.assign (.c (.int .i64 0)))])
(.seq (.seq (rg [oL 7 0 2,
 oL 8 28 3,
 oO 9 (.call 0 (.f 142) [(.t 7), (.t 8)]),
 oA 6 9])
(.seq (rg [oM 10 6,
 oO 11 (.bin .neq 3 (.t 10) (.c (.int .i64 0)))])
(.cond (.t 11) (.seq (rg [oL 12 29 4,
 oM 13 6,
 oE (.store 29 (.t 4) (.t 12)),
 oA 5 13])
(.ret)) (.skip))))
(.seq (.seq (rg [oL 14 28 3,
 oO 15 (.call 0 (.f 140) [(.t 14)]),
 oO 16 (.un .not (.t 15)),
 oM 17 16,
⟨(some 18), .faddr 28 (.t 3) 2, (some (17, false))⟩,
⟨(some 19), .load 6 (.t 18), (some (17, false))⟩,
⟨(some 20), .len 6 (.t 19), (some (17, false))⟩,
⟨(some 21), .bin .eql 2 (.t 20) (.c (.int .i64 0)), (some (17, false))⟩,
 oO 22 (.pick (.t 17) (.c (.bool true)) (.t 21))])
(.cond (.t 22) (.seq (rg [oL 23 29 4,
 oE (.store 29 (.t 4) (.t 23)),
 oO 5 (.assign (.c (.int .i64 300)))])
(.ret)) (.skip)))
(.seq (rg [oF 24 28 3 1,
 oL 25 6 24,
 oF 26 28 3 2,
 oL 27 6 26,
 oF 28 28 3 3,
 oL 29 31 28,
 oO 30 (.build 29 [(0, (.t 25)), (1, (.t 27)), (2, (.t 29))]),
 oE (.store 29 (.t 4) (.t 30)),
 oO 5 (.assign (.c (.int .i64 0)))])
(.ret))))⟩

def f134 : DFn := ⟨31, [.cell 4 29, .tmp 5],
    .seq (rg [oO 2 (.box 0 (.t 0)),
 oO 3 (.box 28 (.t 1)),
 oO 4 (.alloc 29),
 oO 5 (.assign (.c (.int .i64 0)))])
(.seq (rg [oL 7 0 2,
 oL 8 28 3,
 oO 9 (.call 0 (.f 155) [(.t 7), (.t 8)]),
 oA 6 9])
(.seq (.seq (rg [oM 10 6,
 oO 11 (.bin .neq 3 (.t 10) (.c (.int .i64 0)))])
(.cond (.t 11) (.seq (rg [oO 12 (.build 29 []),
 oM 13 6,
 oE (.store 29 (.t 4) (.t 12)),
 oA 5 13])
(.ret)) (.skip)))
(.seq (.seq (rg [oL 14 28 3,
 oO 15 (.call 0 (.f 153) [(.t 14)]),
 oO 16 (.un .not (.t 15)),
 oM 17 16,
⟨(some 18), .faddr 28 (.t 3) 2, (some (17, false))⟩,
⟨(some 19), .load 6 (.t 18), (some (17, false))⟩,
⟨(some 20), .len 6 (.t 19), (some (17, false))⟩,
⟨(some 21), .bin .eql 2 (.t 20) (.c (.int .i64 0)), (some (17, false))⟩,
 oO 22 (.pick (.t 17) (.c (.bool true)) (.t 21))])
(.cond (.t 22) (.seq (rg [oO 23 (.build 29 []),
 oE (.store 29 (.t 4) (.t 23)),
 oO 5 (.assign (.c (.int .i64 300)))])
(.ret)) (.skip)))
(.seq (rg [oF 24 28 3 1,
 oL 25 6 24,
 oF 26 28 3 2,
 oL 27 6 26,
 oF 28 28 3 3,
 oL 29 31 28,
 oO 30 (.build 29 [(0, (.t 25)), (1, (.t 27)), (2, (.t 29))]),
 oE (.store 29 (.t 4) (.t 30)),
 oO 5 (.assign (.c (.int .i64 0)))])
(.ret)))))⟩

def f139 : DFn := ⟨14, [.cell 2 28, .tmp 3],
    .seq (rg [oO 1 (.box 0 (.t 0)),
 oO 2 (.alloc 28),
 oO 3 (.assign (.c (.int .i64 0)))])
(.seq (.seq (rg [oL 5 0 1,
 oO 6 (.call 0 (.f 15) [(.t 5)]),
 oA 4 6])
(.seq (rg [oM 7 4,
 oO 8 (.bin .neq 3 (.t 7) (.c (.int .i64 0)))])
(.cond (.t 8) (.seq (rg [oL 9 28 2,
 oM 10 4,
 oE (.store 28 (.t 2) (.t 9)),
 oA 3 10])
(.ret)) (.skip))))
(.seq (rg [oO 11 (.bslice false 1 0 []),
 oO 12 (.bslice false 4 1 [(0, (.t 11))]),
 oO 13 (.build 28 [(0, (.t 12))]),
 oE (.store 28 (.t 2) (.t 13)),
 oO 3 (.assign (.c (.int .i64 0)))])
(.ret)))⟩

def f140 : DFn := ⟨7, [.tmp 2],
    .seq (rg [oO 1 (.box 28 (.t 0)),
 oO 2 (.assign (.c (.bool false)))])
(.seq (rg [oF 3 28 1 0,
 oL 4 4 3,
 oN 5 4 4,
 oO 6 (.bin .eql 2 (.t 5) (.c (.int .i64 0))),
 oA 2 6])
(.ret))⟩

def f142 : DFn := ⟨51, [.tmp 4],
    .seq (rg [oO 2 (.box 0 (.t 0)),
 oO 3 (.box 28 (.t 1)),
 oO 4 (.assign (.c (.int .i64 0)))])
(.seq (.seq (rg [oL 9 0 2,
 oO 10 (.call 0 (.f 15) [(.t 9)]),
 oA 5 10])
(.seq (rg [oM 11 5,
 oO 12 (.bin .neq 3 (.t 11) (.c (.int .i64 0)))])
(.cond (.t 12) (.seq (rg [oM 13 5,
 oA 4 13])
(.ret)) (.skip))))
(.seq (rg [oO 14 (.mkfn 157 [(.t 2)]),
 oO 6 (.alloc 33),
 oE (.store 33 (.t 6) (.t 14))])
(.seq (.seq (rg [oF 15 28 3 0,
 oL 16 4 15,
 oO 17 (.mkfn 158 [(.t 2)]),
 oO 18 (.call 3 (.f 159) [(.t 16), (.t 17)]),
 oM 19 18,
⟨(some 20), .faddr 28 (.t 3) 3, (some (19, false))⟩,
⟨(some 21), .load 31 (.t 20), (some (19, false))⟩,
⟨(some 22), .mkfn 160 [(.t 6)], (some (19, false))⟩,
⟨(some 23), .call 3 (.f 161) [(.t 21), (.t 22)], (some (19, false))⟩,
 oO 24 (.pick (.t 19) (.c (.bool true)) (.t 23))])
(.cond (.t 24) (.seq (rg [oO 4 (.assign (.c (.int .i64 300)))])
(.ret)) (.skip)))
(.seq (.seq (rg [oF 25 28 3 2,
 oL 26 6 25,
 oN 27 6 26,
 oO 28 (.bin .eql 2 (.t 27) (.c (.int .i64 0))),
 oM 29 28,
⟨(some 30), .faddr 28 (.t 3) 1, (some (29, true))⟩,
⟨(some 31), .load 6 (.t 30), (some (29, true))⟩,
⟨(some 32), .len 6 (.t 31), (some (29, true))⟩,
⟨(some 33), .bin .eql 2 (.t 32) (.c (.int .i64 0)), (some (29, true))⟩,
 oO 34 (.pick (.t 29) (.t 33) (.c (.bool false)))])
(.cond (.t 34) (.seq (rg [oO 4 (.assign (.c (.int .i64 0)))])
(.ret)) (.skip)))
(.seq (.seq (rg [oL 36 0 2,
 oF 37 28 3 1,
 oL 38 6 37,
 oO 39 (.call 0 (.f 22) [(.t 36), (.t 38)]),
 oM 35 39,
 oO 40 (.extract (.t 35) 0),
 oO 41 (.extract (.t 35) 1),
 oA 7 40,
 oA 8 41])
(.seq (rg [oM 42 8,
 oO 43 (.bin .neq 3 (.t 42) (.c (.int .i64 0))),
 oM 44 43,
⟨(some 45), .move (.t 7), (some (44, false))⟩,
⟨(some 46), .faddr 28 (.t 3) 2, (some (44, false))⟩,
⟨(some 47), .load 6 (.t 46), (some (44, false))⟩,
⟨(some 48), .call 0 (.f 162) [(.t 45), (.t 47)], (some (44, false))⟩,
⟨(some 49), .un .not (.t 48), (some (44, false))⟩,
 oO 50 (.pick (.t 44) (.c (.bool true)) (.t 49))])
(.cond (.t 50) (.seq (rg [oO 4 (.assign (.c (.int .i64 300)))])
(.ret)) (.skip))))
(.seq (rg [oO 4 (.assign (.c (.int .i64 0)))])
(.ret)))))))⟩

def f145 : DFn := ⟨16, [.tmp 4],
    .seq (rg [oO 4 (.assign (.c (.bool false)))])
(.seq (rg [oM 5 0,
 oN 6 6 5,
 oM 7 1,
 oN 8 6 7,
 oO 9 (.bin .eql 2 (.t 6) (.t 8)),
 oM 10 9,
⟨(some 11), .move (.t 0), (some (10, true))⟩,
⟨(some 12), .move (.t 1), (some (10, true))⟩,
⟨(some 13), .call 0 (.f 111) [(.t 11), (.t 12)], (some (10, true))⟩,
⟨(some 14), .bin .eql 2 (.t 13) (.c (.int .i64 0)), (some (10, true))⟩,
 oO 15 (.pick (.t 10) (.t 14) (.c (.bool false))),
 oA 4 15])
(.ret))⟩

def f150 : DFn := ⟨103, [.cell 6 28],
    .seq (rg [oO 3 (.box 0 (.t 0)),
 oO 4 (.box 28 (.t 1)),
 oO 6 (.alloc 28)])
(.seq (rg [oF 17 28 4 0,
 oL 18 4 17,
 oO 19 (.call 0 (.f 165) [(.t 18)]),
 oO 7 (.alloc 35),
 oE (.store 35 (.t 7) (.t 19))])
(.seq (rg [oF 20 28 4 3,
 oL 21 31 20,
 oO 22 (.call 0 (.f 166) [(.t 21)]),
 oF 23 28 4 3,
 oE (.store 31 (.t 23) (.t 22))])
(.seq (rg [oO 24 (.mkfn 167 [(.t 4)]),
 oA 8 24])
(.seq (.block 0 (.loop (.seq (.seq (rg [oL 25 35 7,
 oN 26 35 25,
 oO 27 (.bin .gtr 2 (.t 26) (.c (.int .i64 0))),
 oM 28 27,
⟨(some 29), .move (.t 2), (some (28, true))⟩,
⟨(some 30), .call 2 (.t 29) [], (some (28, true))⟩,
 oO 31 (.pick (.t 28) (.t 30) (.c (.bool false)))])
(.cond (.t 31) (.skip) (.exit 0)))
(.block 1 (.seq (rg [oO 9 (.assign (.c (.imm .exact [])))])
(.seq (rg [oL 33 35 7,
 oO 34 (.call 0 (.f 168) [(.t 33)]),
 oM 32 34,
 oO 35 (.extract (.t 32) 0),
 oO 36 (.extract (.t 32) 1),
 oA 9 35,
 oE (.store 35 (.t 7) (.t 36))])
(.seq (.seq (rg [oM 37 9,
 oN 38 1 37,
 oF 39 0 3 2,
 oL 40 14 39,
 oN 41 14 40,
 oO 42 (.bin .eql 2 (.t 38) (.t 41))])
(.cond (.t 42) (.seq (rg [oL 44 0 3,
 oM 45 9,
 oO 46 (.call 0 (.f 22) [(.t 44), (.t 45)]),
 oM 43 46,
 oO 47 (.extract (.t 43) 0),
 oO 48 (.extract (.t 43) 1),
 oA 10 47,
 oA 11 48])
(.seq (.seq (rg [oF 49 28 4 2,
 oL 50 6 49,
 oN 51 6 50,
 oO 52 (.bin .eql 2 (.t 51) (.c (.int .i64 0))),
 oM 53 52,
⟨(some 54), .move (.t 10), (some (53, false))⟩,
⟨(some 55), .faddr 28 (.t 4) 2, (some (53, false))⟩,
⟨(some 56), .load 6 (.t 55), (some (53, false))⟩,
⟨(some 57), .call 0 (.f 87) [(.t 54), (.t 56)], (some (53, false))⟩,
⟨(some 58), .bin .lss 2 (.t 57) (.c (.int .i64 0)), (some (53, false))⟩,
 oO 59 (.pick (.t 53) (.c (.bool true)) (.t 58))])
(.cond (.t 59) (rg [oM 60 9,
 oM 61 10,
 oF 62 28 4 1,
 oE (.store 6 (.t 62) (.t 60)),
 oF 63 28 4 2,
 oE (.store 6 (.t 63) (.t 61))]) (.skip)))
(.seq (rg [oM 64 8,
 oM 65 9,
 oO 66 (.call 2 (.t 64) [(.t 65), (.c (.int .i64 1))])])
(.exit 1)))) (.skip)))
(.seq (.seq (rg [oL 68 0 3,
 oM 69 9,
 oO 70 (.call 0 (.f 3) [(.t 68), (.t 69)]),
 oM 67 70,
 oO 71 (.extract (.t 67) 0),
 oO 72 (.extract (.t 67) 1),
 oA 12 71,
 oA 13 72])
(.seq (rg [oF 73 28 4 2,
 oL 74 6 73,
 oN 75 6 74,
 oO 76 (.bin .gtr 2 (.t 75) (.c (.int .i64 0))),
 oM 77 76,
⟨(some 78), .move (.t 12), (some (77, true))⟩,
⟨(some 79), .faddr 28 (.t 4) 2, (some (77, true))⟩,
⟨(some 80), .load 6 (.t 79), (some (77, true))⟩,
⟨(some 81), .call 0 (.f 87) [(.t 78), (.t 80)], (some (77, true))⟩,
⟨(some 82), .bin .geq 2 (.t 81) (.c (.int .i64 0)), (some (77, true))⟩,
 oO 83 (.pick (.t 77) (.t 82) (.c (.bool false)))])
(.cond (.t 83) (.seq (rg [oM 84 8,
 oM 85 9,
 oO 86 (.call 2 (.t 84) [(.t 85), (.c (.int .i64 2))])])
(.exit 1)) (.skip))))
(.seq (rg [oL 88 0 3,
 oM 89 9,
 oO 90 (.call 0 (.f 7) [(.t 88), (.t 89)]),
 oM 87 90,
 oO 91 (.extract (.t 87) 0),
 oO 92 (.extract (.t 87) 1),
 oA 14 91,
 oA 15 92])
(.seq (rg [oM 93 14,
 oO 94 (.call 0 (.f 169) [(.t 93)])])
(.block 2 (.rfunc (.t 94) [95] (rg [oA 16 95]) (.block 3 (rg [oL 96 35 7,
 oM 97 16,
 oO 98 (.bslice false 35 1 [(0, (.t 97))]),
 oO 99 (.append 0 35 35 (.t 96) (.t 98)),
 oE (.store 35 (.t 7) (.t 99))]))))))))))))))
(.seq (rg [oL 100 35 7,
 oF 101 28 4 0,
 oE (.store 4 (.t 101) (.t 100))])
(.seq (rg [oL 102 28 4,
 oE (.store 28 (.t 6) (.t 102))])
(.ret)))))))⟩

def f151 : DFn := ⟨1, [.tmp 0],
    .seq (rg [oO 0 (.assign (.c (.bool false)))])
(.seq (rg [oO 0 (.assign (.c (.bool true)))])
(.ret))⟩

def f152 : DFn := ⟨14, [.cell 2 28, .tmp 3],
    .seq (rg [oO 1 (.box 0 (.t 0)),
 oO 2 (.alloc 28),
 oO 3 (.assign (.c (.int .i64 0)))])
(.seq (rg [oL 5 0 1,
 oO 6 (.call 0 (.f 19) [(.t 5)]),
 oA 4 6])
(.seq (.seq (rg [oM 7 4,
 oO 8 (.bin .neq 3 (.t 7) (.c (.int .i64 0)))])
(.cond (.t 8) (.seq (rg [oO 9 (.build 28 []),
 oM 10 4,
 oE (.store 28 (.t 2) (.t 9)),
 oA 3 10])
(.ret)) (.skip)))
(.seq (rg [oO 11 (.bslice false 1 0 []),
 oO 12 (.bslice false 4 1 [(0, (.t 11))]),
 oO 13 (.build 28 [(0, (.t 12))]),
 oE (.store 28 (.t 2) (.t 13)),
 oO 3 (.assign (.c (.int .i64 0)))])
(.ret))))⟩

def f153 : DFn := ⟨7, [.tmp 2],
    .seq (rg [oO 1 (.box 28 (.t 0)),
 oO 2 (.assign (.c (.bool false)))])
(.seq (rg [oF 3 28 1 0,
 oL 4 4 3,
 oN 5 4 4,
 oO 6 (.bin .eql 2 (.t 5) (.c (.int .i64 0))),
 oA 2 6])
(.ret))⟩

def f154 : DFn := ⟨117, [.cell 4 28],
    .seq (rg [oO 2 (.box 0 (.t 0)),
 oO 3 (.box 28 (.t 1)),
 oO 4 (.alloc 28)])
(.seq (rg [oF 14 28 3 0,
 oL 15 4 14,
 oN 16 4 15,
 oO 17 (.bin .sub 2 (.t 16) (.c (.int .i64 1))),
 oA 5 17])
(.seq (rg [oF 18 28 3 0,
 oL 19 4 18,
 oM 20 5,
 oI 21 4 19 20,
 oL 22 1 21,
 oA 6 22])
(.seq (rg [oO 23 (.bslice false 4 0 []),
 oF 24 28 3 0,
 oL 25 4 24,
 oM 26 5,
 oO 27 (.slice 4 (.t 25) none (some (.t 26)) none),
 oO 28 (.append 0 4 4 (.t 23) (.t 27)),
 oF 29 28 3 0,
 oE (.store 4 (.t 29) (.t 28))])
(.seq (.seq (rg [oM 30 6,
 oN 31 1 30,
 oF 32 0 2 2,
 oL 33 14 32,
 oN 34 14 33,
 oO 35 (.bin .eql 2 (.t 31) (.t 34))])
(.cond (.t 35) (.seq (rg [oL 37 0 2,
 oM 38 6,
 oO 39 (.call 0 (.f 23) [(.t 37), (.t 38)]),
 oM 36 39,
 oO 40 (.extract (.t 36) 0),
 oO 41 (.extract (.t 36) 1),
 oA 7 40,
 oA 8 41])
(.seq (.seq (rg [oF 42 28 3 2,
 oL 43 6 42,
 oN 44 6 43,
 oO 45 (.bin .eql 2 (.t 44) (.c (.int .i64 0))),
 oM 46 45,
⟨(some 47), .move (.t 7), (some (46, false))⟩,
⟨(some 48), .faddr 28 (.t 3) 2, (some (46, false))⟩,
⟨(some 49), .load 6 (.t 48), (some (46, false))⟩,
⟨(some 50), .call 0 (.f 111) [(.t 47), (.t 49)], (some (46, false))⟩,
⟨(some 51), .bin .lss 2 (.t 50) (.c (.int .i64 0)), (some (46, false))⟩,
 oO 52 (.pick (.t 46) (.c (.bool true)) (.t 51))])
(.cond (.t 52) (.seq (rg [oM 53 6,
 oF 54 28 3 1,
 oE (.store 6 (.t 54) (.t 53))])
(rg [oM 55 7,
 oF 56 28 3 2,
 oE (.store 6 (.t 56) (.t 55))])) (.skip)))
(.seq (rg [oO 57 (.bslice false 31 0 []),
 oF 58 28 3 3,
 oL 59 31 58,
 oO 60 (.append 0 31 31 (.t 57) (.t 59)),
 oM 61 6,
 oO 62 (.build 32 [(0, (.t 61)), (1, (.c (.int .i64 1)))]),
 oO 63 (.bslice false 31 1 [(0, (.t 62))]),
 oO 64 (.append 0 31 31 (.t 60) (.t 63)),
 oF 65 28 3 3,
 oE (.store 31 (.t 65) (.t 64))])
(.seq (rg [oL 66 28 3,
 oE (.store 28 (.t 4) (.t 66))])
(.ret))))) (.skip)))
(.seq (rg [oL 68 0 2,
 oM 69 6,
 oO 70 (.call 0 (.f 4) [(.t 68), (.t 69)]),
 oM 67 70,
 oO 71 (.extract (.t 67) 0),
 oO 72 (.extract (.t 67) 1),
 oA 9 71,
 oA 10 72])
(.seq (.seq (rg [oF 73 28 3 2,
 oL 74 6 73,
 oN 75 6 74,
 oO 76 (.bin .gtr 2 (.t 75) (.c (.int .i64 0))),
 oM 77 76,
⟨(some 78), .move (.t 9), (some (77, true))⟩,
⟨(some 79), .faddr 28 (.t 3) 2, (some (77, true))⟩,
⟨(some 80), .load 6 (.t 79), (some (77, true))⟩,
⟨(some 81), .call 0 (.f 111) [(.t 78), (.t 80)], (some (77, true))⟩,
⟨(some 82), .bin .geq 2 (.t 81) (.c (.int .i64 0)), (some (77, true))⟩,
 oO 83 (.pick (.t 77) (.t 82) (.c (.bool false)))])
(.cond (.t 83) (.seq (rg [oO 84 (.bslice false 31 0 []),
 oF 85 28 3 3,
 oL 86 31 85,
 oO 87 (.append 0 31 31 (.t 84) (.t 86)),
 oM 88 6,
 oO 89 (.build 32 [(0, (.t 88)), (1, (.c (.int .i64 2)))]),
 oO 90 (.bslice false 31 1 [(0, (.t 89))]),
 oO 91 (.append 0 31 31 (.t 87) (.t 90)),
 oF 92 28 3 3,
 oE (.store 31 (.t 92) (.t 91))])
(.seq (rg [oL 93 28 3,
 oE (.store 28 (.t 4) (.t 93))])
(.ret))) (.skip)))
(.seq (rg [oL 95 0 2,
 oM 96 6,
 oO 97 (.call 0 (.f 8) [(.t 95), (.t 96)]),
 oM 94 97,
 oO 98 (.extract (.t 94) 0),
 oO 99 (.extract (.t 94) 1),
 oA 11 98,
 oA 12 99])
(.seq (.seq (rg [oM 100 11,
 oN 101 4 100,
 oO 102 (.bin .sub 2 (.t 101) (.c (.int .i64 1))),
 oA 13 102])
(.block 0 (.loop (.seq (.seq (rg [oM 103 13,
 oO 104 (.bin .geq 2 (.t 103) (.c (.int .i64 0)))])
(.cond (.t 104) (.skip) (.exit 0)))
(.seq (.block 1 (.region true [] [
 oF 107 28 3 0,
 oL 108 4 107,
 oM 109 11,
 oM 110 13,
 oI 111 4 109 110,
 oL 112 1 111,
 oO 113 (.bslice false 4 1 [(0, (.t 112))]),
 oO 114 (.append 0 4 4 (.t 108) (.t 113)),
 oF 115 28 3 0,
 oE (.store 4 (.t 115) (.t 114))]))
(rg [oM 105 13,
 oO 106 (.bin .sub 2 (.t 105) (.c (.int .i64 1))),
 oA 13 106]))))))
(.seq (rg [oL 116 28 3,
 oE (.store 28 (.t 4) (.t 116))])
(.ret))))))))))⟩

def f155 : DFn := ⟨47, [.tmp 4],
    .seq (rg [oO 2 (.box 0 (.t 0)),
 oO 3 (.box 28 (.t 1)),
 oO 4 (.assign (.c (.int .i64 0)))])
(.seq (rg [oL 8 0 2,
 oO 9 (.call 0 (.f 19) [(.t 8)]),
 oA 5 9])
(.seq (.seq (rg [oM 10 5,
 oO 11 (.bin .neq 3 (.t 10) (.c (.int .i64 0)))])
(.cond (.t 11) (.seq (rg [oM 12 5,
 oA 4 12])
(.ret)) (.skip)))
(.seq (.seq (rg [oO 6 (.assign (.c (.int .i64 0)))])
(.block 0 (.loop (.seq (.seq (rg [oM 13 6,
 oF 14 28 3 0,
 oL 15 4 14,
 oN 16 4 15,
 oO 17 (.bin .lss 2 (.t 13) (.t 16))])
(.cond (.t 17) (.skip) (.exit 0)))
(.seq (.block 1 (.seq (.region true [] [
 oL 20 0 2,
 oF 21 28 3 0,
 oL 22 4 21,
 oM 23 6,
 oI 24 4 22 23,
 oL 25 1 24,
 oO 26 (.call 0 (.f 78) [(.t 20), (.t 25)]),
 oO 27 (.un .not (.t 26))])
(.cond (.t 27) (.seq (rg [oO 4 (.assign (.c (.int .i64 300)))])
(.ret)) (.skip))))
(rg [oM 18 6,
 oO 19 (.bin .add 2 (.t 18) (.c (.int .i64 1))),
 oA 6 19]))))))
(.seq (.seq (rg [oO 7 (.assign (.c (.int .i64 0)))])
(.block 2 (.loop (.seq (.seq (rg [oM 28 7,
 oF 29 28 3 3,
 oL 30 31 29,
 oN 31 31 30,
 oO 32 (.bin .lss 2 (.t 28) (.t 31))])
(.cond (.t 32) (.skip) (.exit 2)))
(.seq (.block 3 (.seq (.region true [] [
 oL 35 0 2,
 oF 36 28 3 3,
 oL 37 31 36,
 oM 38 7,
 oI 39 31 37 38,
 oL 40 32 39,
 oO 41 (.call 0 (.f 170) [(.t 35), (.t 40)]),
 oO 42 (.un .not (.t 41))])
(.cond (.t 42) (.seq (rg [oO 4 (.assign (.c (.int .i64 300)))])
(.ret)) (.skip))))
(rg [oM 33 7,
 oO 34 (.bin .add 2 (.t 33) (.c (.int .i64 1))),
 oA 7 34]))))))
(.seq (.seq (rg [oL 43 0 2,
 oL 44 28 3,
 oO 45 (.call 0 (.f 171) [(.t 43), (.t 44)]),
 oO 46 (.un .not (.t 45))])
(.cond (.t 46) (.seq (rg [oO 4 (.assign (.c (.int .i64 300)))])
(.ret)) (.skip)))
(.seq (rg [oO 4 (.assign (.c (.int .i64 0)))])
(.ret)))))))⟩

def f157 : DFn := ⟨35, [.tmp 3],
    .seq (rg [oO 2 (.box 32 (.t 0)),
 oO 3 (.assign (.c (.bool false)))])
(.seq (rg [oF 5 32 2 1,
 oL 6 2 5,
 oO 7 (.bin .eql 2 (.t 6) (.c (.int .i64 1))),
 oM 8 7,
⟨(some 9), .faddr 32 (.t 2) 0, (some (8, true))⟩,
⟨(some 10), .load 1 (.t 9), (some (8, true))⟩,
⟨(some 11), .len 1 (.t 10), (some (8, true))⟩,
⟨(some 12), .faddr 0 (.t 1) 2, (some (8, true))⟩,
⟨(some 13), .load 14 (.t 12), (some (8, true))⟩,
⟨(some 14), .len 14 (.t 13), (some (8, true))⟩,
⟨(some 15), .bin .eql 2 (.t 11) (.t 14), (some (8, true))⟩,
 oO 16 (.pick (.t 8) (.t 15) (.c (.bool false))),
 oA 4 16])
(.seq (rg [oL 17 0 1,
 oF 18 32 2 0,
 oL 19 1 18,
 oO 20 (.call 0 (.f 172) [(.t 17), (.t 19)]),
 oM 21 20,
⟨(some 22), .faddr 32 (.t 2) 2, (some (21, true))⟩,
⟨(some 23), .load 9 (.t 22), (some (21, true))⟩,
⟨(some 24), .len 9 (.t 23), (some (21, true))⟩,
⟨(some 25), .bin .eql 2 (.t 24) (.c (.int .i64 0)), (some (21, true))⟩,
 oO 26 (.pick (.t 21) (.t 25) (.c (.bool false))),
 oM 27 26,
⟨(some 28), .move (.t 4), (some (27, true))⟩,
⟨(some 29), .move (.t 28), (some (27, true))⟩,
⟨(some 30), .faddr 32 (.t 2) 1, (some (29, false))⟩,
⟨(some 31), .load 2 (.t 30), (some (29, false))⟩,
⟨(some 32), .bin .eql 2 (.t 31) (.c (.int .i64 2)), (some (29, false))⟩,
⟨(some 33), .pick (.t 29) (.c (.bool true)) (.t 32), (some (27, true))⟩,
 oO 34 (.pick (.t 27) (.t 33) (.c (.bool false))),
 oA 3 34])
(.ret)))⟩

def f158 : DFn := ⟨8, [.tmp 3],
    .seq (rg [oO 3 (.assign (.c (.bool false)))])
(.seq (rg [oL 4 0 1,
 oM 5 0,
 oO 6 (.call 0 (.f 172) [(.t 4), (.t 5)]),
 oO 7 (.un .not (.t 6)),
 oA 3 7])
(.ret))⟩

def f159 : DFn := ⟨9, [.tmp 4],
    .seq (rg [oO 4 (.assign (.c (.bool false)))])
(.seq (rg [oM 5 0,
 oM 6 1,
 oO 7 (.call 0 (.f 173) [(.t 5), (.t 6)]),
 oO 8 (.bin .geq 2 (.t 7) (.c (.int .i64 0))),
 oA 4 8])
(.ret))⟩

def f160 : DFn := ⟨8, [.tmp 3],
    .seq (rg [oO 2 (.box 32 (.t 0)),
 oO 3 (.assign (.c (.bool false)))])
(.seq (rg [oL 4 33 1,
 oL 5 32 2,
 oO 6 (.call 0 (.t 4) [(.t 5)]),
 oO 7 (.un .not (.t 6)),
 oA 3 7])
(.ret))⟩

def f161 : DFn := ⟨9, [.tmp 4],
    .seq (rg [oO 4 (.assign (.c (.bool false)))])
(.seq (rg [oM 5 0,
 oM 6 1,
 oO 7 (.call 0 (.f 174) [(.t 5), (.t 6)]),
 oO 8 (.bin .geq 2 (.t 7) (.c (.int .i64 0))),
 oA 4 8])
(.ret))⟩

def f162 : DFn := ⟨26, [.tmp 4],
    .seq (rg [oO 4 (.assign (.c (.bool false)))])
(.seq (.seq (rg [oM 6 0,
 oN 7 6 6,
 oM 8 1,
 oN 9 6 8,
 oO 10 (.bin .neq 2 (.t 7) (.t 9))])
(.cond (.t 10) (.seq (rg [oO 4 (.assign (.c (.bool false)))])
(.ret)) (.skip)))
(.seq (.seq (rg [oM 11 0,
 oN 12 6 11,
 oO 13 (.move (.c (.int .i64 0)))])
(.block 0 (.loop (.seq (rg [oO 14 (.bin .lss 2 (.t 13) (.t 12))])
(.seq (.cond (.t 14) (.skip) (.exit 0))
(.seq (.block 1 (.seq (rg [oM 15 13,
 oA 5 15])
(.seq (.region true [] [
 oM 16 0,
 oM 17 5,
 oI 18 6 16 17,
 oL 19 2 18,
 oM 20 1,
 oM 21 5,
 oI 22 6 20 21,
 oL 23 2 22,
 oO 24 (.bin .neq 2 (.t 19) (.t 23))])
(.cond (.t 24) (.seq (rg [oO 4 (.assign (.c (.bool false)))])
(.ret)) (.skip)))))
(rg [oO 25 (.bin .add 2 (.t 13) (.c (.int .i64 1))),
 oM 13 25])))))))
(.seq (rg [oO 4 (.assign (.c (.bool true)))])
(.ret))))⟩

def f165 : DFn := ⟨8, [.tmp 2],
    .seq (rg [ oO 2 (.assign (.c (.imm .exact [])))]) (.seq (rg [oO 5 (.bslice false 4 0 []),
 oM 6 0,
 oO 7 (.append 1 4 4 (.t 5) (.t 6)),
 oA 2 7]) .ret)⟩

def f166 : DFn := ⟨9, [.tmp 2],
    .seq (rg [oO 2 (.assign (.c (.imm .exact [])))])
(.seq (rg [oM 3 0,
 oM 4 0,
 oN 5 31 4,
 oM 6 0,
 oN 7 31 6,
 oO 8 (.slice 31 (.t 3) none (some (.t 5)) (some (.t 7))),
 oA 2 8])
(.ret))⟩

def f167 : DFn := ⟨13, [],
    .region false [] [
 oF 5 28 2 3,
 oL 6 31 5,
 oM 7 0,
 oM 8 1,
 oO 9 (.build 32 [(0, (.t 7)), (1, (.t 8))]),
 oO 10 (.bslice false 31 1 [(0, (.t 9))]),
 oO 11 (.append 0 31 31 (.t 6) (.t 10)),
 oF 12 28 2 3,
 oE (.store 31 (.t 12) (.t 11))]⟩

def f168 : DFn := ⟨16, [.tmp 2, .tmp 3],
    .seq (rg [oO 2 (.assign (.c (.imm .exact []))),
 oO 3 (.assign (.c (.imm .exact [])))])
(.seq (rg [oM 5 0,
 oN 6 35 5,
 oO 7 (.bin .sub 2 (.t 6) (.c (.int .i64 1))),
 oA 4 7])
(.seq (.region true [] [
 oM 8 0,
 oM 9 4,
 oI 10 35 8 9,
 oL 11 1 10,
 oM 12 0,
 oM 13 4,
 oO 14 (.slice 35 (.t 12) none (some (.t 13)) none),
 oO 15 (.call 0 (.f 175) [(.t 14)]),
 oA 2 11,
 oA 3 15])
(.ret)))⟩

def f169 : DFn := ⟨4, [.tmp 2],
    .seq (rg [oO 1 (.box 4 (.t 0)),
 oO 2 (.assign (.c .nilfn))])
(.seq (rg [oO 3 (.mkfn 176 [(.t 1)]),
 oA 2 3])
(.ret))⟩

def f170 : DFn := ⟨33, [.tmp 4],
    .seq (rg [oO 2 (.box 0 (.t 0)),
 oO 3 (.box 32 (.t 1)),
 oO 4 (.assign (.c (.bool false)))])
(.seq (.seq (rg [oL 5 0 2,
 oF 6 32 3 0,
 oL 7 1 6,
 oO 8 (.call 0 (.f 78) [(.t 5), (.t 7)]),
 oO 9 (.un .not (.t 8)),
 oM 10 9,
⟨(some 11), .faddr 32 (.t 3) 2, (some (10, false))⟩,
⟨(some 12), .load 9 (.t 11), (some (10, false))⟩,
⟨(some 13), .len 9 (.t 12), (some (10, false))⟩,
⟨(some 14), .bin .gtr 2 (.t 13) (.c (.int .i64 0)), (some (10, false))⟩,
 oO 15 (.pick (.t 10) (.c (.bool true)) (.t 14))])
(.cond (.t 15) (.seq (rg [oO 4 (.assign (.c (.bool false)))])
(.ret)) (.skip)))
(.seq (rg [oF 16 32 3 1,
 oL 17 2 16,
 oO 18 (.bin .eql 2 (.t 17) (.c (.int .i64 1))),
 oM 19 18,
⟨(some 20), .faddr 32 (.t 3) 0, (some (19, true))⟩,
⟨(some 21), .load 1 (.t 20), (some (19, true))⟩,
⟨(some 22), .len 1 (.t 21), (some (19, true))⟩,
⟨(some 23), .faddr 0 (.t 2) 2, (some (19, true))⟩,
⟨(some 24), .load 14 (.t 23), (some (19, true))⟩,
⟨(some 25), .len 14 (.t 24), (some (19, true))⟩,
⟨(some 26), .bin .eql 2 (.t 22) (.t 25), (some (19, true))⟩,
 oO 27 (.pick (.t 19) (.t 26) (.c (.bool false))),
 oM 28 27,
⟨(some 29), .faddr 32 (.t 3) 1, (some (28, false))⟩,
⟨(some 30), .load 2 (.t 29), (some (28, false))⟩,
⟨(some 31), .bin .eql 2 (.t 30) (.c (.int .i64 2)), (some (28, false))⟩,
 oO 32 (.pick (.t 28) (.c (.bool true)) (.t 31)),
 oA 4 32])
(.ret)))⟩

def f171 : DFn := ⟨30, [.tmp 4],
    .seq (rg [oO 2 (.box 0 (.t 0)),
 oO 3 (.box 28 (.t 1)),
 oO 4 (.assign (.c (.bool false)))])
(.seq (.seq (rg [oF 7 28 3 2,
 oL 8 6 7,
 oN 9 6 8,
 oO 10 (.bin .eql 2 (.t 9) (.c (.int .i64 0)))])
(.cond (.t 10) (.seq (rg [oF 11 28 3 1,
 oL 12 6 11,
 oN 13 6 12,
 oO 14 (.bin .eql 2 (.t 13) (.c (.int .i64 0))),
 oA 4 14])
(.ret)) (.skip)))
(.seq (rg [oL 16 0 2,
 oF 17 28 3 1,
 oL 18 6 17,
 oO 19 (.call 0 (.f 23) [(.t 16), (.t 18)]),
 oM 15 19,
 oO 20 (.extract (.t 15) 0),
 oO 21 (.extract (.t 15) 1),
 oA 5 20,
 oA 6 21])
(.seq (rg [oM 22 6,
 oO 23 (.bin .eql 3 (.t 22) (.c (.int .i64 0))),
 oM 24 23,
⟨(some 25), .move (.t 5), (some (24, true))⟩,
⟨(some 26), .faddr 28 (.t 3) 2, (some (24, true))⟩,
⟨(some 27), .load 6 (.t 26), (some (24, true))⟩,
⟨(some 28), .call 0 (.f 145) [(.t 25), (.t 27)], (some (24, true))⟩,
 oO 29 (.pick (.t 24) (.t 28) (.c (.bool false))),
 oA 4 29])
(.ret))))⟩

def f172 : DFn := ⟨34, [.tmp 4],
    .seq (rg [oO 2 (.box 0 (.t 0)),
 oO 4 (.assign (.c (.bool false)))])
(.seq (.seq (rg [oM 7 1,
 oN 8 1 7,
 oF 9 0 2 2,
 oL 10 14 9,
 oN 11 14 10,
 oO 12 (.bin .gtr 2 (.t 8) (.t 11))])
(.cond (.t 12) (.seq (rg [oO 4 (.assign (.c (.bool false)))])
(.ret)) (.skip)))
(.seq (.seq (rg [oM 13 1,
 oN 14 1 13,
 oO 15 (.move (.c (.int .i64 0)))])
(.block 0 (.loop (.seq (rg [oO 16 (.bin .lss 2 (.t 15) (.t 14))])
(.seq (.cond (.t 16) (.skip) (.exit 0))
(.seq (.block 1 (.seq (rg [oM 17 15,
 oI 18 1 13 15,
 oL 19 2 18,
 oA 5 17,
 oA 6 19])
(.seq (rg [oM 20 6,
 oO 21 (.bin .lss 2 (.t 20) (.c (.int .i64 0))),
 oM 22 21,
⟨(some 23), .move (.t 6), (some (22, false))⟩,
⟨(some 24), .faddr 0 (.t 2) 2, (some (22, false))⟩,
⟨(some 25), .load 14 (.t 24), (some (22, false))⟩,
⟨(some 26), .move (.t 5), (some (22, false))⟩,
⟨(some 27), .iaddr 14 (.t 25) (.t 26), (some (22, false))⟩,
⟨(some 28), .faddr 15 (.t 27) 3, (some (22, false))⟩,
⟨(some 29), .load 16 (.t 28), (some (22, false))⟩,
⟨(some 30), .len 16 (.t 29), (some (22, false))⟩,
⟨(some 31), .bin .geq 2 (.t 23) (.t 30), (some (22, false))⟩,
 oO 32 (.pick (.t 22) (.c (.bool true)) (.t 31))])
(.cond (.t 32) (.seq (rg [oO 4 (.assign (.c (.bool false)))])
(.ret)) (.skip)))))
(rg [oO 33 (.bin .add 2 (.t 15) (.c (.int .i64 1))),
 oM 15 33])))))))
(.seq (rg [oO 4 (.assign (.c (.bool true)))])
(.ret))))⟩

def f173 : DFn := ⟨19, [.tmp 4],
    .seq (rg [oO 4 (.assign (.c (.int .i64 0)))])
(.seq (.seq (rg [oM 6 0,
 oN 7 4 6,
 oO 8 (.move (.c (.int .i64 0)))])
(.block 0 (.loop (.seq (rg [oO 9 (.bin .lss 2 (.t 8) (.t 7))])
(.seq (.cond (.t 9) (.skip) (.exit 0))
(.seq (.block 1 (.seq (rg [oM 10 8,
 oA 5 10])
(.seq (rg [oM 11 1,
 oM 12 0,
 oM 13 5,
 oI 14 4 12 13,
 oL 15 1 14,
 oO 16 (.call 0 (.t 11) [(.t 15)])])
(.cond (.t 16) (.seq (rg [oM 17 5,
 oA 4 17])
(.ret)) (.skip)))))
(rg [oO 18 (.bin .add 2 (.t 8) (.c (.int .i64 1))),
 oM 8 18])))))))
(.seq (rg [oO 4 (.assign (.c (.int .i64 (-1))))])
(.ret)))⟩

def f174 : DFn := ⟨19, [.tmp 4],
    .seq (rg [oO 4 (.assign (.c (.int .i64 0)))])
(.seq (.seq (rg [oM 6 0,
 oN 7 31 6,
 oO 8 (.move (.c (.int .i64 0)))])
(.block 0 (.loop (.seq (rg [oO 9 (.bin .lss 2 (.t 8) (.t 7))])
(.seq (.cond (.t 9) (.skip) (.exit 0))
(.seq (.block 1 (.seq (rg [oM 10 8,
 oA 5 10])
(.seq (rg [oM 11 1,
 oM 12 0,
 oM 13 5,
 oI 14 31 12 13,
 oL 15 32 14,
 oO 16 (.call 0 (.t 11) [(.t 15)])])
(.cond (.t 16) (.seq (rg [oM 17 5,
 oA 4 17])
(.ret)) (.skip)))))
(rg [oO 18 (.bin .add 2 (.t 8) (.c (.int .i64 1))),
 oM 8 18])))))))
(.seq (rg [oO 4 (.assign (.c (.int .i64 (-1))))])
(.ret)))⟩

def f175 : DFn := ⟨9, [.tmp 2],
    .seq (rg [oO 2 (.assign (.c (.imm .exact [])))])
(.seq (rg [oM 3 0,
 oM 4 0,
 oN 5 35 4,
 oM 6 0,
 oN 7 35 6,
 oO 8 (.slice 35 (.t 3) none (some (.t 5)) (some (.t 7))),
 oA 2 8])
(.ret))⟩

def f176 : DFn := ⟨18, [],
    .seq (rg [oL 4 4 1,
 oN 5 4 4,
 oO 6 (.bin .sub 2 (.t 5) (.c (.int .i64 1))),
 oA 3 6])
(.block 0 (.loop (.seq (.seq (rg [oM 7 3,
 oO 8 (.bin .geq 2 (.t 7) (.c (.int .i64 0)))])
(.cond (.t 8) (.skip) (.exit 0)))
(.seq (.block 1 (.seq (rg [oM 11 0,
 oL 12 4 1,
 oM 13 3,
 oI 14 4 12 13,
 oL 15 1 14,
 oO 16 (.call 2 (.t 11) [(.t 15)]),
 oO 17 (.un .not (.t 16))])
(.cond (.t 17) (.ret) (.skip))))
(rg [oM 9 3,
 oO 10 (.bin .sub 2 (.t 9) (.c (.int .i64 1))),
 oA 3 10])))))⟩

def f178 : DFn := ⟨165, [.tmp 0],
    .seq (rg [oO 0 (.assign (.c (.bool false)))])
(.seq (rg [oO 23 (.call 0 (.f 190) []),
 oM 22 23,
 oO 24 (.extract (.t 22) 0),
 oO 25 (.extract (.t 22) 1),
 oO 1 (.alloc 0),
 oE (.store 0 (.t 1) (.t 24)),
 oA 2 25])
(.seq (rg [oL 27 0 1,
 oO 28 (.call 0 (.f 184) [(.t 27)]),
 oM 26 28,
 oO 29 (.extract (.t 26) 0),
 oO 30 (.extract (.t 26) 1),
 oA 3 29,
 oA 4 30])
(.seq (rg [oL 32 0 1,
 oM 33 2,
 oO 34 (.call 0 (.f 183) [(.t 32), (.t 33), (.c (.int .i64 0))]),
 oM 31 34,
 oO 35 (.extract (.t 31) 0),
 oO 36 (.extract (.t 31) 1),
 oO 5 (.alloc 0),
 oE (.store 0 (.t 5) (.t 35)),
 oA 6 36])
(.seq (rg [oL 38 0 5,
 oO 39 (.call 0 (.f 184) [(.t 38)]),
 oM 37 39,
 oO 40 (.extract (.t 37) 0),
 oO 41 (.extract (.t 37) 1),
 oA 7 40,
 oA 8 41])
(.seq (rg [oL 43 0 1,
 oO 44 (.call 0 (.f 183) [(.t 43), (.c (.imm .exact [])), (.c (.int .i64 0))]),
 oM 42 44,
 oO 45 (.extract (.t 42) 0),
 oO 46 (.extract (.t 42) 1),
 oO 9 (.alloc 0),
 oE (.store 0 (.t 9) (.t 45)),
 oA 10 46])
(.seq (rg [oL 48 0 1,
 oM 49 2,
 oO 50 (.call 0 (.f 183) [(.t 48), (.t 49), (.c (.int .i64 (-1)))]),
 oM 47 50,
 oO 51 (.extract (.t 47) 0),
 oO 52 (.extract (.t 47) 1),
 oO 11 (.alloc 0),
 oE (.store 0 (.t 11) (.t 51)),
 oA 12 52])
(.seq (rg [oL 54 0 1,
 oM 55 2,
 oO 56 (.call 0 (.f 180) [(.t 54), (.t 55)]),
 oM 53 56,
 oO 57 (.extract (.t 53) 0),
 oO 58 (.extract (.t 53) 1),
 oA 13 57,
 oA 14 58])
(.seq (rg [oL 60 0 1,
 oO 61 (.call 0 (.f 180) [(.t 60), (.c (.imm .exact []))]),
 oM 59 61,
 oO 62 (.extract (.t 59) 0),
 oO 63 (.extract (.t 59) 1),
 oA 15 62,
 oA 16 63])
(.seq (rg [oO 65 (.build 0 []),
 oO 66 (.call 0 (.f 180) [(.t 65), (.c (.imm .exact []))]),
 oM 64 66,
 oO 67 (.extract (.t 64) 0),
 oO 68 (.extract (.t 64) 1),
 oA 17 67,
 oA 18 68])
(.seq (rg [oO 70 (.bslice false 9 1 [(0, (.c (.imm .exact [])))]),
 oO 71 (.build 0 [(1, (.t 70))]),
 oO 72 (.call 0 (.f 184) [(.t 71)]),
 oM 69 72,
 oO 73 (.extract (.t 69) 0),
 oO 74 (.extract (.t 69) 1),
 oA 19 73,
 oA 20 74])
(.seq (rg [oO 75 (.bslice false 6 1 [(0, (.c (.int .i64 1)))]),
 oO 76 (.bslice false 9 1 [(0, (.t 75))]),
 oO 77 (.build 39 [(1, (.t 76))]),
 oO 78 (.bslice false 38 1 [(0, (.t 77))]),
 oA 21 78])
(.seq (rg [oM 79 4,
 oO 80 (.bin .eql 3 (.t 79) (.c (.int .i64 0))),
 oM 81 80,
⟨(some 82), .move (.t 3), (some (81, true))⟩,
⟨(some 83), .bslice false 6 2 [(0, (.c (.int .i64 0))), (1, (.c (.int .i64 10)))], (some (81, true))⟩,
⟨(some 84), .call 0 (.f 20) [(.t 82), (.t 83)], (some (81, true))⟩,
 oO 85 (.pick (.t 81) (.t 84) (.c (.bool false))),
 oM 86 85,
⟨(some 87), .move (.t 6), (some (86, true))⟩,
⟨(some 88), .bin .eql 3 (.t 87) (.c (.int .i64 0)), (some (86, true))⟩,
 oO 89 (.pick (.t 86) (.t 88) (.c (.bool false))),
 oM 90 89,
⟨(some 91), .faddr 0 (.t 5) 1, (some (90, true))⟩,
⟨(some 92), .load 9 (.t 91), (some (90, true))⟩,
⟨(some 93), .iaddr 9 (.t 92) (.c (.int .i64 0)), (some (90, true))⟩,
⟨(some 94), .load 6 (.t 93), (some (90, true))⟩,
⟨(some 95), .iaddr 6 (.t 94) (.c (.int .i64 0)), (some (90, true))⟩,
⟨(some 96), .load 2 (.t 95), (some (90, true))⟩,
⟨(some 97), .bin .eql 2 (.t 96) (.c (.int .i64 2)), (some (90, true))⟩,
 oO 98 (.pick (.t 90) (.t 97) (.c (.bool false))),
 oM 99 98,
⟨(some 100), .move (.t 8), (some (99, true))⟩,
⟨(some 101), .bin .eql 3 (.t 100) (.c (.int .i64 0)), (some (99, true))⟩,
 oO 102 (.pick (.t 99) (.t 101) (.c (.bool false))),
 oM 103 102,
⟨(some 104), .move (.t 7), (some (103, true))⟩,
⟨(some 105), .bslice false 6 2 [(0, (.c (.int .i64 0))), (1, (.c (.int .i64 0)))], (some (103, true))⟩,
⟨(some 106), .call 0 (.f 20) [(.t 104), (.t 105)], (some (103, true))⟩,
 oO 107 (.pick (.t 103) (.t 106) (.c (.bool false))),
 oM 108 107,
⟨(some 109), .move (.t 10), (some (108, true))⟩,
⟨(some 110), .bin .eql 3 (.t 109) (.c (.int .i64 0)), (some (108, true))⟩,
 oO 111 (.pick (.t 108) (.t 110) (.c (.bool false))),
 oM 112 111,
⟨(some 113), .load 0 (.t 9), (some (112, true))⟩,
⟨(some 114), .load 0 (.t 1), (some (112, true))⟩,
⟨(some 115), .call 0 (.f 188) [(.t 113), (.t 114)], (some (112, true))⟩,
 oO 116 (.pick (.t 112) (.t 115) (.c (.bool false))),
 oM 117 116,
⟨(some 118), .move (.t 12), (some (117, true))⟩,
⟨(some 119), .bin .eql 3 (.t 118) (.c (.int .i64 1)), (some (117, true))⟩,
 oO 120 (.pick (.t 117) (.t 119) (.c (.bool false))),
 oM 121 120,
⟨(some 122), .move (.t 14), (some (121, true))⟩,
⟨(some 123), .bin .eql 3 (.t 122) (.c (.int .i64 0)), (some (121, true))⟩,
 oO 124 (.pick (.t 121) (.t 123) (.c (.bool false))),
 oM 125 124,
⟨(some 126), .move (.t 13), (some (125, true))⟩,
⟨(some 127), .build 37 [(0, (.c (.int .i64 0))), (1, (.c (.int .i64 1))), (2, (.c (.int .i64 10)))], (some (125, true))⟩,
⟨(some 128), .bslice false 36 1 [(0, (.t 127))], (some (125, true))⟩,
⟨(some 129), .call 0 (.f 187) [(.t 126), (.t 128)], (some (125, true))⟩,
 oO 130 (.pick (.t 125) (.t 129) (.c (.bool false))),
 oM 131 130,
⟨(some 132), .move (.t 16), (some (131, true))⟩,
⟨(some 133), .bin .eql 3 (.t 132) (.c (.int .i64 0)), (some (131, true))⟩,
 oO 134 (.pick (.t 131) (.t 133) (.c (.bool false))),
 oM 135 134,
⟨(some 136), .move (.t 15), (some (135, true))⟩,
⟨(some 137), .build 37 [(0, (.c (.int .i64 (-1)))), (1, (.c (.int .i64 1))), (2, (.c (.int .i64 10)))], (some (135, true))⟩,
⟨(some 138), .bslice false 36 1 [(0, (.t 137))], (some (135, true))⟩,
⟨(some 139), .call 0 (.f 187) [(.t 136), (.t 138)], (some (135, true))⟩,
 oO 140 (.pick (.t 135) (.t 139) (.c (.bool false))),
 oM 141 140,
⟨(some 142), .move (.t 18), (some (141, true))⟩,
⟨(some 143), .bin .eql 3 (.t 142) (.c (.int .i64 270)), (some (141, true))⟩,
 oO 144 (.pick (.t 141) (.t 143) (.c (.bool false))),
 oM 145 144,
⟨(some 146), .move (.t 20), (some (145, true))⟩,
⟨(some 147), .bin .eql 3 (.t 146) (.c (.int .i64 0)), (some (145, true))⟩,
 oO 148 (.pick (.t 145) (.t 147) (.c (.bool false))),
 oM 149 148,
⟨(some 150), .move (.t 19), (some (149, true))⟩,
⟨(some 151), .len 6 (.t 150), (some (149, true))⟩,
⟨(some 152), .bin .eql 2 (.t 151) (.c (.int .i64 0)), (some (149, true))⟩,
 oO 153 (.pick (.t 149) (.t 152) (.c (.bool false))),
 oM 154 153,
⟨(some 155), .load 0 (.t 1), (some (154, true))⟩,
⟨(some 156), .call 0 (.f 181) [(.t 155), (.c (.imm .exact []))], (some (154, true))⟩,
⟨(some 157), .bin .eql 3 (.t 156) (.c (.int .i64 0)), (some (154, true))⟩,
 oO 158 (.pick (.t 154) (.t 157) (.c (.bool false))),
 oM 159 158,
⟨(some 160), .load 0 (.t 1), (some (159, true))⟩,
⟨(some 161), .move (.t 21), (some (159, true))⟩,
⟨(some 162), .call 0 (.f 181) [(.t 160), (.t 161)], (some (159, true))⟩,
⟨(some 163), .bin .eql 3 (.t 162) (.c (.int .i64 420)), (some (159, true))⟩,
 oO 164 (.pick (.t 159) (.t 163) (.c (.bool false))),
 oA 0 164])
(.ret)))))))))))))⟩

def f179 : DFn := ⟨44, [.tmp 4],
    .seq (rg [oO 2 (.box 0 (.t 0)),
 oO 4 (.assign (.c (.bool false)))])
(.seq (.seq (rg [oO 5 (.assign (.c (.int .i64 0)))])
(.block 0 (.loop (.seq (.seq (rg [oM 7 5,
 oM 8 1,
 oN 9 38 8,
 oO 10 (.bin .lss 2 (.t 7) (.t 9))])
(.cond (.t 10) (.skip) (.exit 0)))
(.seq (.block 1 (.seq (rg [oO 6 (.assign (.c (.int .i64 0)))])
(.block 2 (.loop (.seq (.seq (rg [oM 13 6,
 oM 14 1,
 oM 15 5,
 oI 16 38 14 15,
 oF 17 39 16 1,
 oL 18 9 17,
 oN 19 9 18,
 oO 20 (.bin .lss 2 (.t 13) (.t 19))])
(.cond (.t 20) (.skip) (.exit 2)))
(.seq (.block 3 (.seq (rg [oM 23 6,
 oO 24 (.bin .geq 2 (.t 23) (.c (.int .i64 8))),
 oM 25 24,
⟨(some 26), .move (.t 1), (some (25, false))⟩,
⟨(some 27), .move (.t 5), (some (25, false))⟩,
⟨(some 28), .iaddr 38 (.t 26) (.t 27), (some (25, false))⟩,
⟨(some 29), .faddr 39 (.t 28) 1, (some (25, false))⟩,
⟨(some 30), .load 9 (.t 29), (some (25, false))⟩,
⟨(some 31), .move (.t 6), (some (25, false))⟩,
⟨(some 32), .iaddr 9 (.t 30) (.t 31), (some (25, false))⟩,
⟨(some 33), .load 6 (.t 32), (some (25, false))⟩,
⟨(some 34), .len 6 (.t 33), (some (25, false))⟩,
⟨(some 35), .bin .gtr 2 (.t 34) (.c (.int .i64 20)), (some (25, false))⟩,
 oO 36 (.pick (.t 25) (.c (.bool true)) (.t 35))])
(.cond (.t 36) (.seq (rg [oO 4 (.assign (.c (.bool false)))])
(.ret)) (.skip))))
(rg [oM 21 6,
 oO 22 (.bin .add 2 (.t 21) (.c (.int .i64 1))),
 oA 6 22])))))))
(rg [oM 11 5,
 oO 12 (.bin .add 2 (.t 11) (.c (.int .i64 1))),
 oA 5 12]))))))
(.seq (rg [oL 37 0 2,
 oO 38 (.call 0 (.f 129) [(.t 37)]),
 oM 39 38,
⟨(some 40), .move (.t 1), (some (39, true))⟩,
⟨(some 41), .len 38 (.t 40), (some (39, true))⟩,
⟨(some 42), .bin .leq 2 (.t 41) (.c (.int .i64 4)), (some (39, true))⟩,
 oO 43 (.pick (.t 39) (.t 42) (.c (.bool false))),
 oA 4 43])
(.ret)))⟩

def f180 : DFn := ⟨42, [.cell 4 36, .cell 5 3],
    .seq (rg [oO 2 (.box 0 (.t 0)),
 oO 4 (.alloc 36),
 oO 5 (.alloc 3)])
(.seq (.seq (rg [oL 13 0 2,
 oM 14 1,
 oO 15 (.call 0 (.f 181) [(.t 13), (.t 14)]),
 oA 6 15])
(.seq (rg [oM 16 6,
 oO 17 (.bin .neq 3 (.t 16) (.c (.int .i64 0)))])
(.cond (.t 17) (.seq (rg [oM 18 6,
 oE (.store 36 (.t 4) (.c (.imm .exact []))),
 oE (.store 3 (.t 5) (.t 18))])
(.ret)) (.skip))))
(.seq (rg [oF 19 0 2 2,
 oL 20 14 19,
 oN 21 14 20,
 oO 22 (.mkslice false 6 (.t 21) (.t 21)),
 oO 7 (.alloc 6),
 oE (.store 6 (.t 7) (.t 22))])
(.seq (rg [oO 23 (.mkfn 191 [(.t 7), (.t 4)]),
 oO 8 (.alloc 40),
 oE (.store 40 (.t 8) (.t 23))])
(.seq (.seq (rg [oL 24 0 2,
 oM 25 1,
 oO 26 (.call 0 (.f 192) [(.t 24), (.t 25)])])
(.block 0 (.rfunc (.t 26) [27, 28] (.seq (rg [oA 9 27])
(rg [oO 10 (.alloc 0),
 oE (.store 0 (.t 10) (.t 28))])) (.block 1 (.seq (rg [oL 30 0 10,
 oO 31 (.call 0 (.f 184) [(.t 30)]),
 oM 29 31,
 oO 32 (.extract (.t 29) 0),
 oO 33 (.extract (.t 29) 1),
 oA 11 32,
 oA 12 33])
(.seq (.seq (rg [oM 34 12,
 oO 35 (.bin .neq 3 (.t 34) (.c (.int .i64 0)))])
(.cond (.t 35) (.seq (rg [oM 36 12,
 oE (.store 36 (.t 4) (.c (.imm .exact []))),
 oE (.store 3 (.t 5) (.t 36))])
(.ret)) (.skip)))
(rg [oL 37 40 8,
 oM 38 9,
 oM 39 11,
 oO 40 (.call 2 (.t 37) [(.t 38), (.t 39)])])))))))
(.seq (rg [oL 41 36 4,
 oE (.store 36 (.t 4) (.t 41)),
 oE (.store 3 (.t 5) (.c (.int .i64 0)))])
(.ret))))))⟩

def f181 : DFn := ⟨21, [.tmp 4],
    .seq (rg [oO 2 (.box 0 (.t 0)),
 oO 4 (.assign (.c (.int .i64 0)))])
(.seq (.seq (rg [oL 7 0 2,
 oO 8 (.call 0 (.f 15) [(.t 7)]),
 oA 5 8])
(.seq (rg [oM 9 5,
 oO 10 (.bin .neq 3 (.t 9) (.c (.int .i64 0)))])
(.cond (.t 10) (.seq (rg [oM 11 5,
 oA 4 11])
(.ret)) (.skip))))
(.seq (rg [oO 12 (.mkfn 193 [(.t 2)]),
 oA 6 12])
(.seq (.seq (rg [oM 13 1,
 oN 14 38 13,
 oO 15 (.bin .gtr 2 (.t 14) (.c (.int .i64 8))),
 oM 16 15,
⟨(some 17), .move (.t 1), (some (16, false))⟩,
⟨(some 18), .move (.t 6), (some (16, false))⟩,
⟨(some 19), .call 3 (.f 194) [(.t 17), (.t 18)], (some (16, false))⟩,
 oO 20 (.pick (.t 16) (.c (.bool true)) (.t 19))])
(.cond (.t 20) (.seq (rg [oO 4 (.assign (.c (.int .i64 420)))])
(.ret)) (.skip)))
(.seq (rg [oO 4 (.assign (.c (.int .i64 0)))])
(.ret)))))⟩

def f183 : DFn := ⟨29, [.cell 6 0, .tmp 7],
    .seq (rg [oO 3 (.box 0 (.t 0)),
 oO 6 (.alloc 0),
 oO 7 (.assign (.c (.int .i64 0)))])
(.seq (.seq (rg [oL 9 0 3,
 oM 10 1,
 oO 11 (.call 0 (.f 181) [(.t 9), (.t 10)]),
 oA 8 11])
(.seq (rg [oM 12 8,
 oO 13 (.bin .neq 3 (.t 12) (.c (.int .i64 0)))])
(.cond (.t 13) (.seq (rg [oL 14 0 6,
 oM 15 8,
 oE (.store 0 (.t 6) (.t 14)),
 oA 7 15])
(.ret)) (.skip))))
(.seq (.seq (rg [oM 16 2,
 oO 17 (.bin .lss 2 (.t 16) (.c (.int .i64 0))),
 oM 18 17,
⟨(some 19), .move (.t 2), (some (18, false))⟩,
⟨(some 20), .move (.t 1), (some (18, false))⟩,
⟨(some 21), .len 38 (.t 20), (some (18, false))⟩,
⟨(some 22), .bin .gtr 2 (.t 19) (.t 21), (some (18, false))⟩,
 oO 23 (.pick (.t 18) (.c (.bool true)) (.t 22))])
(.cond (.t 23) (.seq (rg [oL 24 0 6,
 oE (.store 0 (.t 6) (.t 24)),
 oO 7 (.assign (.c (.int .i64 1)))])
(.ret)) (.skip)))
(.seq (rg [oL 25 0 3,
 oM 26 1,
 oM 27 2,
 oO 28 (.call 0 (.f 195) [(.t 25), (.t 26), (.t 27)]),
 oE (.store 0 (.t 6) (.t 28)),
 oO 7 (.assign (.c (.int .i64 0)))])
(.ret))))⟩

def f184 : DFn := ⟨38, [.tmp 2, .tmp 3],
    .seq (rg [oO 1 (.box 0 (.t 0)),
 oO 2 (.assign (.c (.imm .exact []))),
 oO 3 (.assign (.c (.int .i64 0)))])
(.seq (rg [oL 8 0 1,
 oO 9 (.call 0 (.f 131) [(.t 8)]),
 oM 7 9,
 oO 10 (.extract (.t 7) 0),
 oO 11 (.extract (.t 7) 1),
 oO 4 (.alloc 29),
 oE (.store 29 (.t 4) (.t 10)),
 oA 3 11])
(.seq (.seq (rg [oM 12 3,
 oO 13 (.bin .neq 3 (.t 12) (.c (.int .i64 0)))])
(.cond (.t 13) (.seq (rg [oM 14 3,
 oO 2 (.assign (.c (.imm .exact []))),
 oA 3 14])
(.ret)) (.skip)))
(.seq (.seq (rg [oF 15 29 4 0,
 oL 16 6 15,
 oN 17 6 16,
 oO 18 (.move (.c (.int .i64 0)))])
(.block 0 (.loop (.seq (rg [oO 19 (.bin .lss 2 (.t 18) (.t 17))])
(.seq (.cond (.t 19) (.skip) (.exit 0))
(.seq (.block 1 (.seq (rg [oM 20 18,
 oI 21 6 16 18,
 oL 22 2 21,
 oA 5 20,
 oA 6 22])
(rg [oM 23 2,
 oF 24 0 1 2,
 oL 25 14 24,
 oM 26 5,
 oI 27 14 25 26,
 oF 28 15 27 3,
 oL 29 16 28,
 oM 30 6,
 oI 31 16 29 30,
 oF 32 17 31 0,
 oL 33 2 32,
 oO 34 (.bslice false 6 1 [(0, (.t 33))]),
 oO 35 (.append 0 6 6 (.t 23) (.t 34)),
 oA 2 35])))
(rg [oO 36 (.bin .add 2 (.t 18) (.c (.int .i64 1))),
 oM 18 36])))))))
(.seq (rg [oM 37 2,
 oA 2 37,
 oO 3 (.assign (.c (.int .i64 0)))])
(.ret)))))⟩

def f187 : DFn := ⟨26, [.tmp 4],
    .seq (rg [oO 4 (.assign (.c (.bool false)))])
(.seq (.seq (rg [oM 6 0,
 oN 7 36 6,
 oM 8 1,
 oN 9 36 8,
 oO 10 (.bin .neq 2 (.t 7) (.t 9))])
(.cond (.t 10) (.seq (rg [oO 4 (.assign (.c (.bool false)))])
(.ret)) (.skip)))
(.seq (.seq (rg [oO 5 (.assign (.c (.int .i64 0)))])
(.block 0 (.loop (.seq (.seq (rg [oM 11 5,
 oM 12 0,
 oN 13 36 12,
 oO 14 (.bin .lss 2 (.t 11) (.t 13))])
(.cond (.t 14) (.skip) (.exit 0)))
(.seq (.block 1 (.seq (.region true [] [
 oM 17 0,
 oM 18 5,
 oI 19 36 17 18,
 oL 20 37 19,
 oM 21 1,
 oM 22 5,
 oI 23 36 21 22,
 oL 24 37 23,
 oO 25 (.bin .neq 37 (.t 20) (.t 24))])
(.cond (.t 25) (.seq (rg [oO 4 (.assign (.c (.bool false)))])
(.ret)) (.skip))))
(rg [oM 15 5,
 oO 16 (.bin .add 2 (.t 15) (.c (.int .i64 1))),
 oA 5 16]))))))
(.seq (rg [oO 4 (.assign (.c (.bool true)))])
(.ret))))⟩

def f188 : DFn := ⟨89, [.tmp 4],
    .seq (rg [oO 2 (.box 0 (.t 0)),
 oO 3 (.box 0 (.t 1)),
 oO 4 (.assign (.c (.bool false)))])
(.seq (.seq (rg [oF 8 0 2 0,
 oL 9 10 8,
 oN 10 10 9,
 oF 11 0 3 0,
 oL 12 10 11,
 oN 13 10 12,
 oO 14 (.bin .neq 2 (.t 10) (.t 13)),
 oM 15 14,
⟨(some 16), .faddr 0 (.t 2) 1, (some (15, false))⟩,
⟨(some 17), .load 9 (.t 16), (some (15, false))⟩,
⟨(some 18), .len 9 (.t 17), (some (15, false))⟩,
⟨(some 19), .faddr 0 (.t 3) 1, (some (15, false))⟩,
⟨(some 20), .load 9 (.t 19), (some (15, false))⟩,
⟨(some 21), .len 9 (.t 20), (some (15, false))⟩,
⟨(some 22), .bin .neq 2 (.t 18) (.t 21), (some (15, false))⟩,
 oO 23 (.pick (.t 15) (.c (.bool true)) (.t 22)),
 oM 24 23,
⟨(some 25), .faddr 0 (.t 2) 2, (some (24, false))⟩,
⟨(some 26), .load 14 (.t 25), (some (24, false))⟩,
⟨(some 27), .len 14 (.t 26), (some (24, false))⟩,
⟨(some 28), .faddr 0 (.t 3) 2, (some (24, false))⟩,
⟨(some 29), .load 14 (.t 28), (some (24, false))⟩,
⟨(some 30), .len 14 (.t 29), (some (24, false))⟩,
⟨(some 31), .bin .neq 2 (.t 27) (.t 30), (some (24, false))⟩,
 oO 32 (.pick (.t 24) (.c (.bool true)) (.t 31))])
(.cond (.t 32) (.seq (rg [oO 4 (.assign (.c (.bool false)))])
(.ret)) (.skip)))
(.seq (.seq (rg [oO 5 (.assign (.c (.int .i64 0)))])
(.block 0 (.loop (.seq (.seq (rg [oM 33 5,
 oF 34 0 2 0,
 oL 35 10 34,
 oN 36 10 35,
 oO 37 (.bin .lss 2 (.t 33) (.t 36))])
(.cond (.t 37) (.skip) (.exit 0)))
(.seq (.block 1 (.seq (.region true [] [
 oF 40 0 2 0,
 oL 41 10 40,
 oM 42 5,
 oI 43 10 41 42,
 oL 44 20 43,
 oF 45 0 3 0,
 oL 46 10 45,
 oM 47 5,
 oI 48 10 46 47,
 oL 49 20 48,
 oO 50 (.bin .neq 20 (.t 44) (.t 49))])
(.cond (.t 50) (.seq (rg [oO 4 (.assign (.c (.bool false)))])
(.ret)) (.skip))))
(rg [oM 38 5,
 oO 39 (.bin .add 2 (.t 38) (.c (.int .i64 1))),
 oA 5 39]))))))
(.seq (.seq (rg [oO 6 (.assign (.c (.int .i64 0)))])
(.block 2 (.loop (.seq (.seq (rg [oM 51 6,
 oF 52 0 2 1,
 oL 53 9 52,
 oN 54 9 53,
 oO 55 (.bin .lss 2 (.t 51) (.t 54))])
(.cond (.t 55) (.skip) (.exit 2)))
(.seq (.block 3 (.seq (.region true [] [
 oF 58 0 2 1,
 oL 59 9 58,
 oM 60 6,
 oI 61 9 59 60,
 oL 62 6 61,
 oF 63 0 3 1,
 oL 64 9 63,
 oM 65 6,
 oI 66 9 64 65,
 oL 67 6 66,
 oO 68 (.call 0 (.f 20) [(.t 62), (.t 67)]),
 oO 69 (.un .not (.t 68))])
(.cond (.t 69) (.seq (rg [oO 4 (.assign (.c (.bool false)))])
(.ret)) (.skip))))
(rg [oM 56 6,
 oO 57 (.bin .add 2 (.t 56) (.c (.int .i64 1))),
 oA 6 57]))))))
(.seq (.seq (rg [oO 7 (.assign (.c (.int .i64 0)))])
(.block 4 (.loop (.seq (.seq (rg [oM 70 7,
 oF 71 0 2 2,
 oL 72 14 71,
 oN 73 14 72,
 oO 74 (.bin .lss 2 (.t 70) (.t 73))])
(.cond (.t 74) (.skip) (.exit 4)))
(.seq (.block 5 (.seq (.region true [] [
 oF 77 0 2 2,
 oL 78 14 77,
 oM 79 7,
 oI 80 14 78 79,
 oL 81 15 80,
 oF 82 0 3 2,
 oL 83 14 82,
 oM 84 7,
 oI 85 14 83 84,
 oL 86 15 85,
 oO 87 (.call 0 (.f 196) [(.t 81), (.t 86)]),
 oO 88 (.un .not (.t 87))])
(.cond (.t 88) (.seq (rg [oO 4 (.assign (.c (.bool false)))])
(.ret)) (.skip))))
(rg [oM 75 7,
 oO 76 (.bin .add 2 (.t 75) (.c (.int .i64 1))),
 oA 7 76]))))))
(.seq (rg [oO 4 (.assign (.c (.bool true)))])
(.ret))))))⟩

def f190 : DFn := ⟨29, [.cell 0 0, .tmp 1],
    .seq (rg [oO 0 (.alloc 0),
 oO 1 (.assign (.c (.imm .exact [])))])
(.seq (rg [oO 5 (.build 20 [(2, (.c (.int .i64 5)))]),
 oO 6 (.build 20 [(2, (.c (.int .i64 6)))]),
 oO 7 (.bslice false 10 2 [(0, (.t 5)), (1, (.t 6))]),
 oO 2 (.alloc 10),
 oE (.store 10 (.t 2) (.t 7))])
(.seq (rg [oO 8 (.mkfn 197 [(.t 2)]),
 oA 3 8])
(.seq (rg [oO 9 (.bslice false 6 1 [(0, (.c (.int .i64 0)))]),
 oM 10 3,
 oO 11 (.call 1 (.t 10) [(.c (.int .i64 0))]),
 oO 12 (.build 17 [(3, (.t 11))]),
 oM 13 3,
 oO 14 (.call 1 (.t 13) [(.c (.int .i64 1))]),
 oO 15 (.build 17 [(0, (.c (.int .i64 10))), (1, (.c (.int .i64 10))), (3, (.t 14))]),
 oO 16 (.bslice false 16 2 [(0, (.t 12)), (1, (.t 15))]),
 oO 17 (.build 15 [(2, (.t 9)), (3, (.t 16))]),
 oO 4 (.alloc 15),
 oE (.store 15 (.t 4) (.t 17))])
(.seq (rg [oL 18 10 2,
 oO 19 (.bslice false 6 2 [(0, (.c (.int .i64 1))), (1, (.c (.int .i64 2)))]),
 oO 20 (.bslice false 9 1 [(0, (.t 19))]),
 oL 21 15 4,
 oL 22 15 4,
 oO 23 (.bslice false 14 2 [(0, (.t 21)), (1, (.t 22))]),
 oO 24 (.build 0 [(0, (.t 18)), (1, (.t 20)), (2, (.t 23))]),
 oO 25 (.bslice false 6 2 [(0, (.c (.int .i64 1))), (1, (.c (.int .i64 0)))]),
 oO 26 (.bslice false 9 1 [(0, (.t 25))]),
 oO 27 (.build 39 [(0, (.c (.int .i64 7))), (1, (.t 26))]),
 oO 28 (.bslice false 38 1 [(0, (.t 27))]),
 oE (.store 0 (.t 0) (.t 24)),
 oA 1 28])
(.ret)))))⟩

def f191 : DFn := ⟨35, [],
    .seq (.seq (rg [oM 8 1,
 oN 9 6 8,
 oO 10 (.move (.c (.int .i64 0)))])
(.block 0 (.loop (.seq (rg [oO 11 (.bin .lss 2 (.t 10) (.t 9))])
(.seq (.cond (.t 11) (.skip) (.exit 0))
(.seq (.block 1 (.seq (rg [oM 12 10,
 oI 13 6 8 10,
 oL 14 2 13,
 oA 6 12,
 oA 7 14])
(.seq (rg [oM 15 7,
 oL 16 6 2,
 oM 17 6,
 oI 18 6 16 17,
 oL 19 2 18,
 oO 20 (.bin .neq 2 (.t 15) (.t 19))])
(.cond (.t 20) (.region true [] [
 oL 21 36 3,
 oM 22 0,
 oM 23 6,
 oM 24 7,
 oL 25 6 2,
 oM 26 6,
 oI 27 6 25 26,
 oL 28 2 27,
 oO 29 (.bin .sub 2 (.t 24) (.t 28)),
 oO 30 (.build 37 [(0, (.t 22)), (1, (.t 23)), (2, (.t 29))]),
 oO 31 (.bslice false 36 1 [(0, (.t 30))]),
 oO 32 (.append 0 36 36 (.t 21) (.t 31)),
 oE (.store 36 (.t 3) (.t 32))]) (.skip)))))
(rg [oO 33 (.bin .add 2 (.t 10) (.c (.int .i64 1))),
 oM 10 33])))))))
(rg [oM 34 1,
 oE (.store 6 (.t 2) (.t 34))])⟩

def f192 : DFn := ⟨6, [.tmp 4],
    .seq (rg [oO 2 (.box 0 (.t 0)),
 oO 3 (.box 38 (.t 1)),
 oO 4 (.assign (.c .nilfn))])
(.seq (rg [oO 5 (.mkfn 198 [(.t 3), (.t 2)]),
 oA 4 5])
(.ret))⟩

def f193 : DFn := ⟨27, [.tmp 3],
    .seq (rg [oO 2 (.box 39 (.t 0)),
 oO 3 (.assign (.c (.bool false)))])
(.seq (rg [oF 4 39 2 0,
 oL 5 2 4,
 oO 6 (.bin .lss 2 (.t 5) (.c (.int .i64 0))),
 oM 7 6,
⟨(some 8), .faddr 39 (.t 2) 0, (some (7, false))⟩,
⟨(some 9), .load 2 (.t 8), (some (7, false))⟩,
⟨(some 10), .bin .gtr 2 (.t 9) (.c (.int .i64 1048576)), (some (7, false))⟩,
 oO 11 (.pick (.t 7) (.c (.bool true)) (.t 10)),
 oM 12 11,
⟨(some 13), .faddr 39 (.t 2) 1, (some (12, false))⟩,
⟨(some 14), .load 9 (.t 13), (some (12, false))⟩,
⟨(some 15), .len 9 (.t 14), (some (12, false))⟩,
⟨(some 16), .faddr 0 (.t 1) 1, (some (12, false))⟩,
⟨(some 17), .load 9 (.t 16), (some (12, false))⟩,
⟨(some 18), .len 9 (.t 17), (some (12, false))⟩,
⟨(some 19), .bin .neq 2 (.t 15) (.t 18), (some (12, false))⟩,
 oO 20 (.pick (.t 12) (.c (.bool true)) (.t 19)),
 oM 21 20,
⟨(some 22), .faddr 39 (.t 2) 1, (some (21, false))⟩,
⟨(some 23), .load 9 (.t 22), (some (21, false))⟩,
⟨(some 24), .mkfn 199 [(.t 1)], (some (21, false))⟩,
⟨(some 25), .call 0 (.f 94) [(.t 23), (.t 24)], (some (21, false))⟩,
 oO 26 (.pick (.t 21) (.c (.bool true)) (.t 25)),
 oA 3 26])
(.ret))⟩

def f194 : DFn := ⟨9, [.tmp 4],
    .seq (rg [oO 4 (.assign (.c (.bool false)))])
(.seq (rg [oM 5 0,
 oM 6 1,
 oO 7 (.call 0 (.f 201) [(.t 5), (.t 6)]),
 oO 8 (.bin .geq 2 (.t 7) (.c (.int .i64 0))),
 oA 4 8])
(.ret))⟩

def f195 : DFn := ⟨54, [.cell 6 0],
    .seq (rg [oO 3 (.box 0 (.t 0)),
 oO 6 (.alloc 0)])
(.seq (rg [oF 13 0 3 0,
 oL 14 10 13,
 oF 15 0 3 2,
 oL 16 14 15,
 oO 17 (.build 0 [(0, (.t 14)), (2, (.t 16))]),
 oO 7 (.alloc 0),
 oE (.store 0 (.t 7) (.t 17))])
(.seq (.seq (rg [oF 18 0 3 1,
 oL 19 9 18,
 oN 20 9 19,
 oO 21 (.move (.c (.int .i64 0)))])
(.block 0 (.loop (.seq (rg [oO 22 (.bin .lss 2 (.t 21) (.t 20))])
(.seq (.cond (.t 22) (.skip) (.exit 0))
(.seq (.block 1 (.seq (rg [oM 23 21,
 oI 24 9 19 21,
 oL 25 6 24,
 oA 8 23,
 oA 9 25])
(.seq (rg [oM 26 9,
 oO 27 (.bslice false 9 1 [(0, (.t 26))]),
 oA 10 27])
(.seq (.seq (rg [oM 28 1,
 oM 29 2,
 oO 30 (.slice 38 (.t 28) (some (.t 29)) none none),
 oN 31 38 30,
 oO 32 (.move (.c (.int .i64 0)))])
(.block 2 (.loop (.seq (rg [oO 33 (.bin .lss 2 (.t 32) (.t 31))])
(.seq (.cond (.t 33) (.skip) (.exit 2))
(.seq (.block 3 (.seq (rg [oI 34 38 30 32,
 oL 35 39 34,
 oO 12 (.alloc 39),
 oE (.store 39 (.t 12) (.t 35))])
(rg [oM 36 10,
 oF 37 39 12 1,
 oL 38 9 37,
 oM 39 8,
 oI 40 9 38 39,
 oL 41 6 40,
 oO 42 (.bslice false 9 1 [(0, (.t 41))]),
 oO 43 (.append 0 9 9 (.t 36) (.t 42)),
 oA 10 43])))
(rg [oO 44 (.bin .add 2 (.t 32) (.c (.int .i64 1))),
 oM 32 44])))))))
(.region true [] [
 oF 45 0 7 1,
 oL 46 9 45,
 oM 47 10,
 oO 48 (.call 0 (.f 202) [(.t 47)]),
 oO 49 (.bslice false 9 1 [(0, (.t 48))]),
 oO 50 (.append 0 9 9 (.t 46) (.t 49)),
 oF 51 0 7 1,
 oE (.store 9 (.t 51) (.t 50))])))))
(rg [oO 52 (.bin .add 2 (.t 21) (.c (.int .i64 1))),
 oM 21 52])))))))
(.seq (rg [oL 53 0 7,
 oE (.store 0 (.t 6) (.t 53))])
(.ret))))⟩

def f196 : DFn := ⟨101, [.tmp 4],
    .seq (rg [oO 2 (.box 15 (.t 0)),
 oO 3 (.box 15 (.t 1)),
 oO 4 (.assign (.c (.bool false)))])
(.seq (.seq (rg [oF 9 15 2 0,
 oL 10 2 9,
 oF 11 15 3 0,
 oL 12 2 11,
 oO 13 (.bin .neq 2 (.t 10) (.t 12)),
 oM 14 13,
⟨(some 15), .faddr 15 (.t 2) 1, (some (14, false))⟩,
⟨(some 16), .load 2 (.t 15), (some (14, false))⟩,
⟨(some 17), .faddr 15 (.t 3) 1, (some (14, false))⟩,
⟨(some 18), .load 2 (.t 17), (some (14, false))⟩,
⟨(some 19), .bin .neq 2 (.t 16) (.t 18), (some (14, false))⟩,
 oO 20 (.pick (.t 14) (.c (.bool true)) (.t 19)),
 oM 21 20,
⟨(some 22), .faddr 15 (.t 2) 2, (some (21, false))⟩,
⟨(some 23), .load 6 (.t 22), (some (21, false))⟩,
⟨(some 24), .faddr 15 (.t 3) 2, (some (21, false))⟩,
⟨(some 25), .load 6 (.t 24), (some (21, false))⟩,
⟨(some 26), .call 0 (.f 20) [(.t 23), (.t 25)], (some (21, false))⟩,
⟨(some 27), .un .not (.t 26), (some (21, false))⟩,
 oO 28 (.pick (.t 21) (.c (.bool true)) (.t 27)),
 oM 29 28,
⟨(some 30), .faddr 15 (.t 2) 3, (some (29, false))⟩,
⟨(some 31), .load 16 (.t 30), (some (29, false))⟩,
⟨(some 32), .len 16 (.t 31), (some (29, false))⟩,
⟨(some 33), .faddr 15 (.t 3) 3, (some (29, false))⟩,
⟨(some 34), .load 16 (.t 33), (some (29, false))⟩,
⟨(some 35), .len 16 (.t 34), (some (29, false))⟩,
⟨(some 36), .bin .neq 2 (.t 32) (.t 35), (some (29, false))⟩,
 oO 37 (.pick (.t 29) (.c (.bool true)) (.t 36))])
(.cond (.t 37) (.seq (rg [oO 4 (.assign (.c (.bool false)))])
(.ret)) (.skip)))
(.seq (.seq (rg [oO 5 (.assign (.c (.int .i64 0)))])
(.block 0 (.loop (.seq (.seq (rg [oM 38 5,
 oF 39 15 2 3,
 oL 40 16 39,
 oN 41 16 40,
 oO 42 (.bin .lss 2 (.t 38) (.t 41))])
(.cond (.t 42) (.skip) (.exit 0)))
(.seq (.block 1 (.seq (rg [oF 45 15 2 3,
 oL 46 16 45,
 oM 47 5,
 oI 48 16 46 47,
 oL 49 17 48,
 oO 6 (.alloc 17),
 oE (.store 17 (.t 6) (.t 49))])
(.seq (rg [oF 50 15 3 3,
 oL 51 16 50,
 oM 52 5,
 oI 53 16 51 52,
 oL 54 17 53,
 oO 7 (.alloc 17),
 oE (.store 17 (.t 7) (.t 54))])
(.seq (.seq (rg [oF 55 17 6 0,
 oL 56 2 55,
 oF 57 17 7 0,
 oL 58 2 57,
 oO 59 (.bin .neq 2 (.t 56) (.t 58)),
 oM 60 59,
⟨(some 61), .faddr 17 (.t 6) 1, (some (60, false))⟩,
⟨(some 62), .load 2 (.t 61), (some (60, false))⟩,
⟨(some 63), .faddr 17 (.t 7) 1, (some (60, false))⟩,
⟨(some 64), .load 2 (.t 63), (some (60, false))⟩,
⟨(some 65), .bin .neq 2 (.t 62) (.t 64), (some (60, false))⟩,
 oO 66 (.pick (.t 60) (.c (.bool true)) (.t 65)),
 oM 67 66,
⟨(some 68), .faddr 17 (.t 6) 2, (some (67, false))⟩,
⟨(some 69), .load 2 (.t 68), (some (67, false))⟩,
⟨(some 70), .faddr 17 (.t 7) 2, (some (67, false))⟩,
⟨(some 71), .load 2 (.t 70), (some (67, false))⟩,
⟨(some 72), .bin .neq 2 (.t 69) (.t 71), (some (67, false))⟩,
 oO 73 (.pick (.t 67) (.c (.bool true)) (.t 72)),
 oM 74 73,
⟨(some 75), .faddr 17 (.t 6) 3, (some (74, false))⟩,
⟨(some 76), .load 18 (.t 75), (some (74, false))⟩,
⟨(some 77), .len 18 (.t 76), (some (74, false))⟩,
⟨(some 78), .faddr 17 (.t 7) 3, (some (74, false))⟩,
⟨(some 79), .load 18 (.t 78), (some (74, false))⟩,
⟨(some 80), .len 18 (.t 79), (some (74, false))⟩,
⟨(some 81), .bin .neq 2 (.t 77) (.t 80), (some (74, false))⟩,
 oO 82 (.pick (.t 74) (.c (.bool true)) (.t 81))])
(.cond (.t 82) (.seq (rg [oO 4 (.assign (.c (.bool false)))])
(.ret)) (.skip)))
(.seq (rg [oO 8 (.assign (.c (.int .i64 0)))])
(.block 2 (.loop (.seq (.seq (rg [oM 83 8,
 oF 84 17 6 3,
 oL 85 18 84,
 oN 86 18 85,
 oO 87 (.bin .lss 2 (.t 83) (.t 86))])
(.cond (.t 87) (.skip) (.exit 2)))
(.seq (.block 3 (.seq (.region true [] [
 oF 90 17 6 3,
 oL 91 18 90,
 oM 92 8,
 oI 93 18 91 92,
 oL 94 19 93,
 oF 95 17 7 3,
 oL 96 18 95,
 oM 97 8,
 oI 98 18 96 97,
 oL 99 19 98,
 oO 100 (.bin .neq 19 (.t 94) (.t 99))])
(.cond (.t 100) (.seq (rg [oO 4 (.assign (.c (.bool false)))])
(.ret)) (.skip))))
(rg [oM 88 8,
 oO 89 (.bin .add 2 (.t 88) (.c (.int .i64 1))),
 oA 8 89]))))))))))
(rg [oM 43 5,
 oO 44 (.bin .add 2 (.t 43) (.c (.int .i64 1))),
 oA 5 44]))))))
(.seq (rg [oO 4 (.assign (.c (.bool true)))])
(.ret))))⟩

def f197 : DFn := ⟨10, [.tmp 3],
    .seq (rg [oO 3 (.assign (.c (.imm .exact [])))])
(.seq (rg [oL 4 10 1,
 oM 5 0,
 oI 6 10 4 5,
 oL 7 20 6,
 oO 8 (.build 19 [(0, (.t 7)), (1, (.c (.int .i64 1)))]),
 oO 9 (.bslice false 18 1 [(0, (.t 8))]),
 oA 3 9])
(.ret))⟩

def f198 : DFn := ⟨21, [],
    .seq (rg [oL 5 38 1,
 oN 6 38 5,
 oO 7 (.bin .add 2 (.t 6) (.c (.int .i64 1))),
 oO 8 (.move (.c (.int .i64 0)))])
(.block 0 (.loop (.seq (rg [oO 9 (.bin .lss 2 (.t 8) (.t 7))])
(.seq (.cond (.t 9) (.skip) (.exit 0))
(.seq (.block 1 (.seq (rg [oM 10 8,
 oA 4 10])
(.seq (rg [oM 11 0,
 oM 12 4,
 oO 13 (.bin .sub 2 (.t 12) (.c (.int .i64 1))),
 oL 14 0 2,
 oL 15 38 1,
 oM 16 4,
 oO 17 (.call 0 (.f 195) [(.t 14), (.t 15), (.t 16)]),
 oO 18 (.call 2 (.t 11) [(.t 13), (.t 17)]),
 oO 19 (.un .not (.t 18))])
(.cond (.t 19) (.ret) (.skip)))))
(rg [oO 20 (.bin .add 2 (.t 8) (.c (.int .i64 1))),
 oM 8 20]))))))⟩

def f199 : DFn := ⟨14, [.tmp 3],
    .seq (rg [oO 3 (.assign (.c (.bool false)))])
(.seq (rg [oM 4 0,
 oN 5 6 4,
 oF 6 0 1 0,
 oL 7 10 6,
 oN 8 10 7,
 oO 9 (.bin .neq 2 (.t 5) (.t 8)),
 oM 10 9,
⟨(some 11), .move (.t 0), (some (10, false))⟩,
⟨(some 12), .call 0 (.f 71) [(.t 11), (.f 200)], (some (10, false))⟩,
 oO 13 (.pick (.t 10) (.c (.bool true)) (.t 12)),
 oA 3 13])
(.ret))⟩

def f200 : DFn := ⟨9, [.tmp 2],
    .seq (rg [oO 2 (.assign (.c (.bool false)))])
(.seq (rg [oM 3 0,
 oO 4 (.bin .lss 2 (.t 3) (.c (.int .i64 0))),
 oM 5 4,
⟨(some 6), .move (.t 0), (some (5, false))⟩,
⟨(some 7), .bin .gtr 2 (.t 6) (.c (.int .i64 4096)), (some (5, false))⟩,
 oO 8 (.pick (.t 5) (.c (.bool true)) (.t 7)),
 oA 2 8])
(.ret))⟩

def f201 : DFn := ⟨19, [.tmp 4],
    .seq (rg [oO 4 (.assign (.c (.int .i64 0)))])
(.seq (.seq (rg [oM 6 0,
 oN 7 38 6,
 oO 8 (.move (.c (.int .i64 0)))])
(.block 0 (.loop (.seq (rg [oO 9 (.bin .lss 2 (.t 8) (.t 7))])
(.seq (.cond (.t 9) (.skip) (.exit 0))
(.seq (.block 1 (.seq (rg [oM 10 8,
 oA 5 10])
(.seq (rg [oM 11 1,
 oM 12 0,
 oM 13 5,
 oI 14 38 12 13,
 oL 15 39 14,
 oO 16 (.call 0 (.t 11) [(.t 15)])])
(.cond (.t 16) (.seq (rg [oM 17 5,
 oA 4 17])
(.ret)) (.skip)))))
(rg [oO 18 (.bin .add 2 (.t 8) (.c (.int .i64 1))),
 oM 8 18])))))))
(.seq (rg [oO 4 (.assign (.c (.int .i64 (-1))))])
(.ret)))⟩

def f202 : DFn := ⟨39, [.tmp 2],
    .seq (rg [oO 2 (.assign (.c (.imm .exact [])))])
(.seq (rg [oM 8 0,
 oO 9 (.iaddr 9 (.t 8) (.c (.int .i64 0))),
 oL 10 6 9,
 oO 11 (.call 2 (.f 96) [(.t 10)]),
 oA 3 11])
(.seq (.seq (rg [oM 12 0,
 oO 13 (.slice 9 (.t 12) (some (.c (.int .i64 1))) none none),
 oN 14 9 13,
 oO 15 (.move (.c (.int .i64 0)))])
(.block 0 (.loop (.seq (rg [oO 16 (.bin .lss 2 (.t 15) (.t 14))])
(.seq (.cond (.t 16) (.skip) (.exit 0))
(.seq (.block 1 (.seq (rg [oI 17 9 13 15,
 oL 18 6 17,
 oA 5 18])
(.seq (rg [oM 19 5,
 oN 20 6 19,
 oO 21 (.move (.c (.int .i64 0)))])
(.block 2 (.loop (.seq (rg [oO 22 (.bin .lss 2 (.t 21) (.t 20))])
(.seq (.cond (.t 22) (.skip) (.exit 2))
(.seq (.block 3 (.seq (rg [oM 23 21,
 oI 24 6 19 21,
 oL 25 2 24,
 oA 6 23,
 oA 7 25])
(rg [oM 26 3,
 oM 27 6,
 oM 28 3,
 oM 29 6,
 oI 30 6 28 29,
 oL 31 2 30,
 oM 32 7,
 oO 33 (.bin .add 2 (.t 31) (.t 32)),
 oO 34 (.mini [(.t 33), (.c (.int .i64 4096))]),
 oI 35 6 26 27,
 oE (.store 2 (.t 35) (.t 34))])))
(rg [oO 36 (.bin .add 2 (.t 21) (.c (.int .i64 1))),
 oM 21 36])))))))))
(rg [oO 37 (.bin .add 2 (.t 15) (.c (.int .i64 1))),
 oM 15 37])))))))
(.seq (rg [oM 38 3,
 oA 2 38])
(.ret))))⟩

def f203 : DFn := ⟨59, [.tmp 4],
    .seq (rg [oO 2 (.box 0 (.t 0)),
 oO 4 (.assign (.c (.bool false)))])
(.seq (.seq (rg [oO 13 (.call 0 (.f 178) []),
 oO 14 (.un .not (.t 13))])
(.cond (.t 14) (.seq (rg [oO 4 (.assign (.c (.bool false)))])
(.ret)) (.skip)))
(.seq (.seq (rg [oL 15 0 2,
 oM 16 1,
 oO 17 (.call 0 (.f 179) [(.t 15), (.t 16)]),
 oO 18 (.un .not (.t 17))])
(.cond (.t 18) (.seq (rg [oO 4 (.assign (.c (.bool true)))])
(.ret)) (.skip)))
(.seq (rg [oL 20 0 2,
 oO 21 (.call 0 (.f 184) [(.t 20)]),
 oM 19 21,
 oO 22 (.extract (.t 19) 0),
 oO 23 (.extract (.t 19) 1),
 oA 5 22,
 oA 6 23])
(.seq (rg [oL 25 0 2,
 oO 26 (.call 0 (.f 204) [(.t 25)]),
 oM 24 26,
 oO 27 (.extract (.t 24) 0),
 oO 28 (.extract (.t 24) 1),
 oA 7 27,
 oA 8 28])
(.seq (rg [oL 30 0 2,
 oM 31 1,
 oO 32 (.call 0 (.f 180) [(.t 30), (.t 31)]),
 oM 29 32,
 oO 33 (.extract (.t 29) 0),
 oO 34 (.extract (.t 29) 1),
 oA 9 33,
 oA 10 34])
(.seq (rg [oL 36 0 2,
 oM 37 1,
 oO 38 (.call 0 (.f 205) [(.t 36), (.t 37)]),
 oM 35 38,
 oO 39 (.extract (.t 35) 0),
 oO 40 (.extract (.t 35) 1),
 oA 11 39,
 oA 12 40])
(.seq (rg [oM 41 5,
 oM 42 7,
 oO 43 (.call 0 (.f 20) [(.t 41), (.t 42)]),
 oM 44 43,
⟨(some 45), .move (.t 6), (some (44, true))⟩,
⟨(some 46), .move (.t 8), (some (44, true))⟩,
⟨(some 47), .bin .eql 3 (.t 45) (.t 46), (some (44, true))⟩,
 oO 48 (.pick (.t 44) (.t 47) (.c (.bool false))),
 oM 49 48,
⟨(some 50), .move (.t 9), (some (49, true))⟩,
⟨(some 51), .move (.t 11), (some (49, true))⟩,
⟨(some 52), .call 0 (.f 187) [(.t 50), (.t 51)], (some (49, true))⟩,
 oO 53 (.pick (.t 49) (.t 52) (.c (.bool false))),
 oM 54 53,
⟨(some 55), .move (.t 10), (some (54, true))⟩,
⟨(some 56), .move (.t 12), (some (54, true))⟩,
⟨(some 57), .bin .eql 3 (.t 55) (.t 56), (some (54, true))⟩,
 oO 58 (.pick (.t 54) (.t 57) (.c (.bool false))),
 oA 4 58])
(.ret))))))))⟩

def f204 : DFn := ⟨42, [.tmp 2, .tmp 3],
    .seq (rg [oO 1 (.box 0 (.t 0)),
 oO 2 (.assign (.c (.imm .exact []))),
 oO 3 (.assign (.c (.int .i64 0)))])
(.seq (rg [oL 9 0 1,
 oO 10 (.call 0 (.f 132) [(.t 9)]),
 oM 8 10,
 oO 11 (.extract (.t 8) 0),
 oO 12 (.extract (.t 8) 1),
 oO 4 (.alloc 29),
 oE (.store 29 (.t 4) (.t 11)),
 oA 5 12])
(.seq (.seq (rg [oM 13 5,
 oO 14 (.bin .neq 3 (.t 13) (.c (.int .i64 0)))])
(.cond (.t 14) (.seq (rg [oM 15 5,
 oO 2 (.assign (.c (.imm .exact []))),
 oA 3 15])
(.ret)) (.skip)))
(.seq (rg [oO 16 (.bslice false 6 0 []),
 oA 6 16])
(.seq (.seq (rg [oO 7 (.assign (.c (.int .i64 0)))])
(.block 0 (.loop (.seq (.seq (rg [oM 17 7,
 oF 18 29 4 0,
 oL 19 6 18,
 oN 20 6 19,
 oO 21 (.bin .lss 2 (.t 17) (.t 20))])
(.cond (.t 21) (.skip) (.exit 0)))
(.seq (.block 1 (.region true [] [
 oM 24 6,
 oF 25 0 1 2,
 oL 26 14 25,
 oM 27 7,
 oI 28 14 26 27,
 oF 29 15 28 3,
 oL 30 16 29,
 oF 31 29 4 0,
 oL 32 6 31,
 oM 33 7,
 oI 34 6 32 33,
 oL 35 2 34,
 oI 36 16 30 35,
 oF 37 17 36 0,
 oL 38 2 37,
 oO 39 (.bslice false 6 1 [(0, (.t 38))]),
 oO 40 (.append 0 6 6 (.t 24) (.t 39)),
 oA 6 40]))
(rg [oM 22 7,
 oO 23 (.bin .add 2 (.t 22) (.c (.int .i64 1))),
 oA 7 23]))))))
(.seq (rg [oM 41 6,
 oA 2 41,
 oO 3 (.assign (.c (.int .i64 0)))])
(.ret))))))⟩

def f205 : DFn := ⟨66, [.tmp 4, .tmp 5],
    .seq (rg [oO 2 (.box 0 (.t 0)),
 oO 4 (.assign (.c (.imm .exact []))),
 oO 5 (.assign (.c (.int .i64 0)))])
(.seq (rg [oL 12 0 2,
 oM 13 1,
 oO 14 (.call 0 (.f 206) [(.t 12), (.t 13)]),
 oA 6 14])
(.seq (.seq (rg [oM 15 6,
 oO 16 (.bin .neq 3 (.t 15) (.c (.int .i64 0)))])
(.cond (.t 16) (.seq (rg [oM 17 6,
 oO 4 (.assign (.c (.imm .exact []))),
 oA 5 17])
(.ret)) (.skip)))
(.seq (rg [oO 18 (.bslice false 36 0 []),
 oA 7 18])
(.seq (rg [oF 19 0 2 2,
 oL 20 14 19,
 oN 21 14 20,
 oO 22 (.mkslice false 6 (.t 21) (.t 21)),
 oA 8 22])
(.seq (.seq (rg [oO 9 (.assign (.c (.int .i64 0)))])
(.block 0 (.loop (.seq (.seq (rg [oM 23 9,
 oM 24 1,
 oN 25 38 24,
 oO 26 (.bin .leq 2 (.t 23) (.t 25))])
(.cond (.t 26) (.skip) (.exit 0)))
(.seq (.block 1 (.seq (rg [oL 29 0 2,
 oM 30 1,
 oM 31 9,
 oO 32 (.call 0 (.f 207) [(.t 29), (.t 30), (.t 31)]),
 oA 10 32])
(.seq (.seq (rg [oO 11 (.assign (.c (.int .i64 0)))])
(.block 2 (.loop (.seq (.seq (rg [oM 33 11,
 oM 34 10,
 oN 35 6 34,
 oO 36 (.bin .lss 2 (.t 33) (.t 35))])
(.cond (.t 36) (.skip) (.exit 2)))
(.seq (.block 3 (.seq (.region true [] [
 oM 39 10,
 oM 40 11,
 oI 41 6 39 40,
 oL 42 2 41,
 oM 43 8,
 oM 44 11,
 oI 45 6 43 44,
 oL 46 2 45,
 oO 47 (.bin .neq 2 (.t 42) (.t 46))])
(.cond (.t 47) (.region true [] [
 oM 48 7,
 oM 49 9,
 oO 50 (.bin .sub 2 (.t 49) (.c (.int .i64 1))),
 oM 51 11,
 oM 52 10,
 oM 53 11,
 oI 54 6 52 53,
 oL 55 2 54,
 oM 56 8,
 oM 57 11,
 oI 58 6 56 57,
 oL 59 2 58,
 oO 60 (.bin .sub 2 (.t 55) (.t 59)),
 oO 61 (.build 37 [(0, (.t 50)), (1, (.t 51)), (2, (.t 60))]),
 oO 62 (.bslice false 36 1 [(0, (.t 61))]),
 oO 63 (.append 0 36 36 (.t 48) (.t 62)),
 oA 7 63]) (.skip))))
(rg [oM 37 11,
 oO 38 (.bin .add 2 (.t 37) (.c (.int .i64 1))),
 oA 11 38]))))))
(rg [oM 64 10,
 oA 8 64]))))
(rg [oM 27 9,
 oO 28 (.bin .add 2 (.t 27) (.c (.int .i64 1))),
 oA 9 28]))))))
(.seq (rg [oM 65 7,
 oA 4 65,
 oO 5 (.assign (.c (.int .i64 0)))])
(.ret)))))))⟩

def f206 : DFn := ⟨28, [.tmp 4],
    .seq (rg [oO 2 (.box 0 (.t 0)),
 oO 4 (.assign (.c (.int .i64 0)))])
(.seq (rg [oL 7 0 2,
 oO 8 (.call 0 (.f 19) [(.t 7)]),
 oA 5 8])
(.seq (.seq (rg [oM 9 5,
 oO 10 (.bin .neq 3 (.t 9) (.c (.int .i64 0)))])
(.cond (.t 10) (.seq (rg [oM 11 5,
 oA 4 11])
(.ret)) (.skip)))
(.seq (.seq (rg [oM 12 1,
 oN 13 38 12,
 oO 14 (.bin .gtr 2 (.t 13) (.c (.int .i64 8)))])
(.cond (.t 14) (.seq (rg [oO 4 (.assign (.c (.int .i64 420)))])
(.ret)) (.skip)))
(.seq (.seq (rg [oO 6 (.assign (.c (.int .i64 0)))])
(.block 0 (.loop (.seq (.seq (rg [oM 15 6,
 oM 16 1,
 oN 17 38 16,
 oO 18 (.bin .lss 2 (.t 15) (.t 17))])
(.cond (.t 18) (.skip) (.exit 0)))
(.seq (.block 1 (.seq (.region true [] [
 oL 21 0 2,
 oM 22 1,
 oM 23 6,
 oI 24 38 22 23,
 oL 25 39 24,
 oO 26 (.call 0 (.f 208) [(.t 21), (.t 25)]),
 oO 27 (.un .not (.t 26))])
(.cond (.t 27) (.seq (rg [oO 4 (.assign (.c (.int .i64 420)))])
(.ret)) (.skip))))
(rg [oM 19 6,
 oO 20 (.bin .add 2 (.t 19) (.c (.int .i64 1))),
 oA 6 20]))))))
(.seq (rg [oO 4 (.assign (.c (.int .i64 0)))])
(.ret))))))⟩

def f207 : DFn := ⟨24, [.tmp 6],
    .seq (rg [oO 3 (.box 0 (.t 0)),
 oO 6 (.assign (.c (.imm .exact [])))])
(.seq (rg [oL 12 0 3,
 oM 13 1,
 oM 14 2,
 oO 15 (.call 0 (.f 209) [(.t 12), (.t 13), (.t 14)]),
 oM 11 15,
 oO 16 (.extract (.t 11) 0),
 oO 17 (.extract (.t 11) 1),
 oO 7 (.alloc 0),
 oE (.store 0 (.t 7) (.t 16)),
 oA 8 17])
(.seq (rg [oL 19 0 7,
 oO 20 (.call 0 (.f 204) [(.t 19)]),
 oM 18 20,
 oO 21 (.extract (.t 18) 0),
 oO 22 (.extract (.t 18) 1),
 oA 9 21,
 oA 10 22])
(.seq (rg [oM 23 9,
 oA 6 23])
(.ret))))⟩

def f208 : DFn := ⟨57, [.tmp 4],
    .seq (rg [oO 2 (.box 0 (.t 0)),
 oO 3 (.box 39 (.t 1)),
 oO 4 (.assign (.c (.bool false)))])
(.seq (.seq (rg [oF 7 39 3 0,
 oL 8 2 7,
 oO 9 (.call 0 (.f 210) [(.t 8), (.c (.int .i64 0)), (.c (.int .i64 1048576))]),
 oO 10 (.un .not (.t 9)),
 oM 11 10,
⟨(some 12), .faddr 39 (.t 3) 1, (some (11, false))⟩,
⟨(some 13), .load 9 (.t 12), (some (11, false))⟩,
⟨(some 14), .len 9 (.t 13), (some (11, false))⟩,
⟨(some 15), .faddr 0 (.t 2) 1, (some (11, false))⟩,
⟨(some 16), .load 9 (.t 15), (some (11, false))⟩,
⟨(some 17), .len 9 (.t 16), (some (11, false))⟩,
⟨(some 18), .bin .neq 2 (.t 14) (.t 17), (some (11, false))⟩,
 oO 19 (.pick (.t 11) (.c (.bool true)) (.t 18))])
(.cond (.t 19) (.seq (rg [oO 4 (.assign (.c (.bool false)))])
(.ret)) (.skip)))
(.seq (.seq (rg [oO 5 (.assign (.c (.int .i64 0)))])
(.block 0 (.loop (.seq (.seq (rg [oM 20 5,
 oF 21 39 3 1,
 oL 22 9 21,
 oN 23 9 22,
 oO 24 (.bin .lss 2 (.t 20) (.t 23))])
(.cond (.t 24) (.skip) (.exit 0)))
(.seq (.block 1 (.seq (.seq (.region true [] [
 oF 27 39 3 1,
 oL 28 9 27,
 oM 29 5,
 oI 30 9 28 29,
 oL 31 6 30,
 oN 32 6 31,
 oF 33 0 2 0,
 oL 34 10 33,
 oN 35 10 34,
 oO 36 (.bin .neq 2 (.t 32) (.t 35))])
(.cond (.t 36) (.seq (rg [oO 4 (.assign (.c (.bool false)))])
(.ret)) (.skip)))
(.seq (rg [oO 6 (.assign (.c (.int .i64 0)))])
(.block 2 (.loop (.seq (.seq (rg [oM 37 6,
 oF 38 39 3 1,
 oL 39 9 38,
 oM 40 5,
 oI 41 9 39 40,
 oL 42 6 41,
 oN 43 6 42,
 oO 44 (.bin .lss 2 (.t 37) (.t 43))])
(.cond (.t 44) (.skip) (.exit 2)))
(.seq (.block 3 (.seq (rg [oF 47 39 3 1,
 oL 48 9 47,
 oM 49 5,
 oI 50 9 48 49,
 oL 51 6 50,
 oM 52 6,
 oI 53 6 51 52,
 oL 54 2 53,
 oO 55 (.call 0 (.f 210) [(.t 54), (.c (.int .i64 0)), (.c (.int .i64 4096))]),
 oO 56 (.un .not (.t 55))])
(.cond (.t 56) (.seq (rg [oO 4 (.assign (.c (.bool false)))])
(.ret)) (.skip))))
(rg [oM 45 6,
 oO 46 (.bin .add 2 (.t 45) (.c (.int .i64 1))),
 oA 6 46]))))))))
(rg [oM 25 5,
 oO 26 (.bin .add 2 (.t 25) (.c (.int .i64 1))),
 oA 5 26]))))))
(.seq (rg [oO 4 (.assign (.c (.bool true)))])
(.ret))))⟩

def f209 : DFn := ⟨88, [.cell 6 0, .tmp 7],
    .seq (rg [oO 3 (.box 0 (.t 0)),
 oO 6 (.alloc 0),
 oO 7 (.assign (.c (.int .i64 0)))])
(.seq (rg [oL 15 0 3,
 oM 16 1,
 oO 17 (.call 0 (.f 206) [(.t 15), (.t 16)]),
 oA 8 17])
(.seq (.seq (rg [oM 18 8,
 oO 19 (.bin .neq 3 (.t 18) (.c (.int .i64 0)))])
(.cond (.t 19) (.seq (rg [oO 20 (.build 0 []),
 oM 21 8,
 oE (.store 0 (.t 6) (.t 20)),
 oA 7 21])
(.ret)) (.skip)))
(.seq (.seq (rg [oM 22 2,
 oM 23 1,
 oN 24 38 23,
 oO 25 (.call 0 (.f 210) [(.t 22), (.c (.int .i64 0)), (.t 24)]),
 oO 26 (.un .not (.t 25))])
(.cond (.t 26) (.seq (rg [oO 27 (.build 0 []),
 oE (.store 0 (.t 6) (.t 27)),
 oO 7 (.assign (.c (.int .i64 1)))])
(.ret)) (.skip)))
(.seq (rg [oF 28 0 3 0,
 oL 29 10 28,
 oF 30 0 3 2,
 oL 31 14 30,
 oO 32 (.build 0 [(0, (.t 29)), (2, (.t 31))]),
 oO 9 (.alloc 0),
 oE (.store 0 (.t 9) (.t 32))])
(.seq (.seq (rg [oO 10 (.assign (.c (.int .i64 0)))])
(.block 0 (.loop (.seq (.seq (rg [oM 33 10,
 oF 34 0 3 1,
 oL 35 9 34,
 oN 36 9 35,
 oO 37 (.bin .lss 2 (.t 33) (.t 36))])
(.cond (.t 37) (.skip) (.exit 0)))
(.seq (.block 1 (.seq (rg [oO 40 (.bslice false 6 0 []),
 oA 11 40])
(.seq (.seq (rg [oO 12 (.assign (.c (.int .i64 0)))])
(.block 2 (.loop (.seq (.seq (rg [oM 41 12,
 oF 42 0 3 0,
 oL 43 10 42,
 oN 44 10 43,
 oO 45 (.bin .lss 2 (.t 41) (.t 44))])
(.cond (.t 45) (.skip) (.exit 2)))
(.seq (.block 3 (.seq (rg [oF 48 0 3 1,
 oL 49 9 48,
 oM 50 10,
 oI 51 9 49 50,
 oL 52 6 51,
 oM 53 12,
 oI 54 6 52 53,
 oL 55 2 54,
 oA 13 55])
(.seq (.seq (rg [oM 56 2,
 oA 14 56])
(.block 4 (.loop (.seq (.seq (rg [oM 57 14,
 oM 58 1,
 oN 59 38 58,
 oO 60 (.bin .lss 2 (.t 57) (.t 59))])
(.cond (.t 60) (.skip) (.exit 4)))
(.seq (.block 5 (rg [oM 63 13,
 oM 64 1,
 oM 65 14,
 oI 66 38 64 65,
 oF 67 39 66 1,
 oL 68 9 67,
 oM 69 10,
 oI 70 9 68 69,
 oL 71 6 70,
 oM 72 12,
 oI 73 6 71 72,
 oL 74 2 73,
 oO 75 (.bin .add 2 (.t 63) (.t 74)),
 oA 13 75]))
(rg [oM 61 14,
 oO 62 (.bin .add 2 (.t 61) (.c (.int .i64 1))),
 oA 14 62]))))))
(rg [oM 76 11,
 oM 77 13,
 oO 78 (.mini [(.t 77), (.c (.int .i64 4096))]),
 oO 79 (.bslice false 6 1 [(0, (.t 78))]),
 oO 80 (.append 0 6 6 (.t 76) (.t 79)),
 oA 11 80]))))
(rg [oM 46 12,
 oO 47 (.bin .add 2 (.t 46) (.c (.int .i64 1))),
 oA 12 47]))))))
(rg [oF 81 0 9 1,
 oL 82 9 81,
 oM 83 11,
 oO 84 (.bslice false 9 1 [(0, (.t 83))]),
 oO 85 (.append 0 9 9 (.t 82) (.t 84)),
 oF 86 0 9 1,
 oE (.store 9 (.t 86) (.t 85))]))))
(rg [oM 38 10,
 oO 39 (.bin .add 2 (.t 38) (.c (.int .i64 1))),
 oA 10 39]))))))
(.seq (rg [oL 87 0 9,
 oE (.store 0 (.t 6) (.t 87)),
 oO 7 (.assign (.c (.int .i64 0)))])
(.ret)))))))⟩

def f210 : DFn := ⟨15, [.tmp 6],
    .seq (rg [oO 6 (.assign (.c (.bool false)))])
(.seq (rg [oM 7 0,
 oM 8 1,
 oO 9 (.bin .geq 2 (.t 7) (.t 8)),
 oM 10 9,
⟨(some 11), .move (.t 0), (some (10, true))⟩,
⟨(some 12), .move (.t 2), (some (10, true))⟩,
⟨(some 13), .bin .leq 2 (.t 11) (.t 12), (some (10, true))⟩,
 oO 14 (.pick (.t 10) (.t 13) (.c (.bool false))),
 oA 6 14])
(.ret))⟩

def tyTab : Nat → TI
  | 0 => ⟨.struct [(0, 10), (1, 9), (2, 14)], 3, 72, [(.imm .exact []), (.imm .exact []), (.imm .exact [])], false⟩
  | 1 => ⟨.slice 2, 1, 24, [(.imm .exact [])], false⟩
  | 2 => ⟨.int .i64, 1, 8, [(.int .i64 0)], false⟩
  | 3 => ⟨.int .i64, 1, 8, [(.int .i64 0)], false⟩
  | 4 => ⟨.slice 1, 1, 24, [(.imm .exact [])], false⟩
  | 6 => ⟨.slice 2, 1, 24, [(.imm .exact [])], false⟩
  | 7 => ⟨.bool, 1, 1, [(.bool false)], false⟩
  | 9 => ⟨.slice 6, 1, 24, [(.imm .exact [])], false⟩
  | 10 => ⟨.slice 20, 1, 24, [(.imm .exact [])], false⟩
  | 11 => ⟨.struct [(0, 2), (1, 2)], 2, 16, [(.int .i64 0), (.int .i64 0)], true⟩
  | 14 => ⟨.slice 15, 1, 24, [(.imm .exact [])], false⟩
  | 15 => ⟨.struct [(0, 2), (1, 2), (2, 6), (3, 16)], 4, 64, [(.int .i64 0), (.int .i64 0), (.imm .exact []), (.imm .exact [])], false⟩
  | 16 => ⟨.slice 17, 1, 24, [(.imm .exact [])], false⟩
  | 17 => ⟨.struct [(0, 2), (1, 2), (2, 2), (3, 18)], 4, 48, [(.int .i64 0), (.int .i64 0), (.int .i64 0), (.imm .exact [])], false⟩
  | 18 => ⟨.slice 19, 1, 24, [(.imm .exact [])], false⟩
  | 19 => ⟨.struct [(0, 20), (3, 2)], 4, 32, [(.bool false), (.int .i64 0), (.int .i64 0), (.int .i64 0)], true⟩
  | 20 => ⟨.struct [(0, 7), (1, 2), (2, 2)], 3, 24, [(.bool false), (.int .i64 0), (.int .i64 0)], true⟩
  | 21 => ⟨.map 20 7, 1, 8, [(.map none)], false⟩
  | 22 => ⟨.arr 4 2, 4, 32, [(.int .i64 0), (.int .i64 0), (.int .i64 0), (.int .i64 0)], true⟩
  | 26 => ⟨.map 20 2, 1, 8, [(.map none)], false⟩
  | 28 => ⟨.struct [(0, 4), (1, 6), (2, 6), (3, 31)], 4, 96, [(.imm .exact []), (.imm .exact []), (.imm .exact []), (.imm .exact [])], false⟩
  | 29 => ⟨.struct [(0, 6), (1, 6), (2, 31)], 3, 72, [(.imm .exact []), (.imm .exact []), (.imm .exact [])], false⟩
  | 31 => ⟨.slice 32, 1, 24, [(.imm .exact [])], false⟩
  | 32 => ⟨.struct [(0, 1), (1, 2), (2, 9)], 3, 56, [(.imm .exact []), (.int .i64 0), (.imm .exact [])], false⟩
  | 33 => ⟨.func, 1, 8, [.nilfn], false⟩
  | 35 => ⟨.slice 1, 1, 24, [(.imm .exact [])], false⟩
  | 36 => ⟨.slice 37, 1, 24, [(.imm .exact [])], false⟩
  | 37 => ⟨.struct [(0, 2), (1, 2), (2, 2)], 3, 24, [(.int .i64 0), (.int .i64 0), (.int .i64 0)], true⟩
  | 38 => ⟨.slice 39, 1, 24, [(.imm .exact [])], false⟩
  | 39 => ⟨.struct [(0, 2), (1, 9)], 2, 32, [(.int .i64 0), (.imm .exact [])], false⟩
  | 40 => ⟨.func, 1, 8, [.nilfn], false⟩
  | _ => ⟨.other, 0, 0, [], false⟩

def fnTab : Nat → Option DFn
  | 2 => some f2
  | 3 => some f3
  | 4 => some f4
  | 7 => some f7
  | 8 => some f8
  | 14 => some f14
  | 15 => some f15
  | 18 => some f18
  | 19 => some f19
  | 20 => some f20
  | 22 => some f22
  | 23 => some f23
  | 61 => some f61
  | 62 => some f62
  | 63 => some f63
  | 64 => some f64
  | 65 => some f65
  | 66 => some f66
  | 67 => some f67
  | 68 => some f68
  | 69 => some f69
  | 70 => some f70
  | 71 => some f71
  | 72 => some f72
  | 73 => some f73
  | 74 => some f74
  | 75 => some f75
  | 76 => some f76
  | 78 => some f78
  | 79 => some f79
  | 80 => some f80
  | 81 => some f81
  | 82 => some f82
  | 83 => some f83
  | 84 => some f84
  | 85 => some f85
  | 87 => some f87
  | 94 => some f94
  | 96 => some f96
  | 102 => some f102
  | 103 => some f103
  | 104 => some f104
  | 105 => some f105
  | 106 => some f106
  | 107 => some f107
  | 108 => some f108
  | 109 => some f109
  | 110 => some f110
  | 111 => some f111
  | 113 => some f113
  | 122 => some f122
  | 123 => some f123
  | 129 => some f129
  | 131 => some f131
  | 132 => some f132
  | 133 => some f133
  | 134 => some f134
  | 139 => some f139
  | 140 => some f140
  | 142 => some f142
  | 145 => some f145
  | 150 => some f150
  | 151 => some f151
  | 152 => some f152
  | 153 => some f153
  | 154 => some f154
  | 155 => some f155
  | 157 => some f157
  | 158 => some f158
  | 159 => some f159
  | 160 => some f160
  | 161 => some f161
  | 162 => some f162
  | 165 => some f165
  | 166 => some f166
  | 167 => some f167
  | 168 => some f168
  | 169 => some f169
  | 170 => some f170
  | 171 => some f171
  | 172 => some f172
  | 173 => some f173
  | 174 => some f174
  | 175 => some f175
  | 176 => some f176
  | 178 => some f178
  | 179 => some f179
  | 180 => some f180
  | 181 => some f181
  | 183 => some f183
  | 184 => some f184
  | 187 => some f187
  | 188 => some f188
  | 190 => some f190
  | 191 => some f191
  | 192 => some f192
  | 193 => some f193
  | 194 => some f194
  | 195 => some f195
  | 196 => some f196
  | 197 => some f197
  | 198 => some f198
  | 199 => some f199
  | 200 => some f200
  | 201 => some f201
  | 202 => some f202
  | 203 => some f203
  | 204 => some f204
  | 205 => some f205
  | 206 => some f206
  | 207 => some f207
  | 208 => some f208
  | 209 => some f209
  | 210 => some f210
  | _ => none

def keepTab : Nat → Bool
  | 166 => true
  | 168 => true
  | 175 => true
  | _ => false

def E : Env := ⟨tyTab, fnTab, keepTab⟩

end Dv
