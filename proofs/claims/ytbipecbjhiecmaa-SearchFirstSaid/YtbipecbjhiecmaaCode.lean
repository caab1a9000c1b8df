/- Texts that a proof of this claim uses, joined: Dv.Code. -/
import Derived.Test.YtbipecbjhiecmaaDva
set_option linter.all false
/- The code of the functions in the short form, as printed by program from the translation; YtLink.lean ties each to the given program. -/
namespace Dv
open Go (IntKind BinOp UnOp)

abbrev oO (n : Nat) (x : DOp) : DOpr := ⟨some n, x, none⟩
abbrev oE (x : DOp) : DOpr := ⟨none, x, none⟩
abbrev oM (n k : Nat) : DOpr := ⟨some n, .move (.t k), none⟩
def f2 : DFn := ⟨77, [.tmp 2],
    .seq (.region false [] [
 oO 1 (.box 0 (.t 0)),
 oO 2 (.assign (.c (.bool false)))])
(.seq (.seq (.region false [] [
 oO 7 (.faddr 0 (.t 1) 0),
 oO 8 (.load 10 (.t 7)),
 oO 9 (.len 10 (.t 8)),
 oO 10 (.bin .gtr 2 (.t 9) (.c (.int .i64 12))),
 oM 11 10,
⟨(some 12), .faddr 0 (.t 1) 1, (some (11, false))⟩,
⟨(some 13), .load 9 (.t 12), (some (11, false))⟩,
⟨(some 14), .len 9 (.t 13), (some (11, false))⟩,
⟨(some 15), .bin .gtr 2 (.t 14) (.c (.int .i64 4)), (some (11, false))⟩,
 oO 16 (.pick (.t 11) (.c (.bool true)) (.t 15)),
 oM 17 16,
⟨(some 18), .faddr 0 (.t 1) 2, (some (17, false))⟩,
⟨(some 19), .load 14 (.t 18), (some (17, false))⟩,
⟨(some 20), .len 14 (.t 19), (some (17, false))⟩,
⟨(some 21), .bin .gtr 2 (.t 20) (.c (.int .i64 6)), (some (17, false))⟩,
 oO 22 (.pick (.t 17) (.c (.bool true)) (.t 21))])
(.cond (.t 22) (.seq (.region false [] [
 oO 2 (.assign (.c (.bool false)))])
(.ret)) (.skip)))
(.seq (.seq (.region false [] [
 oO 3 (.assign (.c (.int .i64 0)))])
(.block 0 (.loop (.seq (.seq (.region false [] [
 oM 23 3,
 oO 24 (.faddr 0 (.t 1) 1),
 oO 25 (.load 9 (.t 24)),
 oO 26 (.len 9 (.t 25)),
 oO 27 (.bin .lss 2 (.t 23) (.t 26))])
(.cond (.t 27) (.skip) (.exit 0)))
(.seq (.block 1 (.seq (.region false [] [
 oO 30 (.faddr 0 (.t 1) 1),
 oO 31 (.load 9 (.t 30)),
 oM 32 3,
 oO 33 (.iaddr 9 (.t 31) (.t 32)),
 oO 34 (.load 6 (.t 33)),
 oO 35 (.len 6 (.t 34)),
 oO 36 (.bin .gtr 2 (.t 35) (.c (.int .i64 16)))])
(.cond (.t 36) (.seq (.region false [] [
 oO 2 (.assign (.c (.bool false)))])
(.ret)) (.skip))))
(.region false [] [
 oM 28 3,
 oO 29 (.bin .add 2 (.t 28) (.c (.int .i64 1))),
 oO 3 (.assign (.t 29))]))))))
(.seq (.seq (.region false [] [
 oO 4 (.assign (.c (.int .i64 0)))])
(.block 2 (.loop (.seq (.seq (.region false [] [
 oM 37 4,
 oO 38 (.faddr 0 (.t 1) 2),
 oO 39 (.load 14 (.t 38)),
 oO 40 (.len 14 (.t 39)),
 oO 41 (.bin .lss 2 (.t 37) (.t 40))])
(.cond (.t 41) (.skip) (.exit 2)))
(.seq (.block 3 (.seq (.region false [] [
 oO 44 (.faddr 0 (.t 1) 2),
 oO 45 (.load 14 (.t 44)),
 oM 46 4,
 oO 47 (.iaddr 14 (.t 45) (.t 46)),
 oO 48 (.load 15 (.t 47)),
 oO 5 (.alloc 15),
 oE (.store 15 (.t 5) (.t 48))])
(.seq (.seq (.region false [] [
 oO 49 (.faddr 15 (.t 5) 2),
 oO 50 (.load 6 (.t 49)),
 oO 51 (.len 6 (.t 50)),
 oO 52 (.bin .gtr 2 (.t 51) (.c (.int .i64 8))),
 oM 53 52,
⟨(some 54), .faddr 15 (.t 5) 3, (some (53, false))⟩,
⟨(some 55), .load 16 (.t 54), (some (53, false))⟩,
⟨(some 56), .len 16 (.t 55), (some (53, false))⟩,
⟨(some 57), .bin .gtr 2 (.t 56) (.c (.int .i64 8)), (some (53, false))⟩,
 oO 58 (.pick (.t 53) (.c (.bool true)) (.t 57))])
(.cond (.t 58) (.seq (.region false [] [
 oO 2 (.assign (.c (.bool false)))])
(.ret)) (.skip)))
(.seq (.region false [] [
 oO 6 (.assign (.c (.int .i64 0)))])
(.block 4 (.loop (.seq (.seq (.region false [] [
 oM 59 6,
 oO 60 (.faddr 15 (.t 5) 3),
 oO 61 (.load 16 (.t 60)),
 oO 62 (.len 16 (.t 61)),
 oO 63 (.bin .lss 2 (.t 59) (.t 62))])
(.cond (.t 63) (.skip) (.exit 4)))
(.seq (.block 5 (.seq (.region false [] [
 oO 66 (.faddr 15 (.t 5) 3),
 oO 67 (.load 16 (.t 66)),
 oM 68 6,
 oO 69 (.iaddr 16 (.t 67) (.t 68)),
 oO 70 (.faddr 17 (.t 69) 3),
 oO 71 (.load 18 (.t 70)),
 oO 72 (.len 18 (.t 71)),
 oO 73 (.bin .gtr 2 (.t 72) (.c (.int .i64 12)))])
(.cond (.t 73) (.seq (.region false [] [
 oO 2 (.assign (.c (.bool false)))])
(.ret)) (.skip))))
(.region false [] [
 oM 64 6,
 oO 65 (.bin .add 2 (.t 64) (.c (.int .i64 1))),
 oO 6 (.assign (.t 65))])))))))))
(.region false [] [
 oM 42 4,
 oO 43 (.bin .add 2 (.t 42) (.c (.int .i64 1))),
 oO 4 (.assign (.t 43))]))))))
(.seq (.region false [] [
 oO 74 (.load 0 (.t 1)),
 oO 75 (.call 0 (.f 61) [(.t 74), (.c (.int .i64 2000))]),
 oO 76 (.bin .lss 2 (.t 75) (.c (.int .i64 2000))),
 oO 2 (.assign (.t 76))])
(.ret)))))⟩

def f3 : DFn := ⟨89, [.cell 4 6, .tmp 5],
    .seq (.region false [] [
 oO 2 (.box 0 (.t 0)),
 oO 4 (.alloc 6),
 oO 5 (.assign (.c (.int .i64 0)))])
(.seq (.seq (.region false [] [
 oO 14 (.load 0 (.t 2)),
 oM 15 1,
 oO 16 (.call 0 (.f 62) [(.t 14), (.t 15)]),
 oO 5 (.assign (.t 16))])
(.seq (.region false [] [
 oM 17 5,
 oO 18 (.bin .neq 3 (.t 17) (.c (.int .i64 0)))])
(.cond (.t 18) (.seq (.region false [] [
 oM 19 5,
 oE (.store 6 (.t 4) (.c (.imm .exact []))),
 oO 5 (.assign (.t 19))])
(.ret)) (.skip))))
(.seq (.region false [] [
 oO 20 (.mkslice true 6 (.c (.int .i64 4)) (.c (.int .i64 4))),
 oE (.store 6 (.t 4) (.t 20))])
(.seq (.seq (.region false [] [
 oO 21 (.faddr 0 (.t 2) 1),
 oO 22 (.load 9 (.t 21)),
 oO 23 (.len 9 (.t 22)),
 oO 24 (.move (.c (.int .i64 0)))])
(.block 0 (.loop (.seq (.region false [] [
 oO 25 (.bin .lss 2 (.t 24) (.t 23))])
(.seq (.cond (.t 25) (.skip) (.exit 0))
(.seq (.block 1 (.seq (.region false [] [
 oM 26 24,
 oO 27 (.iaddr 9 (.t 22) (.t 24)),
 oO 28 (.load 6 (.t 27)),
 oO 6 (.assign (.t 26)),
 oO 7 (.assign (.t 28))])
(.seq (.region false [] [
 oO 30 (.load 0 (.t 2)),
 oM 31 1,
 oM 32 6,
 oO 33 (.call 0 (.f 14) [(.t 30), (.t 31), (.t 32)]),
 oM 29 33,
 oO 34 (.extract (.t 29) 0),
 oO 35 (.extract (.t 29) 1),
 oO 8 (.assign (.t 34)),
 oO 9 (.assign (.t 35))])
(.seq (.region false [] [
 oM 36 8,
 oO 37 (.len 6 (.t 36)),
 oO 38 (.move (.c (.int .i64 0)))])
(.block 2 (.loop (.seq (.region false [] [
 oO 39 (.bin .lss 2 (.t 38) (.t 37))])
(.seq (.cond (.t 39) (.skip) (.exit 2))
(.seq (.block 3 (.seq (.region false [] [
 oM 40 38,
 oO 41 (.iaddr 6 (.t 36) (.t 38)),
 oO 42 (.load 2 (.t 41)),
 oO 10 (.assign (.t 40)),
 oO 11 (.assign (.t 42))])
(.region true [] [
 oO 43 (.load 6 (.t 4)),
 oO 44 (.iaddr 6 (.t 43) (.c (.int .i64 0))),
 oO 45 (.load 2 (.t 44)),
 oM 46 11,
 oM 47 7,
 oM 48 10,
 oO 49 (.iaddr 6 (.t 47) (.t 48)),
 oO 50 (.load 2 (.t 49)),
 oO 51 (.bin .sub 2 (.t 46) (.t 50)),
 oO 52 (.maxi [(.t 51), (.c (.int .i64 0))]),
 oO 53 (.bin .add 2 (.t 45) (.t 52)),
 oO 54 (.iaddr 6 (.t 43) (.c (.int .i64 0))),
 oE (.store 2 (.t 54) (.t 53))])))
(.region false [] [
 oO 55 (.bin .add 2 (.t 38) (.c (.int .i64 1))),
 oM 38 55]))))))))))
(.region false [] [
 oO 56 (.bin .add 2 (.t 24) (.c (.int .i64 1))),
 oM 24 56])))))))
(.seq (.seq (.region false [] [
 oO 57 (.load 0 (.t 2)),
 oM 58 1,
 oO 59 (.call 0 (.f 63) [(.t 57), (.t 58)])])
(.block 4 (.rfunc (.t 59) [60, 61] (.seq (.region false [] [
 oO 12 (.assign (.t 60))])
(.region false [] [
 oO 13 (.alloc 17),
 oE (.store 17 (.t 13) (.t 61))])) (.block 5 (.seq (.region true [] [
 oO 62 (.load 6 (.t 4)),
 oO 63 (.load 6 (.t 4)),
 oO 64 (.iaddr 6 (.t 63) (.c (.int .i64 1))),
 oO 65 (.load 2 (.t 64)),
 oO 66 (.faddr 17 (.t 13) 0),
 oO 67 (.load 2 (.t 66)),
 oO 68 (.maxi [(.t 65), (.t 67)]),
 oO 69 (.iaddr 6 (.t 62) (.c (.int .i64 1))),
 oE (.store 2 (.t 69) (.t 68))])
(.seq (.region true [] [
 oO 70 (.load 6 (.t 4)),
 oO 71 (.iaddr 6 (.t 70) (.c (.int .i64 2))),
 oO 72 (.load 2 (.t 71)),
 oO 73 (.faddr 17 (.t 13) 1),
 oO 74 (.load 2 (.t 73)),
 oM 75 12,
 oO 76 (.bin .mul 2 (.t 74) (.t 75)),
 oO 77 (.bin .add 2 (.t 72) (.t 76)),
 oO 78 (.iaddr 6 (.t 70) (.c (.int .i64 2))),
 oE (.store 2 (.t 78) (.t 77))])
(.region true [] [
 oO 79 (.load 6 (.t 4)),
 oO 80 (.iaddr 6 (.t 79) (.c (.int .i64 3))),
 oO 81 (.load 2 (.t 80)),
 oO 82 (.faddr 17 (.t 13) 2),
 oO 83 (.load 2 (.t 82)),
 oM 84 12,
 oO 85 (.bin .mul 2 (.t 83) (.t 84)),
 oO 86 (.bin .add 2 (.t 81) (.t 85)),
 oO 87 (.iaddr 6 (.t 79) (.c (.int .i64 3))),
 oE (.store 2 (.t 87) (.t 86))])))))))
(.seq (.region false [] [
 oO 88 (.load 6 (.t 4)),
 oE (.store 6 (.t 4) (.t 88)),
 oO 5 (.assign (.c (.int .i64 0)))])
(.ret))))))⟩

def f4 : DFn := ⟨136, [.tmp 4, .tmp 5],
    .seq (.region false [] [
 oO 2 (.box 0 (.t 0)),
 oO 4 (.assign (.c (.imm .exact []))),
 oO 5 (.assign (.c (.int .i64 0)))])
(.seq (.region false [] [
 oO 15 (.load 0 (.t 2)),
 oM 16 1,
 oO 17 (.call 0 (.f 64) [(.t 15), (.t 16)]),
 oO 6 (.assign (.t 17))])
(.seq (.seq (.region false [] [
 oM 18 6,
 oO 19 (.bin .neq 3 (.t 18) (.c (.int .i64 0)))])
(.cond (.t 19) (.seq (.region false [] [
 oM 20 6,
 oO 4 (.assign (.c (.imm .exact []))),
 oO 5 (.assign (.t 20))])
(.ret)) (.skip)))
(.seq (.region false [] [
 oO 21 (.bslice true 6 4 [(0, (.c (.int .i64 0))), (1, (.c (.int .i64 0))), (2, (.c (.int .i64 0))), (3, (.c (.int .i64 0)))]),
 oO 7 (.assign (.t 21))])
(.seq (.seq (.region false [] [
 oO 8 (.assign (.c (.int .i64 0)))])
(.block 0 (.loop (.seq (.seq (.region false [] [
 oM 22 8,
 oO 23 (.faddr 0 (.t 2) 1),
 oO 24 (.load 9 (.t 23)),
 oO 25 (.len 9 (.t 24)),
 oO 26 (.bin .lss 2 (.t 22) (.t 25))])
(.cond (.t 26) (.skip) (.exit 0)))
(.seq (.block 1 (.seq (.region false [] [
 oO 30 (.load 0 (.t 2)),
 oM 31 1,
 oM 32 8,
 oO 33 (.call 0 (.f 18) [(.t 30), (.t 31), (.t 32)]),
 oM 29 33,
 oO 34 (.extract (.t 29) 0),
 oO 35 (.extract (.t 29) 1),
 oO 9 (.assign (.t 34)),
 oO 10 (.assign (.t 35))])
(.seq (.region false [] [
 oO 11 (.assign (.c (.int .i64 0)))])
(.block 2 (.loop (.seq (.seq (.region false [] [
 oM 36 11,
 oM 37 9,
 oO 38 (.len 6 (.t 37)),
 oO 39 (.bin .lss 2 (.t 36) (.t 38))])
(.cond (.t 39) (.skip) (.exit 2)))
(.seq (.block 3 (.seq (.region true [] [
 oM 42 9,
 oM 43 11,
 oO 44 (.iaddr 6 (.t 42) (.t 43)),
 oO 45 (.load 2 (.t 44)),
 oO 46 (.faddr 0 (.t 2) 1),
 oO 47 (.load 9 (.t 46)),
 oM 48 8,
 oO 49 (.iaddr 9 (.t 47) (.t 48)),
 oO 50 (.load 6 (.t 49)),
 oM 51 11,
 oO 52 (.iaddr 6 (.t 50) (.t 51)),
 oO 53 (.load 2 (.t 52)),
 oO 54 (.bin .gtr 2 (.t 45) (.t 53))])
(.cond (.t 54) (.region true [] [
 oM 55 7,
 oM 56 7,
 oO 57 (.iaddr 6 (.t 56) (.c (.int .i64 0))),
 oO 58 (.load 2 (.t 57)),
 oM 59 9,
 oM 60 11,
 oO 61 (.iaddr 6 (.t 59) (.t 60)),
 oO 62 (.load 2 (.t 61)),
 oO 63 (.bin .add 2 (.t 58) (.t 62)),
 oO 64 (.faddr 0 (.t 2) 1),
 oO 65 (.load 9 (.t 64)),
 oM 66 8,
 oO 67 (.iaddr 9 (.t 65) (.t 66)),
 oO 68 (.load 6 (.t 67)),
 oM 69 11,
 oO 70 (.iaddr 6 (.t 68) (.t 69)),
 oO 71 (.load 2 (.t 70)),
 oO 72 (.bin .sub 2 (.t 63) (.t 71)),
 oO 73 (.iaddr 6 (.t 55) (.c (.int .i64 0))),
 oE (.store 2 (.t 73) (.t 72))]) (.skip))))
(.region false [] [
 oM 40 11,
 oO 41 (.bin .add 2 (.t 40) (.c (.int .i64 1))),
 oO 11 (.assign (.t 41))]))))))))
(.region false [] [
 oM 27 8,
 oO 28 (.bin .add 2 (.t 27) (.c (.int .i64 1))),
 oO 8 (.assign (.t 28))]))))))
(.seq (.seq (.region false [] [
 oO 12 (.assign (.c (.int .i64 0)))])
(.block 4 (.loop (.seq (.seq (.region false [] [
 oM 74 12,
 oO 75 (.faddr 0 (.t 2) 2),
 oO 76 (.load 14 (.t 75)),
 oO 77 (.len 14 (.t 76)),
 oO 78 (.bin .lss 2 (.t 74) (.t 77))])
(.cond (.t 78) (.skip) (.exit 4)))
(.seq (.block 5 (.seq (.region false [] [
 oO 81 (.faddr 0 (.t 2) 2),
 oO 82 (.load 14 (.t 81)),
 oM 83 12,
 oO 84 (.iaddr 14 (.t 82) (.t 83)),
 oO 85 (.load 15 (.t 84)),
 oO 13 (.alloc 15),
 oE (.store 15 (.t 13) (.t 85))])
(.seq (.region false [] [
 oO 86 (.faddr 15 (.t 13) 3),
 oO 87 (.load 16 (.t 86)),
 oO 88 (.call 0 (.f 65) [(.t 87)]),
 oO 14 (.alloc 17),
 oE (.store 17 (.t 14) (.t 88))])
(.seq (.seq (.region false [] [
 oM 89 12,
 oM 90 1,
 oO 91 (.len 1 (.t 90)),
 oO 92 (.bin .lss 2 (.t 89) (.t 91))])
(.cond (.t 92) (.region true [] [
 oO 93 (.faddr 15 (.t 13) 3),
 oO 94 (.load 16 (.t 93)),
 oM 95 1,
 oM 96 12,
 oO 97 (.iaddr 1 (.t 95) (.t 96)),
 oO 98 (.load 2 (.t 97)),
 oO 99 (.iaddr 16 (.t 94) (.t 98)),
 oO 100 (.load 17 (.t 99)),
 oE (.store 17 (.t 14) (.t 100))]) (.skip)))
(.seq (.seq (.region true [] [
 oO 101 (.faddr 17 (.t 14) 0),
 oO 102 (.load 2 (.t 101)),
 oM 103 7,
 oO 104 (.iaddr 6 (.t 103) (.c (.int .i64 1))),
 oO 105 (.load 2 (.t 104)),
 oO 106 (.bin .gtr 2 (.t 102) (.t 105))])
(.cond (.t 106) (.region false [] [
 oM 107 7,
 oO 108 (.faddr 17 (.t 14) 0),
 oO 109 (.load 2 (.t 108)),
 oO 110 (.iaddr 6 (.t 107) (.c (.int .i64 1))),
 oE (.store 2 (.t 110) (.t 109))]) (.skip)))
(.seq (.region true [] [
 oM 111 7,
 oM 112 7,
 oO 113 (.iaddr 6 (.t 112) (.c (.int .i64 2))),
 oO 114 (.load 2 (.t 113)),
 oO 115 (.faddr 17 (.t 14) 1),
 oO 116 (.load 2 (.t 115)),
 oO 117 (.faddr 15 (.t 13) 2),
 oO 118 (.load 6 (.t 117)),
 oO 119 (.len 6 (.t 118)),
 oO 120 (.bin .mul 2 (.t 116) (.t 119)),
 oO 121 (.bin .add 2 (.t 114) (.t 120)),
 oO 122 (.iaddr 6 (.t 111) (.c (.int .i64 2))),
 oE (.store 2 (.t 122) (.t 121))])
(.region true [] [
 oM 123 7,
 oM 124 7,
 oO 125 (.iaddr 6 (.t 124) (.c (.int .i64 3))),
 oO 126 (.load 2 (.t 125)),
 oO 127 (.faddr 17 (.t 14) 2),
 oO 128 (.load 2 (.t 127)),
 oO 129 (.faddr 15 (.t 13) 2),
 oO 130 (.load 6 (.t 129)),
 oO 131 (.len 6 (.t 130)),
 oO 132 (.bin .mul 2 (.t 128) (.t 131)),
 oO 133 (.bin .add 2 (.t 126) (.t 132)),
 oO 134 (.iaddr 6 (.t 123) (.c (.int .i64 3))),
 oE (.store 2 (.t 134) (.t 133))])))))))
(.region false [] [
 oM 79 12,
 oO 80 (.bin .add 2 (.t 79) (.c (.int .i64 1))),
 oO 12 (.assign (.t 80))]))))))
(.seq (.region false [] [
 oM 135 7,
 oO 4 (.assign (.t 135)),
 oO 5 (.assign (.c (.int .i64 0)))])
(.ret)))))))⟩

def f5 : DFn := ⟨15, [.tmp 4],
    .seq (.region false [] [
 oO 4 (.assign (.c (.bool false)))])
(.seq (.region false [] [
 oM 5 0,
 oO 6 (.len 6 (.t 5)),
 oM 7 1,
 oO 8 (.len 6 (.t 7)),
 oO 9 (.bin .eql 2 (.t 6) (.t 8)),
 oM 10 9,
⟨(some 11), .move (.t 0), (some (10, true))⟩,
⟨(some 12), .move (.t 1), (some (10, true))⟩,
⟨(some 13), .call 0 (.f 57) [(.t 11), (.t 12)], (some (10, true))⟩,
 oO 14 (.pick (.t 10) (.t 13) (.c (.bool false))),
 oO 4 (.assign (.t 14))])
(.ret))⟩

def f7 : DFn := ⟨43, [.tmp 4, .tmp 5],
    .seq (.region false [] [
 oO 2 (.box 0 (.t 0)),
 oO 4 (.assign (.c (.imm .exact []))),
 oO 5 (.assign (.c (.int .i64 0)))])
(.seq (.seq (.region false [] [
 oO 8 (.load 0 (.t 2)),
 oM 9 1,
 oO 10 (.call 0 (.f 62) [(.t 8), (.t 9)]),
 oO 5 (.assign (.t 10))])
(.seq (.region false [] [
 oM 11 5,
 oO 12 (.bin .neq 3 (.t 11) (.c (.int .i64 0)))])
(.cond (.t 12) (.seq (.region false [] [
 oM 13 5,
 oO 4 (.assign (.c (.imm .exact []))),
 oO 5 (.assign (.t 13))])
(.ret)) (.skip))))
(.seq (.region false [] [
 oM 14 1,
 oO 15 (.len 1 (.t 14)),
 oO 6 (.assign (.t 15))])
(.seq (.seq (.region false [] [
 oM 16 6,
 oO 17 (.faddr 0 (.t 2) 2),
 oO 18 (.load 14 (.t 17)),
 oO 19 (.len 14 (.t 18)),
 oO 20 (.bin .eql 2 (.t 16) (.t 19))])
(.cond (.t 20) (.seq (.region false [] [
 oO 4 (.assign (.c (.imm .exact []))),
 oO 5 (.assign (.c (.int .i64 280)))])
(.ret)) (.skip)))
(.seq (.seq (.region false [] [
 oO 21 (.faddr 0 (.t 2) 2),
 oO 22 (.load 14 (.t 21)),
 oM 23 6,
 oO 24 (.iaddr 14 (.t 22) (.t 23)),
 oO 25 (.faddr 15 (.t 24) 3),
 oO 26 (.load 16 (.t 25)),
 oO 27 (.len 16 (.t 26)),
 oO 28 (.move (.c (.int .i64 0)))])
(.block 0 (.loop (.seq (.region false [] [
 oO 29 (.bin .lss 2 (.t 28) (.t 27))])
(.seq (.cond (.t 29) (.skip) (.exit 0))
(.seq (.block 1 (.seq (.region false [] [
 oM 30 28,
 oO 7 (.assign (.t 30))])
(.region false [] [
 oM 31 4,
 oM 32 1,
 oM 33 6,
 oM 34 6,
 oO 35 (.slice 1 (.t 32) none (some (.t 33)) (some (.t 34))),
 oM 36 7,
 oO 37 (.bslice false 1 1 [(0, (.t 36))]),
 oO 38 (.append 0 1 1 (.t 35) (.t 37)),
 oO 39 (.bslice false 4 1 [(0, (.t 38))]),
 oO 40 (.append 0 4 4 (.t 31) (.t 39)),
 oO 4 (.assign (.t 40))])))
(.region false [] [
 oO 41 (.bin .add 2 (.t 28) (.c (.int .i64 1))),
 oM 28 41])))))))
(.seq (.region false [] [
 oM 42 4,
 oO 4 (.assign (.t 42)),
 oO 5 (.assign (.c (.int .i64 0)))])
(.ret))))))⟩

def f8 : DFn := ⟨43, [.tmp 4, .tmp 5],
    .seq (.region false [] [
 oO 2 (.box 0 (.t 0)),
 oO 4 (.assign (.c (.imm .exact []))),
 oO 5 (.assign (.c (.int .i64 0)))])
(.seq (.region false [] [
 oO 9 (.load 0 (.t 2)),
 oM 10 1,
 oO 11 (.call 0 (.f 64) [(.t 9), (.t 10)]),
 oO 6 (.assign (.t 11))])
(.seq (.seq (.region false [] [
 oM 12 6,
 oO 13 (.bin .neq 3 (.t 12) (.c (.int .i64 0)))])
(.cond (.t 13) (.seq (.region false [] [
 oM 14 6,
 oO 4 (.assign (.c (.imm .exact []))),
 oO 5 (.assign (.t 14))])
(.ret)) (.skip)))
(.seq (.seq (.region false [] [
 oM 15 1,
 oO 16 (.len 1 (.t 15)),
 oO 17 (.faddr 0 (.t 2) 2),
 oO 18 (.load 14 (.t 17)),
 oO 19 (.len 14 (.t 18)),
 oO 20 (.bin .eql 2 (.t 16) (.t 19))])
(.cond (.t 20) (.seq (.region false [] [
 oO 4 (.assign (.c (.imm .exact []))),
 oO 5 (.assign (.c (.int .i64 280)))])
(.ret)) (.skip)))
(.seq (.region false [] [
 oO 7 (.assign (.c (.imm .exact [])))])
(.seq (.seq (.region false [] [
 oO 8 (.assign (.c (.int .i64 0)))])
(.block 0 (.loop (.seq (.seq (.region false [] [
 oM 21 8,
 oO 22 (.faddr 0 (.t 2) 2),
 oO 23 (.load 14 (.t 22)),
 oM 24 1,
 oO 25 (.len 1 (.t 24)),
 oO 26 (.iaddr 14 (.t 23) (.t 25)),
 oO 27 (.faddr 15 (.t 26) 3),
 oO 28 (.load 16 (.t 27)),
 oO 29 (.len 16 (.t 28)),
 oO 30 (.bin .lss 2 (.t 21) (.t 29))])
(.cond (.t 30) (.skip) (.exit 0)))
(.seq (.block 1 (.region false [] [
 oM 33 7,
 oO 34 (.bslice false 1 0 []),
 oM 35 1,
 oO 36 (.append 0 1 1 (.t 34) (.t 35)),
 oM 37 8,
 oO 38 (.bslice false 1 1 [(0, (.t 37))]),
 oO 39 (.append 0 1 1 (.t 36) (.t 38)),
 oO 40 (.bslice false 4 1 [(0, (.t 39))]),
 oO 41 (.append 0 4 4 (.t 33) (.t 40)),
 oO 7 (.assign (.t 41))]))
(.region false [] [
 oM 31 8,
 oO 32 (.bin .add 2 (.t 31) (.c (.int .i64 1))),
 oO 8 (.assign (.t 32))]))))))
(.seq (.region false [] [
 oM 42 7,
 oO 4 (.assign (.t 42)),
 oO 5 (.assign (.c (.int .i64 0)))])
(.ret)))))))⟩

def f11 : DFn := ⟨27, [.tmp 4],
    .seq (.region false [] [
 oO 4 (.assign (.c (.bool false)))])
(.seq (.seq (.region false [] [
 oM 6 0,
 oO 7 (.len 4 (.t 6)),
 oM 8 1,
 oO 9 (.len 4 (.t 8)),
 oO 10 (.bin .neq 2 (.t 7) (.t 9))])
(.cond (.t 10) (.seq (.region false [] [
 oO 4 (.assign (.c (.bool false)))])
(.ret)) (.skip)))
(.seq (.seq (.region false [] [
 oO 5 (.assign (.c (.int .i64 0)))])
(.block 0 (.loop (.seq (.seq (.region false [] [
 oM 11 5,
 oM 12 0,
 oO 13 (.len 4 (.t 12)),
 oO 14 (.bin .lss 2 (.t 11) (.t 13))])
(.cond (.t 14) (.skip) (.exit 0)))
(.seq (.block 1 (.seq (.region true [] [
 oM 17 0,
 oM 18 5,
 oO 19 (.iaddr 4 (.t 17) (.t 18)),
 oO 20 (.load 1 (.t 19)),
 oM 21 1,
 oM 22 5,
 oO 23 (.iaddr 4 (.t 21) (.t 22)),
 oO 24 (.load 1 (.t 23)),
 oO 25 (.call 0 (.f 5) [(.t 20), (.t 24)]),
 oO 26 (.un .not (.t 25))])
(.cond (.t 26) (.seq (.region false [] [
 oO 4 (.assign (.c (.bool false)))])
(.ret)) (.skip))))
(.region false [] [
 oM 15 5,
 oO 16 (.bin .add 2 (.t 15) (.c (.int .i64 1))),
 oO 5 (.assign (.t 16))]))))))
(.seq (.region false [] [
 oO 4 (.assign (.c (.bool true)))])
(.ret))))⟩

def f14 : DFn := ⟨27, [.tmp 6, .tmp 7],
    .seq (.region false [] [
 oO 3 (.box 0 (.t 0)),
 oO 6 (.assign (.c (.imm .exact []))),
 oO 7 (.assign (.c (.int .i64 0)))])
(.seq (.seq (.region false [] [
 oO 8 (.load 0 (.t 3)),
 oM 9 1,
 oO 10 (.call 0 (.f 66) [(.t 8), (.t 9)]),
 oO 7 (.assign (.t 10))])
(.seq (.region false [] [
 oM 11 7,
 oO 12 (.bin .neq 3 (.t 11) (.c (.int .i64 0)))])
(.cond (.t 12) (.seq (.region false [] [
 oM 13 7,
 oO 6 (.assign (.c (.imm .exact []))),
 oO 7 (.assign (.t 13))])
(.ret)) (.skip))))
(.seq (.seq (.region false [] [
 oM 14 2,
 oO 15 (.faddr 0 (.t 3) 1),
 oO 16 (.load 9 (.t 15)),
 oO 17 (.len 9 (.t 16)),
 oO 18 (.bin .sub 2 (.t 17) (.c (.int .i64 1))),
 oO 19 (.call 0 (.f 67) [(.t 14), (.c (.int .i64 0)), (.t 18)]),
 oO 20 (.un .not (.t 19))])
(.cond (.t 20) (.seq (.region false [] [
 oO 6 (.assign (.c (.imm .exact []))),
 oO 7 (.assign (.c (.int .i64 270)))])
(.ret)) (.skip)))
(.seq (.region false [] [
 oO 21 (.load 0 (.t 3)),
 oM 22 1,
 oO 23 (.call 0 (.f 68) [(.t 21), (.t 22)]),
 oM 24 2,
 oO 25 (.iaddr 9 (.t 23) (.t 24)),
 oO 26 (.load 6 (.t 25)),
 oO 6 (.assign (.t 26)),
 oO 7 (.assign (.c (.int .i64 0)))])
(.ret))))⟩

def f15 : DFn := ⟨173, [.tmp 2],
    .seq (.region false [] [
 oO 1 (.box 0 (.t 0)),
 oO 2 (.assign (.c (.int .i64 0)))])
(.seq (.seq (.region false [] [
 oO 15 (.faddr 0 (.t 1) 0),
 oO 16 (.load 10 (.t 15)),
 oO 17 (.len 10 (.t 16)),
 oO 18 (.bin .gtr 2 (.t 17) (.c (.int .i64 4096))),
 oM 19 18,
⟨(some 20), .faddr 0 (.t 1) 1, (some (19, false))⟩,
⟨(some 21), .load 9 (.t 20), (some (19, false))⟩,
⟨(some 22), .len 9 (.t 21), (some (19, false))⟩,
⟨(some 23), .call 0 (.f 67) [(.t 22), (.c (.int .i64 1)), (.c (.int .i64 32))], (some (19, false))⟩,
⟨(some 24), .un .not (.t 23), (some (19, false))⟩,
 oO 25 (.pick (.t 19) (.c (.bool true)) (.t 24)),
 oM 26 25,
⟨(some 27), .faddr 0 (.t 1) 2, (some (26, false))⟩,
⟨(some 28), .load 14 (.t 27), (some (26, false))⟩,
⟨(some 29), .len 14 (.t 28), (some (26, false))⟩,
⟨(some 30), .bin .gtr 2 (.t 29) (.c (.int .i64 64)), (some (26, false))⟩,
 oO 31 (.pick (.t 26) (.c (.bool true)) (.t 30)),
 oM 32 31,
⟨(some 33), .faddr 0 (.t 1) 0, (some (32, false))⟩,
⟨(some 34), .load 10 (.t 33), (some (32, false))⟩,
⟨(some 35), .call 0 (.f 69) [(.t 34), (.f 70)], (some (32, false))⟩,
⟨(some 36), .un .not (.t 35), (some (32, false))⟩,
 oO 37 (.pick (.t 32) (.c (.bool true)) (.t 36))])
(.cond (.t 37) (.seq (.region false [] [
 oO 2 (.assign (.c (.int .i64 270)))])
(.ret)) (.skip)))
(.seq (.region false [] [
 oO 38 (.mkmap 21),
 oO 3 (.assign (.t 38))])
(.seq (.seq (.region false [] [
 oO 39 (.faddr 0 (.t 1) 0),
 oO 40 (.load 10 (.t 39)),
 oO 41 (.len 10 (.t 40)),
 oO 42 (.move (.c (.int .i64 0)))])
(.block 0 (.loop (.seq (.region false [] [
 oO 43 (.bin .lss 2 (.t 42) (.t 41))])
(.seq (.cond (.t 43) (.skip) (.exit 0))
(.seq (.block 1 (.seq (.region false [] [
 oO 44 (.iaddr 10 (.t 40) (.t 42)),
 oO 45 (.load 20 (.t 44)),
 oO 5 (.alloc 20),
 oE (.store 20 (.t 5) (.t 45))])
(.seq (.seq (.region false [] [
 oO 46 (.faddr 20 (.t 5) 1),
 oO 47 (.load 2 (.t 46)),
 oO 48 (.bin .lss 2 (.t 47) (.c (.int .i64 0))),
 oM 49 48,
⟨(some 50), .faddr 20 (.t 5) 2, (some (49, false))⟩,
⟨(some 51), .load 2 (.t 50), (some (49, false))⟩,
⟨(some 52), .bin .lss 2 (.t 51) (.c (.int .i64 0)), (some (49, false))⟩,
 oO 53 (.pick (.t 49) (.c (.bool true)) (.t 52))])
(.cond (.t 53) (.seq (.region false [] [
 oO 2 (.assign (.c (.int .i64 270)))])
(.ret)) (.skip)))
(.region false [] [
 oM 54 3,
 oO 55 (.load 20 (.t 5)),
 oE (.mapset 21 (.t 54) (.t 55) (.c (.bool true)))]))))
(.region false [] [
 oO 56 (.bin .add 2 (.t 42) (.c (.int .i64 1))),
 oM 42 56])))))))
(.seq (.seq (.region false [] [
 oO 57 (.faddr 0 (.t 1) 1),
 oO 58 (.load 9 (.t 57)),
 oO 59 (.len 9 (.t 58)),
 oO 60 (.move (.c (.int .i64 0)))])
(.block 2 (.loop (.seq (.region false [] [
 oO 61 (.bin .lss 2 (.t 60) (.t 59))])
(.seq (.cond (.t 61) (.skip) (.exit 2))
(.seq (.block 3 (.seq (.region false [] [
 oO 62 (.iaddr 9 (.t 58) (.t 60)),
 oO 63 (.load 6 (.t 62)),
 oO 7 (.assign (.t 63))])
(.seq (.region false [] [
 oM 64 7,
 oO 65 (.len 6 (.t 64)),
 oO 66 (.faddr 0 (.t 1) 0),
 oO 67 (.load 10 (.t 66)),
 oO 68 (.len 10 (.t 67)),
 oO 69 (.bin .neq 2 (.t 65) (.t 68)),
 oM 70 69,
⟨(some 71), .move (.t 7), (some (70, false))⟩,
⟨(some 72), .call 0 (.f 71) [(.t 71), (.f 72)], (some (70, false))⟩,
 oO 73 (.pick (.t 70) (.c (.bool true)) (.t 72))])
(.cond (.t 73) (.seq (.region false [] [
 oO 2 (.assign (.c (.int .i64 270)))])
(.ret)) (.skip)))))
(.region false [] [
 oO 74 (.bin .add 2 (.t 60) (.c (.int .i64 1))),
 oM 60 74])))))))
(.seq (.seq (.region false [] [
 oO 75 (.faddr 0 (.t 1) 2),
 oO 76 (.load 14 (.t 75)),
 oO 77 (.len 14 (.t 76)),
 oO 78 (.move (.c (.int .i64 0)))])
(.block 4 (.loop (.seq (.region false [] [
 oO 79 (.bin .lss 2 (.t 78) (.t 77))])
(.seq (.cond (.t 79) (.skip) (.exit 4))
(.seq (.block 5 (.seq (.region false [] [
 oO 80 (.iaddr 14 (.t 76) (.t 78)),
 oO 81 (.load 15 (.t 80)),
 oO 9 (.alloc 15),
 oE (.store 15 (.t 9) (.t 81))])
(.seq (.seq (.region true [] [
 oO 82 (.faddr 15 (.t 9) 2),
 oO 83 (.load 6 (.t 82)),
 oO 84 (.len 6 (.t 83)),
 oO 85 (.bin .eql 2 (.t 84) (.c (.int .i64 0))),
 oM 86 85,
⟨(some 87), .faddr 15 (.t 9) 3, (some (86, false))⟩,
⟨(some 88), .load 16 (.t 87), (some (86, false))⟩,
⟨(some 89), .len 16 (.t 88), (some (86, false))⟩,
⟨(some 90), .call 0 (.f 67) [(.t 89), (.c (.int .i64 1)), (.c (.int .i64 96))], (some (86, false))⟩,
⟨(some 91), .un .not (.t 90), (some (86, false))⟩,
 oO 92 (.pick (.t 86) (.c (.bool true)) (.t 91)),
 oM 93 92,
⟨(some 94), .faddr 15 (.t 9) 2, (some (93, false))⟩,
⟨(some 95), .load 6 (.t 94), (some (93, false))⟩,
⟨(some 96), .call 0 (.f 73) [(.t 95), (.f 74)], (some (93, false))⟩,
⟨(some 97), .un .not (.t 96), (some (93, false))⟩,
 oO 98 (.pick (.t 93) (.c (.bool true)) (.t 97)),
 oM 99 98,
⟨(some 100), .faddr 15 (.t 9) 2, (some (99, false))⟩,
⟨(some 101), .load 6 (.t 100), (some (99, false))⟩,
⟨(some 102), .iaddr 6 (.t 101) (.c (.int .i64 0)), (some (99, false))⟩,
⟨(some 103), .load 2 (.t 102), (some (99, false))⟩,
⟨(some 104), .bin .lss 2 (.t 103) (.c (.int .i64 0)), (some (99, false))⟩,
 oO 105 (.pick (.t 99) (.c (.bool true)) (.t 104)),
 oM 106 105,
⟨(some 107), .faddr 15 (.t 9) 2, (some (106, false))⟩,
⟨(some 108), .load 6 (.t 107), (some (106, false))⟩,
⟨(some 109), .faddr 15 (.t 9) 2, (some (106, false))⟩,
⟨(some 110), .load 6 (.t 109), (some (106, false))⟩,
⟨(some 111), .len 6 (.t 110), (some (106, false))⟩,
⟨(some 112), .bin .sub 2 (.t 111) (.c (.int .i64 1)), (some (106, false))⟩,
⟨(some 113), .iaddr 6 (.t 108) (.t 112), (some (106, false))⟩,
⟨(some 114), .load 2 (.t 113), (some (106, false))⟩,
⟨(some 115), .faddr 0 (.t 1) 1, (some (106, false))⟩,
⟨(some 116), .load 9 (.t 115), (some (106, false))⟩,
⟨(some 117), .len 9 (.t 116), (some (106, false))⟩,
⟨(some 118), .bin .geq 2 (.t 114) (.t 117), (some (106, false))⟩,
 oO 119 (.pick (.t 106) (.c (.bool true)) (.t 118))])
(.cond (.t 119) (.seq (.region false [] [
 oO 2 (.assign (.c (.int .i64 270)))])
(.ret)) (.skip)))
(.seq (.region false [] [
 oO 120 (.faddr 15 (.t 9) 3),
 oO 121 (.load 16 (.t 120)),
 oO 122 (.len 16 (.t 121)),
 oO 123 (.move (.c (.int .i64 0)))])
(.block 6 (.loop (.seq (.region false [] [
 oO 124 (.bin .lss 2 (.t 123) (.t 122))])
(.seq (.cond (.t 124) (.skip) (.exit 6))
(.seq (.block 7 (.seq (.region false [] [
 oO 125 (.iaddr 16 (.t 121) (.t 123)),
 oO 126 (.load 17 (.t 125)),
 oO 11 (.alloc 17),
 oE (.store 17 (.t 11) (.t 126))])
(.seq (.region false [] [
 oO 12 (.assign (.c (.int .i64 1048576)))])
(.seq (.seq (.region false [] [
 oO 127 (.faddr 17 (.t 11) 0),
 oO 128 (.load 2 (.t 127)),
 oM 129 12,
 oO 130 (.call 0 (.f 67) [(.t 128), (.c (.int .i64 0)), (.t 129)]),
 oO 131 (.un .not (.t 130)),
 oM 132 131,
⟨(some 133), .faddr 17 (.t 11) 1, (some (132, false))⟩,
⟨(some 134), .load 2 (.t 133), (some (132, false))⟩,
⟨(some 135), .move (.t 12), (some (132, false))⟩,
⟨(some 136), .call 0 (.f 67) [(.t 134), (.c (.int .i64 0)), (.t 135)], (some (132, false))⟩,
⟨(some 137), .un .not (.t 136), (some (132, false))⟩,
 oO 138 (.pick (.t 132) (.c (.bool true)) (.t 137)),
 oM 139 138,
⟨(some 140), .faddr 17 (.t 11) 2, (some (139, false))⟩,
⟨(some 141), .load 2 (.t 140), (some (139, false))⟩,
⟨(some 142), .move (.t 12), (some (139, false))⟩,
⟨(some 143), .call 0 (.f 67) [(.t 141), (.c (.int .i64 0)), (.t 142)], (some (139, false))⟩,
⟨(some 144), .un .not (.t 143), (some (139, false))⟩,
 oO 145 (.pick (.t 139) (.c (.bool true)) (.t 144)),
 oM 146 145,
⟨(some 147), .faddr 17 (.t 11) 3, (some (146, false))⟩,
⟨(some 148), .load 18 (.t 147), (some (146, false))⟩,
⟨(some 149), .call 0 (.f 75) [(.t 148), (.f 76)], (some (146, false))⟩,
⟨(some 150), .un .not (.t 149), (some (146, false))⟩,
 oO 151 (.pick (.t 146) (.c (.bool true)) (.t 150))])
(.cond (.t 151) (.seq (.region false [] [
 oO 2 (.assign (.c (.int .i64 270)))])
(.ret)) (.skip)))
(.seq (.region false [] [
 oO 152 (.faddr 17 (.t 11) 3),
 oO 153 (.load 18 (.t 152)),
 oO 154 (.len 18 (.t 153)),
 oO 155 (.move (.c (.int .i64 0)))])
(.block 8 (.loop (.seq (.region false [] [
 oO 156 (.bin .lss 2 (.t 155) (.t 154))])
(.seq (.cond (.t 156) (.skip) (.exit 8))
(.seq (.block 9 (.seq (.region false [] [
 oO 157 (.iaddr 18 (.t 153) (.t 155)),
 oO 158 (.load 19 (.t 157)),
 oO 14 (.alloc 19),
 oE (.store 19 (.t 14) (.t 158))])
(.seq (.region false [] [
 oM 159 3,
 oO 160 (.faddr 19 (.t 14) 0),
 oO 161 (.load 20 (.t 160)),
 oO 162 (.lookup 21 (.t 159) (.t 161) false),
 oO 163 (.un .not (.t 162)),
 oM 164 163,
⟨(some 165), .faddr 19 (.t 14) 1, (some (164, false))⟩,
⟨(some 166), .load 2 (.t 165), (some (164, false))⟩,
⟨(some 167), .call 0 (.f 67) [(.t 166), (.c (.int .i64 1)), (.c (.int .i64 8))], (some (164, false))⟩,
⟨(some 168), .un .not (.t 167), (some (164, false))⟩,
 oO 169 (.pick (.t 164) (.c (.bool true)) (.t 168))])
(.cond (.t 169) (.seq (.region false [] [
 oO 2 (.assign (.c (.int .i64 270)))])
(.ret)) (.skip)))))
(.region false [] [
 oO 170 (.bin .add 2 (.t 155) (.c (.int .i64 1))),
 oM 155 170])))))))))))
(.region false [] [
 oO 171 (.bin .add 2 (.t 123) (.c (.int .i64 1))),
 oM 123 171]))))))))))
(.region false [] [
 oO 172 (.bin .add 2 (.t 78) (.c (.int .i64 1))),
 oM 78 172])))))))
(.seq (.region false [] [
 oO 2 (.assign (.c (.int .i64 0)))])
(.ret)))))))⟩

def f18 : DFn := ⟨31, [.tmp 6, .tmp 7],
    .seq (.region false [] [
 oO 3 (.box 0 (.t 0)),
 oO 6 (.assign (.c (.imm .exact []))),
 oO 7 (.assign (.c (.int .i64 0)))])
(.seq (.region false [] [
 oO 9 (.load 0 (.t 3)),
 oO 10 (.call 0 (.f 19) [(.t 9)]),
 oO 8 (.assign (.t 10))])
(.seq (.seq (.region false [] [
 oM 11 8,
 oO 12 (.bin .neq 3 (.t 11) (.c (.int .i64 0)))])
(.cond (.t 12) (.seq (.region false [] [
 oM 13 8,
 oO 6 (.assign (.c (.imm .exact []))),
 oO 7 (.assign (.t 13))])
(.ret)) (.skip)))
(.seq (.seq (.region false [] [
 oO 14 (.load 0 (.t 3)),
 oM 15 1,
 oO 16 (.call 0 (.f 78) [(.t 14), (.t 15)]),
 oO 17 (.un .not (.t 16)),
 oM 18 17,
⟨(some 19), .move (.t 2), (some (18, false))⟩,
⟨(some 20), .faddr 0 (.t 3) 1, (some (18, false))⟩,
⟨(some 21), .load 9 (.t 20), (some (18, false))⟩,
⟨(some 22), .len 9 (.t 21), (some (18, false))⟩,
⟨(some 23), .bin .sub 2 (.t 22) (.c (.int .i64 1)), (some (18, false))⟩,
⟨(some 24), .call 0 (.f 79) [(.t 19), (.c (.int .i64 0)), (.t 23)], (some (18, false))⟩,
⟨(some 25), .un .not (.t 24), (some (18, false))⟩,
 oO 26 (.pick (.t 18) (.c (.bool true)) (.t 25))])
(.cond (.t 26) (.seq (.region false [] [
 oO 6 (.assign (.c (.imm .exact []))),
 oO 7 (.assign (.c (.int .i64 270)))])
(.ret)) (.skip)))
(.seq (.region false [] [
 oO 27 (.load 0 (.t 3)),
 oM 28 1,
 oM 29 2,
 oO 30 (.call 0 (.f 80) [(.t 27), (.t 28), (.t 29)]),
 oO 6 (.assign (.t 30)),
 oO 7 (.assign (.c (.int .i64 0)))])
(.ret)))))⟩

def f19 : DFn := ⟨120, [.tmp 2],
    .seq (.region false [] [
 oO 1 (.box 0 (.t 0)),
 oO 2 (.assign (.c (.int .i64 0)))])
(.seq (.seq (.region false [] [
 oO 7 (.faddr 0 (.t 1) 0),
 oO 8 (.load 10 (.t 7)),
 oO 9 (.len 10 (.t 8)),
 oO 10 (.bin .gtr 2 (.t 9) (.c (.int .i64 4096))),
 oM 11 10,
⟨(some 12), .faddr 0 (.t 1) 1, (some (11, false))⟩,
⟨(some 13), .load 9 (.t 12), (some (11, false))⟩,
⟨(some 14), .len 9 (.t 13), (some (11, false))⟩,
⟨(some 15), .bin .lss 2 (.t 14) (.c (.int .i64 1)), (some (11, false))⟩,
 oO 16 (.pick (.t 11) (.c (.bool true)) (.t 15)),
 oM 17 16,
⟨(some 18), .faddr 0 (.t 1) 1, (some (17, false))⟩,
⟨(some 19), .load 9 (.t 18), (some (17, false))⟩,
⟨(some 20), .len 9 (.t 19), (some (17, false))⟩,
⟨(some 21), .bin .gtr 2 (.t 20) (.c (.int .i64 32)), (some (17, false))⟩,
 oO 22 (.pick (.t 17) (.c (.bool true)) (.t 21)),
 oM 23 22,
⟨(some 24), .faddr 0 (.t 1) 2, (some (23, false))⟩,
⟨(some 25), .load 14 (.t 24), (some (23, false))⟩,
⟨(some 26), .len 14 (.t 25), (some (23, false))⟩,
⟨(some 27), .bin .gtr 2 (.t 26) (.c (.int .i64 64)), (some (23, false))⟩,
 oO 28 (.pick (.t 23) (.c (.bool true)) (.t 27))])
(.cond (.t 28) (.seq (.region false [] [
 oO 2 (.assign (.c (.int .i64 270)))])
(.ret)) (.skip)))
(.seq (.seq (.region false [] [
 oO 3 (.assign (.c (.int .i64 0)))])
(.block 0 (.loop (.seq (.seq (.region false [] [
 oM 29 3,
 oO 30 (.faddr 0 (.t 1) 0),
 oO 31 (.load 10 (.t 30)),
 oO 32 (.len 10 (.t 31)),
 oO 33 (.bin .lss 2 (.t 29) (.t 32))])
(.cond (.t 33) (.skip) (.exit 0)))
(.seq (.block 1 (.seq (.region true [] [
 oO 36 (.faddr 0 (.t 1) 0),
 oO 37 (.load 10 (.t 36)),
 oM 38 3,
 oO 39 (.iaddr 10 (.t 37) (.t 38)),
 oO 40 (.faddr 20 (.t 39) 1),
 oO 41 (.load 2 (.t 40)),
 oO 42 (.bin .lss 2 (.t 41) (.c (.int .i64 0))),
 oM 43 42,
⟨(some 44), .faddr 0 (.t 1) 0, (some (43, false))⟩,
⟨(some 45), .load 10 (.t 44), (some (43, false))⟩,
⟨(some 46), .move (.t 3), (some (43, false))⟩,
⟨(some 47), .iaddr 10 (.t 45) (.t 46), (some (43, false))⟩,
⟨(some 48), .faddr 20 (.t 47) 2, (some (43, false))⟩,
⟨(some 49), .load 2 (.t 48), (some (43, false))⟩,
⟨(some 50), .bin .lss 2 (.t 49) (.c (.int .i64 0)), (some (43, false))⟩,
 oO 51 (.pick (.t 43) (.c (.bool true)) (.t 50)),
 oM 52 51,
⟨(some 53), .move (.t 3), (some (52, false))⟩,
⟨(some 54), .bin .gtr 2 (.t 53) (.c (.int .i64 0)), (some (52, false))⟩,
⟨(some 55), .move (.t 54), (some (52, false))⟩,
⟨(some 56), .faddr 0 (.t 1) 0, (some (55, true))⟩,
⟨(some 57), .load 10 (.t 56), (some (55, true))⟩,
⟨(some 58), .move (.t 3), (some (55, true))⟩,
⟨(some 59), .bin .sub 2 (.t 58) (.c (.int .i64 1)), (some (55, true))⟩,
⟨(some 60), .iaddr 10 (.t 57) (.t 59), (some (55, true))⟩,
⟨(some 61), .load 20 (.t 60), (some (55, true))⟩,
⟨(some 62), .faddr 0 (.t 1) 0, (some (55, true))⟩,
⟨(some 63), .load 10 (.t 62), (some (55, true))⟩,
⟨(some 64), .move (.t 3), (some (55, true))⟩,
⟨(some 65), .iaddr 10 (.t 63) (.t 64), (some (55, true))⟩,
⟨(some 66), .load 20 (.t 65), (some (55, true))⟩,
⟨(some 67), .call 0 (.f 81) [(.t 61), (.t 66)], (some (55, true))⟩,
⟨(some 68), .un .not (.t 67), (some (55, true))⟩,
⟨(some 69), .pick (.t 55) (.t 68) (.c (.bool false)), (some (52, false))⟩,
 oO 70 (.pick (.t 52) (.c (.bool true)) (.t 69))])
(.cond (.t 70) (.seq (.region false [] [
 oO 2 (.assign (.c (.int .i64 270)))])
(.ret)) (.skip))))
(.region false [] [
 oM 34 3,
 oO 35 (.bin .add 2 (.t 34) (.c (.int .i64 1))),
 oO 3 (.assign (.t 35))]))))))
(.seq (.seq (.region false [] [
 oO 4 (.assign (.c (.int .i64 0)))])
(.block 2 (.loop (.seq (.seq (.region false [] [
 oM 71 4,
 oO 72 (.faddr 0 (.t 1) 1),
 oO 73 (.load 9 (.t 72)),
 oO 74 (.len 9 (.t 73)),
 oO 75 (.bin .lss 2 (.t 71) (.t 74))])
(.cond (.t 75) (.skip) (.exit 2)))
(.seq (.block 3 (.seq (.seq (.region true [] [
 oO 78 (.faddr 0 (.t 1) 1),
 oO 79 (.load 9 (.t 78)),
 oM 80 4,
 oO 81 (.iaddr 9 (.t 79) (.t 80)),
 oO 82 (.load 6 (.t 81)),
 oO 83 (.len 6 (.t 82)),
 oO 84 (.faddr 0 (.t 1) 0),
 oO 85 (.load 10 (.t 84)),
 oO 86 (.len 10 (.t 85)),
 oO 87 (.bin .neq 2 (.t 83) (.t 86))])
(.cond (.t 87) (.seq (.region false [] [
 oO 2 (.assign (.c (.int .i64 270)))])
(.ret)) (.skip)))
(.seq (.region false [] [
 oO 5 (.assign (.c (.int .i64 0)))])
(.block 4 (.loop (.seq (.seq (.region false [] [
 oM 88 5,
 oO 89 (.faddr 0 (.t 1) 0),
 oO 90 (.load 10 (.t 89)),
 oO 91 (.len 10 (.t 90)),
 oO 92 (.bin .lss 2 (.t 88) (.t 91))])
(.cond (.t 92) (.skip) (.exit 4)))
(.seq (.block 5 (.seq (.region false [] [
 oO 95 (.faddr 0 (.t 1) 1),
 oO 96 (.load 9 (.t 95)),
 oM 97 4,
 oO 98 (.iaddr 9 (.t 96) (.t 97)),
 oO 99 (.load 6 (.t 98)),
 oM 100 5,
 oO 101 (.iaddr 6 (.t 99) (.t 100)),
 oO 102 (.load 2 (.t 101)),
 oO 103 (.call 0 (.f 79) [(.t 102), (.c (.int .i64 0)), (.c (.int .i64 4096))]),
 oO 104 (.un .not (.t 103))])
(.cond (.t 104) (.seq (.region false [] [
 oO 2 (.assign (.c (.int .i64 270)))])
(.ret)) (.skip))))
(.region false [] [
 oM 93 5,
 oO 94 (.bin .add 2 (.t 93) (.c (.int .i64 1))),
 oO 5 (.assign (.t 94))]))))))))
(.region false [] [
 oM 76 4,
 oO 77 (.bin .add 2 (.t 76) (.c (.int .i64 1))),
 oO 4 (.assign (.t 77))]))))))
(.seq (.seq (.region false [] [
 oO 6 (.assign (.c (.int .i64 0)))])
(.block 6 (.loop (.seq (.seq (.region false [] [
 oM 105 6,
 oO 106 (.faddr 0 (.t 1) 2),
 oO 107 (.load 14 (.t 106)),
 oO 108 (.len 14 (.t 107)),
 oO 109 (.bin .lss 2 (.t 105) (.t 108))])
(.cond (.t 109) (.skip) (.exit 6)))
(.seq (.block 7 (.seq (.region true [] [
 oO 112 (.load 0 (.t 1)),
 oO 113 (.faddr 0 (.t 1) 2),
 oO 114 (.load 14 (.t 113)),
 oM 115 6,
 oO 116 (.iaddr 14 (.t 114) (.t 115)),
 oO 117 (.load 15 (.t 116)),
 oO 118 (.call 0 (.f 82) [(.t 112), (.t 117)]),
 oO 119 (.un .not (.t 118))])
(.cond (.t 119) (.seq (.region false [] [
 oO 2 (.assign (.c (.int .i64 270)))])
(.ret)) (.skip))))
(.region false [] [
 oM 110 6,
 oO 111 (.bin .add 2 (.t 110) (.c (.int .i64 1))),
 oO 6 (.assign (.t 111))]))))))
(.seq (.region false [] [
 oO 2 (.assign (.c (.int .i64 0)))])
(.ret))))))⟩

def f22 : DFn := ⟨76, [.tmp 4, .tmp 5],
    .seq (.region false [] [
 oO 2 (.box 0 (.t 0)),
 oO 4 (.assign (.c (.imm .exact []))),
 oO 5 (.assign (.c (.int .i64 0)))])
(.seq (.seq (.region false [] [
 oO 13 (.load 0 (.t 2)),
 oM 14 1,
 oO 15 (.call 0 (.f 83) [(.t 13), (.t 14)]),
 oO 5 (.assign (.t 15))])
(.seq (.region false [] [
 oM 16 5,
 oO 17 (.bin .neq 3 (.t 16) (.c (.int .i64 0)))])
(.cond (.t 17) (.seq (.region false [] [
 oM 18 5,
 oO 4 (.assign (.c (.imm .exact []))),
 oO 5 (.assign (.t 18))])
(.ret)) (.skip))))
(.seq (.region false [] [
 oO 6 (.alloc 22)])
(.seq (.seq (.region false [] [
 oO 19 (.load 0 (.t 2)),
 oM 20 1,
 oO 21 (.call 0 (.f 84) [(.t 19), (.t 20)])])
(.block 0 (.rfunc (.t 21) [22, 23] (.region false [] [
 oO 8 (.assign (.t 23))]) (.block 1 (.region false [] [
 oO 24 (.iaddr 22 (.t 6) (.c (.int .i64 0))),
 oO 25 (.load 2 (.t 24)),
 oM 26 8,
 oO 27 (.bin .add 2 (.t 25) (.t 26)),
 oO 28 (.iaddr 22 (.t 6) (.c (.int .i64 0))),
 oE (.store 2 (.t 28) (.t 27))])))))
(.seq (.seq (.region false [] [
 oM 29 1,
 oO 30 (.len 6 (.t 29)),
 oO 31 (.move (.c (.int .i64 0)))])
(.block 2 (.loop (.seq (.region false [] [
 oO 32 (.bin .lss 2 (.t 31) (.t 30))])
(.seq (.cond (.t 32) (.skip) (.exit 2))
(.seq (.block 3 (.seq (.region false [] [
 oM 33 31,
 oO 34 (.iaddr 6 (.t 29) (.t 31)),
 oO 35 (.load 2 (.t 34)),
 oO 9 (.assign (.t 33)),
 oO 10 (.assign (.t 35))])
(.seq (.region true [(10, 17), (14, 17), (15, 17)] [
 oO 36 (.faddr 0 (.t 2) 2),
 oO 37 (.load 14 (.t 36)),
 oM 38 9,
 oO 39 (.iaddr 14 (.t 37) (.t 38)),
 oO 40 (.faddr 15 (.t 39) 3),
 oO 41 (.load 16 (.t 40)),
 oM 42 10,
 oO 43 (.iaddr 16 (.t 41) (.t 42)),
 oO 44 (.load 17 (.t 43)),
 oO 45 (.faddr 0 (.t 2) 2),
 oO 46 (.load 14 (.t 45)),
 oM 47 9,
 oO 48 (.iaddr 14 (.t 46) (.t 47)),
 oO 49 (.faddr 15 (.t 48) 2),
 oO 50 (.load 6 (.t 49)),
 oO 51 (.len 6 (.t 50)),
 oO 11 (.alloc 17),
 oE (.store 17 (.t 11) (.t 44)),
 oO 12 (.assign (.t 51))])
(.seq (.region false [] [
 oO 52 (.iaddr 22 (.t 6) (.c (.int .i64 1))),
 oO 53 (.load 2 (.t 52)),
 oO 54 (.faddr 17 (.t 11) 0),
 oO 55 (.load 2 (.t 54)),
 oO 56 (.maxi [(.t 53), (.t 55)]),
 oO 57 (.iaddr 22 (.t 6) (.c (.int .i64 1))),
 oE (.store 2 (.t 57) (.t 56))])
(.seq (.region false [] [
 oO 58 (.iaddr 22 (.t 6) (.c (.int .i64 2))),
 oO 59 (.load 2 (.t 58)),
 oO 60 (.faddr 17 (.t 11) 1),
 oO 61 (.load 2 (.t 60)),
 oM 62 12,
 oO 63 (.bin .mul 2 (.t 61) (.t 62)),
 oO 64 (.bin .add 2 (.t 59) (.t 63)),
 oO 65 (.iaddr 22 (.t 6) (.c (.int .i64 2))),
 oE (.store 2 (.t 65) (.t 64))])
(.region false [] [
 oO 66 (.iaddr 22 (.t 6) (.c (.int .i64 3))),
 oO 67 (.load 2 (.t 66)),
 oO 68 (.faddr 17 (.t 11) 2),
 oO 69 (.load 2 (.t 68)),
 oM 70 12,
 oO 71 (.bin .mul 2 (.t 69) (.t 70)),
 oO 72 (.bin .add 2 (.t 67) (.t 71)),
 oO 73 (.iaddr 22 (.t 6) (.c (.int .i64 3))),
 oE (.store 2 (.t 73) (.t 72))]))))))
(.region false [] [
 oO 74 (.bin .add 2 (.t 31) (.c (.int .i64 1))),
 oM 31 74])))))))
(.seq (.region false [] [
 oO 75 (.slice 22 (.t 6) none none none),
 oO 4 (.assign (.t 75)),
 oO 5 (.assign (.c (.int .i64 0)))])
(.ret))))))⟩

def f23 : DFn := ⟨86, [.tmp 4, .tmp 5],
    .seq (.region false [] [
 oO 2 (.box 0 (.t 0)),
 oO 4 (.assign (.c (.imm .exact []))),
 oO 5 (.assign (.c (.int .i64 0)))])
(.seq (.region false [] [
 oO 11 (.load 0 (.t 2)),
 oO 12 (.call 0 (.f 19) [(.t 11)]),
 oO 6 (.assign (.t 12))])
(.seq (.seq (.region false [] [
 oM 13 6,
 oO 14 (.bin .neq 3 (.t 13) (.c (.int .i64 0)))])
(.cond (.t 14) (.seq (.region false [] [
 oM 15 6,
 oO 4 (.assign (.c (.imm .exact []))),
 oO 5 (.assign (.t 15))])
(.ret)) (.skip)))
(.seq (.seq (.region false [] [
 oO 16 (.load 0 (.t 2)),
 oM 17 1,
 oO 18 (.call 0 (.f 78) [(.t 16), (.t 17)]),
 oO 19 (.un .not (.t 18)),
 oM 20 19,
⟨(some 21), .move (.t 1), (some (20, false))⟩,
⟨(some 22), .len 6 (.t 21), (some (20, false))⟩,
⟨(some 23), .faddr 0 (.t 2) 2, (some (20, false))⟩,
⟨(some 24), .load 14 (.t 23), (some (20, false))⟩,
⟨(some 25), .len 14 (.t 24), (some (20, false))⟩,
⟨(some 26), .bin .neq 2 (.t 22) (.t 25), (some (20, false))⟩,
 oO 27 (.pick (.t 20) (.c (.bool true)) (.t 26))])
(.cond (.t 27) (.seq (.region false [] [
 oO 4 (.assign (.c (.imm .exact []))),
 oO 5 (.assign (.c (.int .i64 270)))])
(.ret)) (.skip)))
(.seq (.region false [] [
 oO 28 (.load 0 (.t 2)),
 oM 29 1,
 oO 30 (.call 0 (.f 85) [(.t 28), (.t 29)]),
 oO 31 (.bslice true 6 4 [(0, (.t 30)), (1, (.c (.int .i64 0))), (2, (.c (.int .i64 0))), (3, (.c (.int .i64 0)))]),
 oO 7 (.assign (.t 31))])
(.seq (.seq (.region false [] [
 oO 8 (.assign (.c (.int .i64 0)))])
(.block 0 (.loop (.seq (.seq (.region false [] [
 oM 32 8,
 oM 33 1,
 oO 34 (.len 6 (.t 33)),
 oO 35 (.bin .lss 2 (.t 32) (.t 34))])
(.cond (.t 35) (.skip) (.exit 0)))
(.seq (.block 1 (.seq (.region true [] [
 oO 38 (.faddr 0 (.t 2) 2),
 oO 39 (.load 14 (.t 38)),
 oM 40 8,
 oO 41 (.iaddr 14 (.t 39) (.t 40)),
 oO 42 (.faddr 15 (.t 41) 3),
 oO 43 (.load 16 (.t 42)),
 oM 44 1,
 oM 45 8,
 oO 46 (.iaddr 6 (.t 44) (.t 45)),
 oO 47 (.load 2 (.t 46)),
 oO 48 (.iaddr 16 (.t 43) (.t 47)),
 oO 49 (.load 17 (.t 48)),
 oO 9 (.alloc 17),
 oE (.store 17 (.t 9) (.t 49))])
(.seq (.region false [] [
 oO 50 (.faddr 0 (.t 2) 2),
 oO 51 (.load 14 (.t 50)),
 oM 52 8,
 oO 53 (.iaddr 14 (.t 51) (.t 52)),
 oO 54 (.faddr 15 (.t 53) 2),
 oO 55 (.load 6 (.t 54)),
 oO 56 (.len 6 (.t 55)),
 oO 10 (.assign (.t 56))])
(.seq (.region true [] [
 oM 57 7,
 oM 58 7,
 oO 59 (.iaddr 6 (.t 58) (.c (.int .i64 1))),
 oO 60 (.load 2 (.t 59)),
 oO 61 (.faddr 17 (.t 9) 0),
 oO 62 (.load 2 (.t 61)),
 oO 63 (.maxi [(.t 60), (.t 62)]),
 oO 64 (.iaddr 6 (.t 57) (.c (.int .i64 1))),
 oE (.store 2 (.t 64) (.t 63))])
(.seq (.region true [] [
 oM 65 7,
 oM 66 7,
 oO 67 (.iaddr 6 (.t 66) (.c (.int .i64 2))),
 oO 68 (.load 2 (.t 67)),
 oO 69 (.faddr 17 (.t 9) 1),
 oO 70 (.load 2 (.t 69)),
 oM 71 10,
 oO 72 (.bin .mul 2 (.t 70) (.t 71)),
 oO 73 (.bin .add 2 (.t 68) (.t 72)),
 oO 74 (.iaddr 6 (.t 65) (.c (.int .i64 2))),
 oE (.store 2 (.t 74) (.t 73))])
(.region true [] [
 oM 75 7,
 oM 76 7,
 oO 77 (.iaddr 6 (.t 76) (.c (.int .i64 3))),
 oO 78 (.load 2 (.t 77)),
 oO 79 (.faddr 17 (.t 9) 2),
 oO 80 (.load 2 (.t 79)),
 oM 81 10,
 oO 82 (.bin .mul 2 (.t 80) (.t 81)),
 oO 83 (.bin .add 2 (.t 78) (.t 82)),
 oO 84 (.iaddr 6 (.t 75) (.c (.int .i64 3))),
 oE (.store 2 (.t 84) (.t 83))]))))))
(.region false [] [
 oM 36 8,
 oO 37 (.bin .add 2 (.t 36) (.c (.int .i64 1))),
 oO 8 (.assign (.t 37))]))))))
(.seq (.region false [] [
 oM 85 7,
 oO 4 (.assign (.t 85)),
 oO 5 (.assign (.c (.int .i64 0)))])
(.ret)))))))⟩

def f24 : DFn := ⟨62, [.tmp 6, .tmp 7],
    .seq (.region false [] [
 oO 3 (.box 0 (.t 0)),
 oO 6 (.assign (.c (.bool false))),
 oO 7 (.assign (.c (.int .i64 0)))])
(.seq (.region false [] [
 oO 15 (.load 0 (.t 3)),
 oM 16 1,
 oO 17 (.call 0 (.f 22) [(.t 15), (.t 16)]),
 oM 14 17,
 oO 18 (.extract (.t 14) 0),
 oO 19 (.extract (.t 14) 1),
 oO 8 (.assign (.t 18)),
 oO 7 (.assign (.t 19))])
(.seq (.seq (.region false [] [
 oM 20 7,
 oO 21 (.bin .neq 3 (.t 20) (.c (.int .i64 0)))])
(.cond (.t 21) (.seq (.region false [] [
 oM 22 7,
 oO 6 (.assign (.c (.bool false))),
 oO 7 (.assign (.t 22))])
(.ret)) (.skip)))
(.seq (.region false [] [
 oO 24 (.load 0 (.t 3)),
 oM 25 2,
 oO 26 (.call 0 (.f 22) [(.t 24), (.t 25)]),
 oM 23 26,
 oO 27 (.extract (.t 23) 0),
 oO 28 (.extract (.t 23) 1),
 oO 9 (.assign (.t 27)),
 oO 7 (.assign (.t 28))])
(.seq (.seq (.region false [] [
 oM 29 7,
 oO 30 (.bin .neq 3 (.t 29) (.c (.int .i64 0)))])
(.cond (.t 30) (.seq (.region false [] [
 oM 31 7,
 oO 6 (.assign (.c (.bool false))),
 oO 7 (.assign (.t 31))])
(.ret)) (.skip)))
(.seq (.seq (.region false [] [
 oM 32 8,
 oM 33 9,
 oO 34 (.build 23 [(0, (.t 32)), (1, (.t 33))]),
 oM 35 1,
 oM 36 2,
 oO 37 (.build 23 [(0, (.t 35)), (1, (.t 36))]),
 oO 38 (.bslice false 24 2 [(0, (.t 34)), (1, (.t 37))]),
 oO 39 (.len 24 (.t 38)),
 oO 40 (.move (.c (.int .i64 0)))])
(.block 0 (.loop (.seq (.region false [] [
 oO 41 (.bin .lss 2 (.t 40) (.t 39))])
(.seq (.cond (.t 41) (.skip) (.exit 0))
(.seq (.block 1 (.seq (.region false [] [
 oO 42 (.iaddr 24 (.t 38) (.t 40)),
 oO 43 (.load 23 (.t 42)),
 oO 11 (.alloc 23),
 oE (.store 23 (.t 11) (.t 43))])
(.seq (.region false [] [
 oO 45 (.iaddr 23 (.t 11) (.c (.int .i64 0))),
 oO 46 (.load 6 (.t 45)),
 oO 47 (.iaddr 23 (.t 11) (.c (.int .i64 1))),
 oO 48 (.load 6 (.t 47)),
 oO 49 (.call 0 (.f 30) [(.t 46), (.t 48)]),
 oM 44 49,
 oO 50 (.extract (.t 44) 0),
 oO 51 (.extract (.t 44) 1),
 oO 12 (.assign (.t 50)),
 oO 13 (.assign (.t 51))])
(.seq (.region false [] [
 oM 52 13,
 oO 53 (.bin .neq 3 (.t 52) (.c (.int .i64 0))),
 oM 54 53,
⟨(some 55), .move (.t 12), (some (54, false))⟩,
⟨(some 56), .bin .neq 2 (.t 55) (.c (.int .i64 0)), (some (54, false))⟩,
 oO 57 (.pick (.t 54) (.c (.bool true)) (.t 56))])
(.cond (.t 57) (.seq (.region false [] [
 oM 58 12,
 oO 59 (.bin .lss 2 (.t 58) (.c (.int .i64 0))),
 oM 60 13,
 oO 6 (.assign (.t 59)),
 oO 7 (.assign (.t 60))])
(.ret)) (.skip))))))
(.region false [] [
 oO 61 (.bin .add 2 (.t 40) (.c (.int .i64 1))),
 oM 40 61])))))))
(.seq (.region false [] [
 oO 6 (.assign (.c (.bool false))),
 oO 7 (.assign (.c (.int .i64 0)))])
(.ret)))))))⟩

def f26 : DFn := ⟨23, [.cell 4 8, .tmp 5],
    .seq (.region false [] [
 oO 2 (.box 0 (.t 0)),
 oO 4 (.alloc 8),
 oO 5 (.assign (.c (.int .i64 0)))])
(.seq (.seq (.region false [] [
 oO 7 (.load 0 (.t 2)),
 oM 8 1,
 oO 9 (.call 0 (.f 83) [(.t 7), (.t 8)]),
 oO 5 (.assign (.t 9))])
(.seq (.region false [] [
 oM 10 5,
 oO 11 (.bin .neq 3 (.t 10) (.c (.int .i64 0)))])
(.cond (.t 11) (.seq (.region false [] [
 oM 12 5,
 oE (.store 8 (.t 4) (.c (.imm .exact []))),
 oO 5 (.assign (.t 12))])
(.ret)) (.skip))))
(.seq (.seq (.region false [] [
 oO 13 (.load 0 (.t 2)),
 oM 14 1,
 oO 15 (.call 0 (.f 84) [(.t 13), (.t 14)])])
(.block 0 (.rfunc (.t 15) [16, 17] (.region false [] [
 oO 6 (.alloc 11),
 oE (.store 11 (.t 6) (.t 16))]) (.block 1 (.region false [] [
 oO 18 (.load 8 (.t 4)),
 oO 19 (.load 11 (.t 6)),
 oO 20 (.bslice false 8 1 [(0, (.t 19))]),
 oO 21 (.append 0 8 8 (.t 18) (.t 20)),
 oE (.store 8 (.t 4) (.t 21))])))))
(.seq (.region false [] [
 oO 22 (.load 8 (.t 4)),
 oE (.store 8 (.t 4) (.t 22)),
 oO 5 (.assign (.c (.int .i64 0)))])
(.ret))))⟩

def f30 : DFn := ⟨14, [.tmp 4, .tmp 5],
    .seq (.region false [] [
 oO 4 (.assign (.c (.int .i64 0))),
 oO 5 (.assign (.c (.int .i64 0)))])
(.seq (.seq (.region false [] [
 oM 6 0,
 oO 7 (.len 6 (.t 6)),
 oM 8 1,
 oO 9 (.len 6 (.t 8)),
 oO 10 (.bin .neq 2 (.t 7) (.t 9))])
(.cond (.t 10) (.seq (.region false [] [
 oO 4 (.assign (.c (.int .i64 0))),
 oO 5 (.assign (.c (.int .i64 60)))])
(.ret)) (.skip)))
(.seq (.region false [] [
 oM 11 0,
 oM 12 1,
 oO 13 (.call 0 (.f 87) [(.t 11), (.t 12)]),
 oO 4 (.assign (.t 13)),
 oO 5 (.assign (.c (.int .i64 0)))])
(.ret)))⟩

def f57 : DFn := ⟨26, [.tmp 4],
    .seq (.region false [] [
 oO 4 (.assign (.c (.bool false)))])
(.seq (.seq (.region false [] [
 oM 6 0,
 oO 7 (.len 6 (.t 6)),
 oM 8 1,
 oO 9 (.len 1 (.t 8)),
 oO 10 (.bin .lss 2 (.t 7) (.t 9))])
(.cond (.t 10) (.seq (.region false [] [
 oO 4 (.assign (.c (.bool false)))])
(.ret)) (.skip)))
(.seq (.seq (.region false [] [
 oO 5 (.assign (.c (.int .i64 0)))])
(.block 0 (.loop (.seq (.seq (.region false [] [
 oM 11 5,
 oM 12 1,
 oO 13 (.len 1 (.t 12)),
 oO 14 (.bin .lss 2 (.t 11) (.t 13))])
(.cond (.t 14) (.skip) (.exit 0)))
(.seq (.block 1 (.seq (.region true [] [
 oM 17 0,
 oM 18 5,
 oO 19 (.iaddr 6 (.t 17) (.t 18)),
 oO 20 (.load 2 (.t 19)),
 oM 21 1,
 oM 22 5,
 oO 23 (.iaddr 1 (.t 21) (.t 22)),
 oO 24 (.load 2 (.t 23)),
 oO 25 (.bin .neq 2 (.t 20) (.t 24))])
(.cond (.t 25) (.seq (.region false [] [
 oO 4 (.assign (.c (.bool false)))])
(.ret)) (.skip))))
(.region false [] [
 oM 15 5,
 oO 16 (.bin .add 2 (.t 15) (.c (.int .i64 1))),
 oO 5 (.assign (.t 16))]))))))
(.seq (.region false [] [
 oO 4 (.assign (.c (.bool true)))])
(.ret))))⟩

def f61 : DFn := ⟨32, [.tmp 4],
    .seq (.region false [] [
 oO 2 (.box 0 (.t 0)),
 oO 4 (.assign (.c (.int .i64 0)))])
(.seq (.region false [] [
 oO 5 (.assign (.c (.int .i64 1)))])
(.seq (.seq (.region false [] [
 oO 6 (.assign (.c (.int .i64 0)))])
(.block 0 (.loop (.seq (.seq (.region false [] [
 oM 7 6,
 oO 8 (.faddr 0 (.t 2) 2),
 oO 9 (.load 14 (.t 8)),
 oO 10 (.len 14 (.t 9)),
 oO 11 (.bin .lss 2 (.t 7) (.t 10)),
 oM 12 11,
⟨(some 13), .move (.t 5), (some (12, true))⟩,
⟨(some 14), .move (.t 1), (some (12, true))⟩,
⟨(some 15), .bin .lss 2 (.t 13) (.t 14), (some (12, true))⟩,
 oO 16 (.pick (.t 12) (.t 15) (.c (.bool false)))])
(.cond (.t 16) (.skip) (.exit 0)))
(.seq (.block 1 (.region false [] [
 oM 19 5,
 oO 20 (.faddr 0 (.t 2) 2),
 oO 21 (.load 14 (.t 20)),
 oM 22 6,
 oO 23 (.iaddr 14 (.t 21) (.t 22)),
 oO 24 (.faddr 15 (.t 23) 3),
 oO 25 (.load 16 (.t 24)),
 oO 26 (.len 16 (.t 25)),
 oO 27 (.maxi [(.c (.int .i64 1)), (.t 26)]),
 oO 28 (.bin .mul 2 (.t 19) (.t 27)),
 oO 5 (.assign (.t 28))]))
(.region false [] [
 oM 17 6,
 oO 18 (.bin .add 2 (.t 17) (.c (.int .i64 1))),
 oO 6 (.assign (.t 18))]))))))
(.seq (.region false [] [
 oM 29 5,
 oM 30 1,
 oO 31 (.mini [(.t 29), (.t 30)]),
 oO 4 (.assign (.t 31))])
(.ret))))⟩

def f62 : DFn := ⟨39, [.tmp 4],
    .seq (.region false [] [
 oO 2 (.box 0 (.t 0)),
 oO 4 (.assign (.c (.int .i64 0)))])
(.seq (.seq (.region false [] [
 oO 7 (.load 0 (.t 2)),
 oO 8 (.call 0 (.f 15) [(.t 7)]),
 oO 4 (.assign (.t 8))])
(.seq (.region false [] [
 oM 9 4,
 oO 10 (.bin .neq 3 (.t 9) (.c (.int .i64 0)))])
(.cond (.t 10) (.seq (.region false [] [
 oM 11 4,
 oO 4 (.assign (.t 11))])
(.ret)) (.skip))))
(.seq (.seq (.region false [] [
 oM 12 1,
 oO 13 (.len 1 (.t 12)),
 oO 14 (.faddr 0 (.t 2) 2),
 oO 15 (.load 14 (.t 14)),
 oO 16 (.len 14 (.t 15)),
 oO 17 (.bin .gtr 2 (.t 13) (.t 16))])
(.cond (.t 17) (.seq (.region false [] [
 oO 4 (.assign (.c (.int .i64 280)))])
(.ret)) (.skip)))
(.seq (.seq (.region false [] [
 oM 18 1,
 oO 19 (.len 1 (.t 18)),
 oO 20 (.move (.c (.int .i64 0)))])
(.block 0 (.loop (.seq (.region false [] [
 oO 21 (.bin .lss 2 (.t 20) (.t 19))])
(.seq (.cond (.t 21) (.skip) (.exit 0))
(.seq (.block 1 (.seq (.region false [] [
 oM 22 20,
 oO 23 (.iaddr 1 (.t 18) (.t 20)),
 oO 24 (.load 2 (.t 23)),
 oO 5 (.assign (.t 22)),
 oO 6 (.assign (.t 24))])
(.seq (.region false [] [
 oM 25 6,
 oO 26 (.bin .lss 2 (.t 25) (.c (.int .i64 0))),
 oM 27 26,
⟨(some 28), .move (.t 6), (some (27, false))⟩,
⟨(some 29), .faddr 0 (.t 2) 2, (some (27, false))⟩,
⟨(some 30), .load 14 (.t 29), (some (27, false))⟩,
⟨(some 31), .move (.t 5), (some (27, false))⟩,
⟨(some 32), .iaddr 14 (.t 30) (.t 31), (some (27, false))⟩,
⟨(some 33), .faddr 15 (.t 32) 3, (some (27, false))⟩,
⟨(some 34), .load 16 (.t 33), (some (27, false))⟩,
⟨(some 35), .len 16 (.t 34), (some (27, false))⟩,
⟨(some 36), .bin .geq 2 (.t 28) (.t 35), (some (27, false))⟩,
 oO 37 (.pick (.t 27) (.c (.bool true)) (.t 36))])
(.cond (.t 37) (.seq (.region false [] [
 oO 4 (.assign (.c (.int .i64 280)))])
(.ret)) (.skip)))))
(.region false [] [
 oO 38 (.bin .add 2 (.t 20) (.c (.int .i64 1))),
 oM 20 38])))))))
(.seq (.region false [] [
 oO 4 (.assign (.c (.int .i64 0)))])
(.ret)))))⟩

def f63 : DFn := ⟨6, [.tmp 4],
    .seq (.region false [] [
 oO 2 (.box 0 (.t 0)),
 oO 3 (.box 1 (.t 1)),
 oO 4 (.assign (.c .nilfn))])
(.seq (.region false [] [
 oO 5 (.mkfn 102 [(.t 2), (.t 3)]),
 oO 4 (.assign (.t 5))])
(.ret))⟩

def f64 : DFn := ⟨15, [.tmp 4],
    .seq (.region false [] [
 oO 2 (.box 0 (.t 0)),
 oO 4 (.assign (.c (.int .i64 0)))])
(.seq (.region false [] [
 oO 6 (.load 0 (.t 2)),
 oO 7 (.call 0 (.f 19) [(.t 6)]),
 oO 5 (.assign (.t 7))])
(.seq (.seq (.region false [] [
 oM 8 5,
 oO 9 (.bin .neq 3 (.t 8) (.c (.int .i64 0)))])
(.cond (.t 9) (.seq (.region false [] [
 oM 10 5,
 oO 4 (.assign (.t 10))])
(.ret)) (.skip)))
(.seq (.seq (.region false [] [
 oO 11 (.load 0 (.t 2)),
 oM 12 1,
 oO 13 (.call 0 (.f 103) [(.t 11), (.t 12)]),
 oO 14 (.un .not (.t 13))])
(.cond (.t 14) (.seq (.region false [] [
 oO 4 (.assign (.c (.int .i64 280)))])
(.ret)) (.skip)))
(.seq (.region false [] [
 oO 4 (.assign (.c (.int .i64 0)))])
(.ret)))))⟩

def f65 : DFn := ⟨67, [.cell 2 17],
    .seq (.region false [] [
 oO 2 (.alloc 17)])
(.seq (.region true [] [
 oM 5 0,
 oO 6 (.iaddr 16 (.t 5) (.c (.int .i64 0))),
 oO 7 (.faddr 17 (.t 6) 0),
 oO 8 (.load 2 (.t 7)),
 oM 9 0,
 oO 10 (.iaddr 16 (.t 9) (.c (.int .i64 0))),
 oO 11 (.faddr 17 (.t 10) 1),
 oO 12 (.load 2 (.t 11)),
 oM 13 0,
 oO 14 (.iaddr 16 (.t 13) (.c (.int .i64 0))),
 oO 15 (.faddr 17 (.t 14) 2),
 oO 16 (.load 2 (.t 15)),
 oO 17 (.build 17 [(0, (.t 8)), (1, (.t 12)), (2, (.t 16))]),
 oO 3 (.alloc 17),
 oE (.store 17 (.t 3) (.t 17))])
(.seq (.seq (.region false [] [
 oO 4 (.assign (.c (.int .i64 1)))])
(.block 0 (.loop (.seq (.seq (.region false [] [
 oM 18 4,
 oM 19 0,
 oO 20 (.len 16 (.t 19)),
 oO 21 (.bin .lss 2 (.t 18) (.t 20))])
(.cond (.t 21) (.skip) (.exit 0)))
(.seq (.block 1 (.seq (.seq (.region true [] [
 oM 24 0,
 oM 25 4,
 oO 26 (.iaddr 16 (.t 24) (.t 25)),
 oO 27 (.faddr 17 (.t 26) 0),
 oO 28 (.load 2 (.t 27)),
 oO 29 (.faddr 17 (.t 3) 0),
 oO 30 (.load 2 (.t 29)),
 oO 31 (.bin .lss 2 (.t 28) (.t 30))])
(.cond (.t 31) (.region false [] [
 oM 32 0,
 oM 33 4,
 oO 34 (.iaddr 16 (.t 32) (.t 33)),
 oO 35 (.faddr 17 (.t 34) 0),
 oO 36 (.load 2 (.t 35)),
 oO 37 (.faddr 17 (.t 3) 0),
 oE (.store 2 (.t 37) (.t 36))]) (.skip)))
(.seq (.seq (.region true [] [
 oM 38 0,
 oM 39 4,
 oO 40 (.iaddr 16 (.t 38) (.t 39)),
 oO 41 (.faddr 17 (.t 40) 1),
 oO 42 (.load 2 (.t 41)),
 oO 43 (.faddr 17 (.t 3) 1),
 oO 44 (.load 2 (.t 43)),
 oO 45 (.bin .lss 2 (.t 42) (.t 44))])
(.cond (.t 45) (.region false [] [
 oM 46 0,
 oM 47 4,
 oO 48 (.iaddr 16 (.t 46) (.t 47)),
 oO 49 (.faddr 17 (.t 48) 1),
 oO 50 (.load 2 (.t 49)),
 oO 51 (.faddr 17 (.t 3) 1),
 oE (.store 2 (.t 51) (.t 50))]) (.skip)))
(.seq (.region true [] [
 oM 52 0,
 oM 53 4,
 oO 54 (.iaddr 16 (.t 52) (.t 53)),
 oO 55 (.faddr 17 (.t 54) 2),
 oO 56 (.load 2 (.t 55)),
 oO 57 (.faddr 17 (.t 3) 2),
 oO 58 (.load 2 (.t 57)),
 oO 59 (.bin .lss 2 (.t 56) (.t 58))])
(.cond (.t 59) (.region false [] [
 oM 60 0,
 oM 61 4,
 oO 62 (.iaddr 16 (.t 60) (.t 61)),
 oO 63 (.faddr 17 (.t 62) 2),
 oO 64 (.load 2 (.t 63)),
 oO 65 (.faddr 17 (.t 3) 2),
 oE (.store 2 (.t 65) (.t 64))]) (.skip))))))
(.region false [] [
 oM 22 4,
 oO 23 (.bin .add 2 (.t 22) (.c (.int .i64 1))),
 oO 4 (.assign (.t 23))]))))))
(.seq (.region false [] [
 oO 66 (.load 17 (.t 3)),
 oE (.store 17 (.t 2) (.t 66))])
(.ret))))⟩

def f66 : DFn := ⟨38, [.tmp 4],
    .seq (.region false [] [
 oO 2 (.box 0 (.t 0)),
 oO 4 (.assign (.c (.int .i64 0)))])
(.seq (.seq (.region false [] [
 oO 8 (.load 0 (.t 2)),
 oO 9 (.call 0 (.f 15) [(.t 8)]),
 oO 5 (.assign (.t 9))])
(.seq (.region false [] [
 oM 10 5,
 oO 11 (.bin .neq 3 (.t 10) (.c (.int .i64 0)))])
(.cond (.t 11) (.seq (.region false [] [
 oM 12 5,
 oO 4 (.assign (.t 12))])
(.ret)) (.skip))))
(.seq (.seq (.region false [] [
 oM 13 1,
 oO 14 (.len 6 (.t 13)),
 oO 15 (.faddr 0 (.t 2) 2),
 oO 16 (.load 14 (.t 15)),
 oO 17 (.len 14 (.t 16)),
 oO 18 (.bin .gtr 2 (.t 14) (.t 17))])
(.cond (.t 18) (.seq (.region false [] [
 oO 4 (.assign (.c (.int .i64 270)))])
(.ret)) (.skip)))
(.seq (.seq (.region false [] [
 oM 19 1,
 oO 20 (.len 6 (.t 19)),
 oO 21 (.move (.c (.int .i64 0)))])
(.block 0 (.loop (.seq (.region false [] [
 oO 22 (.bin .lss 2 (.t 21) (.t 20))])
(.seq (.cond (.t 22) (.skip) (.exit 0))
(.seq (.block 1 (.seq (.region false [] [
 oM 23 21,
 oO 24 (.iaddr 6 (.t 19) (.t 21)),
 oO 25 (.load 2 (.t 24)),
 oO 6 (.assign (.t 23)),
 oO 7 (.assign (.t 25))])
(.seq (.region false [] [
 oM 26 7,
 oO 27 (.faddr 0 (.t 2) 2),
 oO 28 (.load 14 (.t 27)),
 oM 29 6,
 oO 30 (.iaddr 14 (.t 28) (.t 29)),
 oO 31 (.faddr 15 (.t 30) 3),
 oO 32 (.load 16 (.t 31)),
 oO 33 (.len 16 (.t 32)),
 oO 34 (.bin .sub 2 (.t 33) (.c (.int .i64 1))),
 oO 35 (.call 0 (.f 67) [(.t 26), (.c (.int .i64 0)), (.t 34)]),
 oO 36 (.un .not (.t 35))])
(.cond (.t 36) (.seq (.region false [] [
 oO 4 (.assign (.c (.int .i64 270)))])
(.ret)) (.skip)))))
(.region false [] [
 oO 37 (.bin .add 2 (.t 21) (.c (.int .i64 1))),
 oM 21 37])))))))
(.seq (.region false [] [
 oO 4 (.assign (.c (.int .i64 0)))])
(.ret)))))⟩

def f67 : DFn := ⟨15, [.tmp 6],
    .seq (.region false [] [
 oO 6 (.assign (.c (.bool false)))])
(.seq (.region false [] [
 oM 7 1,
 oM 8 0,
 oO 9 (.bin .leq 2 (.t 7) (.t 8)),
 oM 10 9,
⟨(some 11), .move (.t 0), (some (10, true))⟩,
⟨(some 12), .move (.t 2), (some (10, true))⟩,
⟨(some 13), .bin .leq 2 (.t 11) (.t 12), (some (10, true))⟩,
 oO 14 (.pick (.t 10) (.t 13) (.c (.bool false))),
 oO 6 (.assign (.t 14))])
(.ret))⟩

def f68 : DFn := ⟨62, [.tmp 4],
    .seq (.region false [] [
 oO 2 (.box 0 (.t 0)),
 oO 4 (.assign (.c (.imm .exact [])))])
(.seq (.region false [] [
 oO 12 (.mkmap 26),
 oO 5 (.alloc 26),
 oE (.store 26 (.t 5) (.t 12))])
(.seq (.seq (.region false [] [
 oO 13 (.faddr 0 (.t 2) 0),
 oO 14 (.load 10 (.t 13)),
 oO 15 (.len 10 (.t 14)),
 oO 16 (.move (.c (.int .i64 0)))])
(.block 0 (.loop (.seq (.region false [] [
 oO 17 (.bin .lss 2 (.t 16) (.t 15))])
(.seq (.cond (.t 17) (.skip) (.exit 0))
(.seq (.block 1 (.seq (.region false [] [
 oM 18 16,
 oO 19 (.iaddr 10 (.t 14) (.t 16)),
 oO 20 (.load 20 (.t 19)),
 oO 7 (.alloc 20),
 oO 6 (.assign (.t 18)),
 oE (.store 20 (.t 7) (.t 20))])
(.region false [] [
 oO 21 (.load 26 (.t 5)),
 oO 22 (.load 20 (.t 7)),
 oM 23 6,
 oE (.mapset 26 (.t 21) (.t 22) (.t 23))])))
(.region false [] [
 oO 24 (.bin .add 2 (.t 16) (.c (.int .i64 1))),
 oM 16 24])))))))
(.seq (.region false [] [
 oO 25 (.faddr 0 (.t 2) 1),
 oO 26 (.load 9 (.t 25)),
 oO 27 (.len 9 (.t 26)),
 oO 28 (.mkslice true 9 (.t 27) (.t 27)),
 oO 8 (.alloc 9),
 oE (.store 9 (.t 8) (.t 28))])
(.seq (.seq (.region false [] [
 oO 29 (.load 9 (.t 8)),
 oO 30 (.len 9 (.t 29)),
 oO 31 (.move (.c (.int .i64 0)))])
(.block 2 (.loop (.seq (.region false [] [
 oO 32 (.bin .lss 2 (.t 31) (.t 30))])
(.seq (.cond (.t 32) (.skip) (.exit 2))
(.seq (.block 3 (.seq (.region false [] [
 oM 33 31,
 oO 9 (.assign (.t 33))])
(.region true [] [
 oO 34 (.load 9 (.t 8)),
 oM 35 9,
 oO 36 (.faddr 0 (.t 2) 0),
 oO 37 (.load 10 (.t 36)),
 oO 38 (.len 10 (.t 37)),
 oO 39 (.mkslice true 6 (.t 38) (.t 38)),
 oO 40 (.iaddr 9 (.t 34) (.t 35)),
 oE (.store 6 (.t 40) (.t 39))])))
(.region false [] [
 oO 41 (.bin .add 2 (.t 31) (.c (.int .i64 1))),
 oM 31 41])))))))
(.seq (.seq (.region false [] [
 oO 42 (.load 0 (.t 2)),
 oM 43 1,
 oO 44 (.call 0 (.f 104) [(.t 42), (.t 43)])])
(.block 4 (.rfunc (.t 44) [45, 46] (.seq (.region false [] [
 oO 10 (.assign (.t 45))])
(.region false [] [
 oO 11 (.alloc 19),
 oE (.store 19 (.t 11) (.t 46))])) (.block 5 (.region true [] [
 oO 47 (.load 9 (.t 8)),
 oM 48 10,
 oO 49 (.iaddr 9 (.t 47) (.t 48)),
 oO 50 (.load 6 (.t 49)),
 oO 51 (.load 26 (.t 5)),
 oO 52 (.faddr 19 (.t 11) 0),
 oO 53 (.load 20 (.t 52)),
 oO 54 (.lookup 26 (.t 51) (.t 53) false),
 oO 55 (.iaddr 6 (.t 50) (.t 54)),
 oO 56 (.load 2 (.t 55)),
 oO 57 (.faddr 19 (.t 11) 1),
 oO 58 (.load 2 (.t 57)),
 oO 59 (.bin .add 2 (.t 56) (.t 58)),
 oO 60 (.iaddr 6 (.t 50) (.t 54)),
 oE (.store 2 (.t 60) (.t 59))])))))
(.seq (.region false [] [
 oO 61 (.load 9 (.t 8)),
 oO 4 (.assign (.t 61))])
(.ret)))))))⟩

def f69 : DFn := ⟨24, [.tmp 4],
    .seq (.region false [] [
 oO 4 (.assign (.c (.bool false)))])
(.seq (.seq (.region false [] [
 oO 5 (.assign (.c (.int .i64 1)))])
(.block 0 (.loop (.seq (.seq (.region false [] [
 oM 6 5,
 oM 7 0,
 oO 8 (.len 10 (.t 7)),
 oO 9 (.bin .lss 2 (.t 6) (.t 8))])
(.cond (.t 9) (.skip) (.exit 0)))
(.seq (.block 1 (.seq (.region true [] [
 oM 12 1,
 oM 13 0,
 oM 14 5,
 oO 15 (.bin .sub 2 (.t 14) (.c (.int .i64 1))),
 oO 16 (.iaddr 10 (.t 13) (.t 15)),
 oO 17 (.load 20 (.t 16)),
 oM 18 0,
 oM 19 5,
 oO 20 (.iaddr 10 (.t 18) (.t 19)),
 oO 21 (.load 20 (.t 20)),
 oO 22 (.call 0 (.t 12) [(.t 17), (.t 21)]),
 oO 23 (.bin .geq 2 (.t 22) (.c (.int .i64 0)))])
(.cond (.t 23) (.seq (.region false [] [
 oO 4 (.assign (.c (.bool false)))])
(.ret)) (.skip))))
(.region false [] [
 oM 10 5,
 oO 11 (.bin .add 2 (.t 10) (.c (.int .i64 1))),
 oO 5 (.assign (.t 11))]))))))
(.seq (.region false [] [
 oO 4 (.assign (.c (.bool true)))])
(.ret)))⟩

def f70 : DFn := ⟨24, [.tmp 4],
    .seq (.region false [] [
 oO 2 (.box 20 (.t 0)),
 oO 3 (.box 20 (.t 1)),
 oO 4 (.assign (.c (.int .i64 0)))])
(.seq (.seq (.region false [] [
 oO 5 (.faddr 20 (.t 2) 0),
 oO 6 (.load 7 (.t 5)),
 oO 7 (.faddr 20 (.t 3) 0),
 oO 8 (.load 7 (.t 7)),
 oO 9 (.bin .neq 7 (.t 6) (.t 8))])
(.cond (.t 9) (.seq (.seq (.region false [] [
 oO 10 (.faddr 20 (.t 3) 0),
 oO 11 (.load 7 (.t 10))])
(.cond (.t 11) (.seq (.region false [] [
 oO 4 (.assign (.c (.int .i64 (-1))))])
(.ret)) (.skip)))
(.seq (.region false [] [
 oO 4 (.assign (.c (.int .i64 1)))])
(.ret))) (.skip)))
(.seq (.region true [] [
 oO 12 (.faddr 20 (.t 2) 1),
 oO 13 (.load 2 (.t 12)),
 oO 14 (.faddr 20 (.t 3) 1),
 oO 15 (.load 2 (.t 14)),
 oO 16 (.call 0 (.f 74) [(.t 13), (.t 15)]),
 oO 17 (.faddr 20 (.t 2) 2),
 oO 18 (.load 2 (.t 17)),
 oO 19 (.faddr 20 (.t 3) 2),
 oO 20 (.load 2 (.t 19)),
 oO 21 (.call 0 (.f 74) [(.t 18), (.t 20)]),
 oO 22 (.bslice false 6 2 [(0, (.t 16)), (1, (.t 21))]),
 oO 23 (.call 0 (.f 105) [(.t 22)]),
 oO 4 (.assign (.t 23))])
(.ret)))⟩

def f71 : DFn := ⟨9, [.tmp 4],
    .seq (.region false [] [
 oO 4 (.assign (.c (.bool false)))])
(.seq (.region false [] [
 oM 5 0,
 oM 6 1,
 oO 7 (.call 0 (.f 106) [(.t 5), (.t 6)]),
 oO 8 (.bin .geq 2 (.t 7) (.c (.int .i64 0))),
 oO 4 (.assign (.t 8))])
(.ret))⟩

def f72 : DFn := ⟨6, [.tmp 2],
    .seq (.region false [] [
 oO 2 (.assign (.c (.bool false)))])
(.seq (.region false [] [
 oM 3 0,
 oO 4 (.call 0 (.f 67) [(.t 3), (.c (.int .i64 0)), (.c (.int .i64 4096))]),
 oO 5 (.un .not (.t 4)),
 oO 2 (.assign (.t 5))])
(.ret))⟩

def f73 : DFn := ⟨24, [.tmp 4],
    .seq (.region false [] [
 oO 4 (.assign (.c (.bool false)))])
(.seq (.seq (.region false [] [
 oO 5 (.assign (.c (.int .i64 1)))])
(.block 0 (.loop (.seq (.seq (.region false [] [
 oM 6 5,
 oM 7 0,
 oO 8 (.len 6 (.t 7)),
 oO 9 (.bin .lss 2 (.t 6) (.t 8))])
(.cond (.t 9) (.skip) (.exit 0)))
(.seq (.block 1 (.seq (.region true [] [
 oM 12 1,
 oM 13 0,
 oM 14 5,
 oO 15 (.bin .sub 2 (.t 14) (.c (.int .i64 1))),
 oO 16 (.iaddr 6 (.t 13) (.t 15)),
 oO 17 (.load 2 (.t 16)),
 oM 18 0,
 oM 19 5,
 oO 20 (.iaddr 6 (.t 18) (.t 19)),
 oO 21 (.load 2 (.t 20)),
 oO 22 (.call 0 (.t 12) [(.t 17), (.t 21)]),
 oO 23 (.bin .geq 2 (.t 22) (.c (.int .i64 0)))])
(.cond (.t 23) (.seq (.region false [] [
 oO 4 (.assign (.c (.bool false)))])
(.ret)) (.skip))))
(.region false [] [
 oM 10 5,
 oO 11 (.bin .add 2 (.t 10) (.c (.int .i64 1))),
 oO 5 (.assign (.t 11))]))))))
(.seq (.region false [] [
 oO 4 (.assign (.c (.bool true)))])
(.ret)))⟩

def f74 : DFn := ⟨20, [.tmp 4],
    .seq (.region false [] [
 oO 4 (.assign (.c (.int .i64 0)))])
(.seq (.region false [] [
 oM 7 0,
 oO 8 (.call 0 (.f 107) [(.t 7)]),
 oO 5 (.assign (.t 8))])
(.seq (.region false [] [
 oM 9 1,
 oO 10 (.call 0 (.f 107) [(.t 9)]),
 oO 6 (.assign (.t 10))])
(.seq (.seq (.region false [] [
 oM 11 5])
(.cond (.t 11) (.seq (.seq (.region false [] [
 oM 12 6])
(.cond (.t 12) (.seq (.region false [] [
 oO 4 (.assign (.c (.int .i64 0)))])
(.ret)) (.skip)))
(.seq (.region false [] [
 oO 4 (.assign (.c (.int .i64 (-1))))])
(.ret))) (.skip)))
(.seq (.seq (.region false [] [
 oM 13 6])
(.cond (.t 13) (.seq (.region false [] [
 oO 4 (.assign (.c (.int .i64 1)))])
(.ret)) (.skip)))
(.seq (.seq (.region false [] [
 oM 14 0,
 oM 15 1,
 oO 16 (.bin .lss 2 (.t 14) (.t 15))])
(.cond (.t 16) (.seq (.region false [] [
 oO 4 (.assign (.c (.int .i64 (-1))))])
(.ret)) (.skip)))
(.seq (.seq (.region false [] [
 oM 17 0,
 oM 18 1,
 oO 19 (.bin .gtr 2 (.t 17) (.t 18))])
(.cond (.t 19) (.seq (.region false [] [
 oO 4 (.assign (.c (.int .i64 1)))])
(.ret)) (.skip)))
(.seq (.region false [] [
 oO 4 (.assign (.c (.int .i64 0)))])
(.ret))))))))⟩

def f75 : DFn := ⟨24, [.tmp 4],
    .seq (.region false [] [
 oO 4 (.assign (.c (.bool false)))])
(.seq (.seq (.region false [] [
 oO 5 (.assign (.c (.int .i64 1)))])
(.block 0 (.loop (.seq (.seq (.region false [] [
 oM 6 5,
 oM 7 0,
 oO 8 (.len 18 (.t 7)),
 oO 9 (.bin .lss 2 (.t 6) (.t 8))])
(.cond (.t 9) (.skip) (.exit 0)))
(.seq (.block 1 (.seq (.region true [] [
 oM 12 1,
 oM 13 0,
 oM 14 5,
 oO 15 (.bin .sub 2 (.t 14) (.c (.int .i64 1))),
 oO 16 (.iaddr 18 (.t 13) (.t 15)),
 oO 17 (.load 19 (.t 16)),
 oM 18 0,
 oM 19 5,
 oO 20 (.iaddr 18 (.t 18) (.t 19)),
 oO 21 (.load 19 (.t 20)),
 oO 22 (.call 0 (.t 12) [(.t 17), (.t 21)]),
 oO 23 (.bin .geq 2 (.t 22) (.c (.int .i64 0)))])
(.cond (.t 23) (.seq (.region false [] [
 oO 4 (.assign (.c (.bool false)))])
(.ret)) (.skip))))
(.region false [] [
 oM 10 5,
 oO 11 (.bin .add 2 (.t 10) (.c (.int .i64 1))),
 oO 5 (.assign (.t 11))]))))))
(.seq (.region false [] [
 oO 4 (.assign (.c (.bool true)))])
(.ret)))⟩

def f76 : DFn := ⟨10, [.tmp 4],
    .seq (.region false [] [
 oO 2 (.box 19 (.t 0)),
 oO 3 (.box 19 (.t 1)),
 oO 4 (.assign (.c (.int .i64 0)))])
(.seq (.region false [] [
 oO 5 (.faddr 19 (.t 2) 0),
 oO 6 (.load 20 (.t 5)),
 oO 7 (.faddr 19 (.t 3) 0),
 oO 8 (.load 20 (.t 7)),
 oO 9 (.call 0 (.f 70) [(.t 6), (.t 8)]),
 oO 4 (.assign (.t 9))])
(.ret))⟩

def f78 : DFn := ⟨32, [.tmp 4],
    .seq (.region false [] [
 oO 2 (.box 0 (.t 0)),
 oO 4 (.assign (.c (.bool false)))])
(.seq (.seq (.region false [] [
 oM 6 1,
 oO 7 (.len 6 (.t 6)),
 oO 8 (.faddr 0 (.t 2) 2),
 oO 9 (.load 14 (.t 8)),
 oO 10 (.len 14 (.t 9)),
 oO 11 (.bin .gtr 2 (.t 7) (.t 10))])
(.cond (.t 11) (.seq (.region false [] [
 oO 4 (.assign (.c (.bool false)))])
(.ret)) (.skip)))
(.seq (.seq (.region false [] [
 oO 5 (.assign (.c (.int .i64 0)))])
(.block 0 (.loop (.seq (.seq (.region false [] [
 oM 12 5,
 oM 13 1,
 oO 14 (.len 6 (.t 13)),
 oO 15 (.bin .lss 2 (.t 12) (.t 14))])
(.cond (.t 15) (.skip) (.exit 0)))
(.seq (.block 1 (.seq (.region true [] [
 oM 18 1,
 oM 19 5,
 oO 20 (.iaddr 6 (.t 18) (.t 19)),
 oO 21 (.load 2 (.t 20)),
 oO 22 (.faddr 0 (.t 2) 2),
 oO 23 (.load 14 (.t 22)),
 oM 24 5,
 oO 25 (.iaddr 14 (.t 23) (.t 24)),
 oO 26 (.faddr 15 (.t 25) 3),
 oO 27 (.load 16 (.t 26)),
 oO 28 (.len 16 (.t 27)),
 oO 29 (.bin .sub 2 (.t 28) (.c (.int .i64 1))),
 oO 30 (.call 0 (.f 79) [(.t 21), (.c (.int .i64 0)), (.t 29)]),
 oO 31 (.un .not (.t 30))])
(.cond (.t 31) (.seq (.region false [] [
 oO 4 (.assign (.c (.bool false)))])
(.ret)) (.skip))))
(.region false [] [
 oM 16 5,
 oO 17 (.bin .add 2 (.t 16) (.c (.int .i64 1))),
 oO 5 (.assign (.t 17))]))))))
(.seq (.region false [] [
 oO 4 (.assign (.c (.bool true)))])
(.ret))))⟩

def f79 : DFn := ⟨15, [.tmp 6],
    .seq (.region false [] [
 oO 6 (.assign (.c (.bool false)))])
(.seq (.region false [] [
 oM 7 1,
 oM 8 0,
 oO 9 (.bin .leq 2 (.t 7) (.t 8)),
 oM 10 9,
⟨(some 11), .move (.t 0), (some (10, true))⟩,
⟨(some 12), .move (.t 2), (some (10, true))⟩,
⟨(some 13), .bin .leq 2 (.t 11) (.t 12), (some (10, true))⟩,
 oO 14 (.pick (.t 10) (.t 13) (.c (.bool false))),
 oO 6 (.assign (.t 14))])
(.ret))⟩

def f80 : DFn := ⟨71, [.tmp 6],
    .seq (.region false [] [
 oO 3 (.box 0 (.t 0)),
 oO 6 (.assign (.c (.imm .exact [])))])
(.seq (.region false [] [
 oO 12 (.faddr 0 (.t 3) 0),
 oO 13 (.load 10 (.t 12)),
 oO 14 (.len 10 (.t 13)),
 oO 15 (.mkslice true 6 (.t 14) (.t 14)),
 oO 7 (.assign (.t 15))])
(.seq (.seq (.region false [] [
 oO 8 (.assign (.c (.int .i64 0)))])
(.block 0 (.loop (.seq (.seq (.region false [] [
 oM 16 8,
 oM 17 1,
 oO 18 (.len 6 (.t 17)),
 oO 19 (.bin .lss 2 (.t 16) (.t 18))])
(.cond (.t 19) (.skip) (.exit 0)))
(.seq (.block 1 (.seq (.seq (.region false [] [
 oO 22 (.faddr 0 (.t 3) 2),
 oO 23 (.load 14 (.t 22)),
 oM 24 8,
 oO 25 (.iaddr 14 (.t 23) (.t 24)),
 oO 26 (.load 15 (.t 25)),
 oM 27 2,
 oO 28 (.call 0 (.f 108) [(.t 26), (.t 27)]),
 oO 29 (.un .not (.t 28))])
(.cond (.t 29) (.exit 1) (.skip)))
(.seq (.region true [] [
 oO 30 (.faddr 0 (.t 3) 2),
 oO 31 (.load 14 (.t 30)),
 oM 32 8,
 oO 33 (.iaddr 14 (.t 31) (.t 32)),
 oO 34 (.faddr 15 (.t 33) 3),
 oO 35 (.load 16 (.t 34)),
 oM 36 1,
 oM 37 8,
 oO 38 (.iaddr 6 (.t 36) (.t 37)),
 oO 39 (.load 2 (.t 38)),
 oO 40 (.iaddr 16 (.t 35) (.t 39)),
 oO 41 (.faddr 17 (.t 40) 3),
 oO 42 (.load 18 (.t 41)),
 oO 9 (.assign (.t 42))])
(.seq (.region false [] [
 oO 10 (.assign (.c (.int .i64 0)))])
(.block 2 (.loop (.seq (.seq (.region false [] [
 oM 43 10,
 oM 44 9,
 oO 45 (.len 18 (.t 44)),
 oO 46 (.bin .lss 2 (.t 43) (.t 45))])
(.cond (.t 46) (.skip) (.exit 2)))
(.seq (.block 3 (.seq (.region true [] [
 oO 49 (.faddr 0 (.t 3) 0),
 oO 50 (.load 10 (.t 49)),
 oM 51 9,
 oM 52 10,
 oO 53 (.iaddr 18 (.t 51) (.t 52)),
 oO 54 (.faddr 19 (.t 53) 0),
 oO 55 (.load 20 (.t 54)),
 oO 56 (.call 0 (.f 109) [(.t 50), (.t 55)]),
 oO 11 (.assign (.t 56))])
(.region true [] [
 oM 57 7,
 oM 58 11,
 oM 59 7,
 oM 60 11,
 oO 61 (.iaddr 6 (.t 59) (.t 60)),
 oO 62 (.load 2 (.t 61)),
 oM 63 9,
 oM 64 10,
 oO 65 (.iaddr 18 (.t 63) (.t 64)),
 oO 66 (.faddr 19 (.t 65) 1),
 oO 67 (.load 2 (.t 66)),
 oO 68 (.bin .add 2 (.t 62) (.t 67)),
 oO 69 (.iaddr 6 (.t 57) (.t 58)),
 oE (.store 2 (.t 69) (.t 68))])))
(.region false [] [
 oM 47 10,
 oO 48 (.bin .add 2 (.t 47) (.c (.int .i64 1))),
 oO 10 (.assign (.t 48))])))))))))
(.region false [] [
 oM 20 8,
 oO 21 (.bin .add 2 (.t 20) (.c (.int .i64 1))),
 oO 8 (.assign (.t 21))]))))))
(.seq (.region false [] [
 oM 70 7,
 oO 6 (.assign (.t 70))])
(.ret))))⟩

def f81 : DFn := ⟨27, [.tmp 4],
    .seq (.region false [] [
 oO 2 (.box 20 (.t 0)),
 oO 3 (.box 20 (.t 1)),
 oO 4 (.assign (.c (.bool false)))])
(.seq (.seq (.region false [] [
 oO 5 (.faddr 20 (.t 2) 0),
 oO 6 (.load 7 (.t 5)),
 oO 7 (.faddr 20 (.t 3) 0),
 oO 8 (.load 7 (.t 7)),
 oO 9 (.bin .neq 7 (.t 6) (.t 8))])
(.cond (.t 9) (.seq (.region false [] [
 oO 10 (.faddr 20 (.t 3) 0),
 oO 11 (.load 7 (.t 10)),
 oO 4 (.assign (.t 11))])
(.ret)) (.skip)))
(.seq (.seq (.region false [] [
 oO 12 (.faddr 20 (.t 2) 1),
 oO 13 (.load 2 (.t 12)),
 oO 14 (.faddr 20 (.t 3) 1),
 oO 15 (.load 2 (.t 14)),
 oO 16 (.bin .neq 2 (.t 13) (.t 15))])
(.cond (.t 16) (.seq (.region false [] [
 oO 17 (.faddr 20 (.t 2) 1),
 oO 18 (.load 2 (.t 17)),
 oO 19 (.faddr 20 (.t 3) 1),
 oO 20 (.load 2 (.t 19)),
 oO 21 (.bin .lss 2 (.t 18) (.t 20)),
 oO 4 (.assign (.t 21))])
(.ret)) (.skip)))
(.seq (.region false [] [
 oO 22 (.faddr 20 (.t 2) 2),
 oO 23 (.load 2 (.t 22)),
 oO 24 (.faddr 20 (.t 3) 2),
 oO 25 (.load 2 (.t 24)),
 oO 26 (.bin .lss 2 (.t 23) (.t 25)),
 oO 4 (.assign (.t 26))])
(.ret))))⟩

def f82 : DFn := ⟨131, [.tmp 4],
    .seq (.region false [] [
 oO 2 (.box 0 (.t 0)),
 oO 3 (.box 15 (.t 1)),
 oO 4 (.assign (.c (.bool false)))])
(.seq (.seq (.region false [] [
 oO 10 (.faddr 15 (.t 3) 2),
 oO 11 (.load 6 (.t 10)),
 oO 12 (.len 6 (.t 11)),
 oO 13 (.bin .lss 2 (.t 12) (.c (.int .i64 1))),
 oM 14 13,
⟨(some 15), .faddr 15 (.t 3) 3, (some (14, false))⟩,
⟨(some 16), .load 16 (.t 15), (some (14, false))⟩,
⟨(some 17), .len 16 (.t 16), (some (14, false))⟩,
⟨(some 18), .bin .lss 2 (.t 17) (.c (.int .i64 1)), (some (14, false))⟩,
 oO 19 (.pick (.t 14) (.c (.bool true)) (.t 18)),
 oM 20 19,
⟨(some 21), .faddr 15 (.t 3) 3, (some (20, false))⟩,
⟨(some 22), .load 16 (.t 21), (some (20, false))⟩,
⟨(some 23), .len 16 (.t 22), (some (20, false))⟩,
⟨(some 24), .bin .gtr 2 (.t 23) (.c (.int .i64 96)), (some (20, false))⟩,
 oO 25 (.pick (.t 20) (.c (.bool true)) (.t 24))])
(.cond (.t 25) (.seq (.region false [] [
 oO 4 (.assign (.c (.bool false)))])
(.ret)) (.skip)))
(.seq (.seq (.region false [] [
 oO 5 (.assign (.c (.int .i64 0)))])
(.block 0 (.loop (.seq (.seq (.region false [] [
 oM 26 5,
 oO 27 (.faddr 15 (.t 3) 2),
 oO 28 (.load 6 (.t 27)),
 oO 29 (.len 6 (.t 28)),
 oO 30 (.bin .lss 2 (.t 26) (.t 29))])
(.cond (.t 30) (.skip) (.exit 0)))
(.seq (.block 1 (.seq (.region true [] [
 oO 33 (.faddr 15 (.t 3) 2),
 oO 34 (.load 6 (.t 33)),
 oM 35 5,
 oO 36 (.iaddr 6 (.t 34) (.t 35)),
 oO 37 (.load 2 (.t 36)),
 oO 38 (.faddr 0 (.t 2) 1),
 oO 39 (.load 9 (.t 38)),
 oO 40 (.len 9 (.t 39)),
 oO 41 (.bin .sub 2 (.t 40) (.c (.int .i64 1))),
 oO 42 (.call 0 (.f 79) [(.t 37), (.c (.int .i64 0)), (.t 41)]),
 oO 43 (.un .not (.t 42)),
 oM 44 43,
⟨(some 45), .move (.t 5), (some (44, false))⟩,
⟨(some 46), .bin .gtr 2 (.t 45) (.c (.int .i64 0)), (some (44, false))⟩,
⟨(some 47), .move (.t 46), (some (44, false))⟩,
⟨(some 48), .faddr 15 (.t 3) 2, (some (47, true))⟩,
⟨(some 49), .load 6 (.t 48), (some (47, true))⟩,
⟨(some 50), .move (.t 5), (some (47, true))⟩,
⟨(some 51), .bin .sub 2 (.t 50) (.c (.int .i64 1)), (some (47, true))⟩,
⟨(some 52), .iaddr 6 (.t 49) (.t 51), (some (47, true))⟩,
⟨(some 53), .load 2 (.t 52), (some (47, true))⟩,
⟨(some 54), .faddr 15 (.t 3) 2, (some (47, true))⟩,
⟨(some 55), .load 6 (.t 54), (some (47, true))⟩,
⟨(some 56), .move (.t 5), (some (47, true))⟩,
⟨(some 57), .iaddr 6 (.t 55) (.t 56), (some (47, true))⟩,
⟨(some 58), .load 2 (.t 57), (some (47, true))⟩,
⟨(some 59), .bin .geq 2 (.t 53) (.t 58), (some (47, true))⟩,
⟨(some 60), .pick (.t 47) (.t 59) (.c (.bool false)), (some (44, false))⟩,
 oO 61 (.pick (.t 44) (.c (.bool true)) (.t 60))])
(.cond (.t 61) (.seq (.region false [] [
 oO 4 (.assign (.c (.bool false)))])
(.ret)) (.skip))))
(.region false [] [
 oM 31 5,
 oO 32 (.bin .add 2 (.t 31) (.c (.int .i64 1))),
 oO 5 (.assign (.t 32))]))))))
(.seq (.seq (.region false [] [
 oO 6 (.assign (.c (.int .i64 0)))])
(.block 2 (.loop (.seq (.seq (.region false [] [
 oM 62 6,
 oO 63 (.faddr 15 (.t 3) 3),
 oO 64 (.load 16 (.t 63)),
 oO 65 (.len 16 (.t 64)),
 oO 66 (.bin .lss 2 (.t 62) (.t 65))])
(.cond (.t 66) (.skip) (.exit 2)))
(.seq (.block 3 (.seq (.region false [] [
 oO 69 (.faddr 15 (.t 3) 3),
 oO 70 (.load 16 (.t 69)),
 oM 71 6,
 oO 72 (.iaddr 16 (.t 70) (.t 71)),
 oO 73 (.load 17 (.t 72)),
 oO 7 (.alloc 17),
 oE (.store 17 (.t 7) (.t 73))])
(.seq (.seq (.region false [] [
 oO 74 (.faddr 17 (.t 7) 0),
 oO 75 (.load 2 (.t 74)),
 oO 76 (.call 0 (.f 79) [(.t 75), (.c (.int .i64 0)), (.c (.int .i64 1048576))]),
 oO 77 (.un .not (.t 76)),
 oM 78 77,
⟨(some 79), .faddr 17 (.t 7) 1, (some (78, false))⟩,
⟨(some 80), .load 2 (.t 79), (some (78, false))⟩,
⟨(some 81), .call 0 (.f 79) [(.t 80), (.c (.int .i64 0)), (.c (.int .i64 1048576))], (some (78, false))⟩,
⟨(some 82), .un .not (.t 81), (some (78, false))⟩,
 oO 83 (.pick (.t 78) (.c (.bool true)) (.t 82)),
 oM 84 83,
⟨(some 85), .faddr 17 (.t 7) 2, (some (84, false))⟩,
⟨(some 86), .load 2 (.t 85), (some (84, false))⟩,
⟨(some 87), .call 0 (.f 79) [(.t 86), (.c (.int .i64 0)), (.c (.int .i64 1048576))], (some (84, false))⟩,
⟨(some 88), .un .not (.t 87), (some (84, false))⟩,
 oO 89 (.pick (.t 84) (.c (.bool true)) (.t 88))])
(.cond (.t 89) (.seq (.region false [] [
 oO 4 (.assign (.c (.bool false)))])
(.ret)) (.skip)))
(.seq (.region false [] [
 oO 8 (.assign (.c (.int .i64 0)))])
(.block 4 (.loop (.seq (.seq (.region false [] [
 oM 90 8,
 oO 91 (.faddr 17 (.t 7) 3),
 oO 92 (.load 18 (.t 91)),
 oO 93 (.len 18 (.t 92)),
 oO 94 (.bin .lss 2 (.t 90) (.t 93))])
(.cond (.t 94) (.skip) (.exit 4)))
(.seq (.block 5 (.seq (.region false [] [
 oO 97 (.faddr 17 (.t 7) 3),
 oO 98 (.load 18 (.t 97)),
 oM 99 8,
 oO 100 (.iaddr 18 (.t 98) (.t 99)),
 oO 101 (.load 19 (.t 100)),
 oO 9 (.alloc 19),
 oE (.store 19 (.t 9) (.t 101))])
(.seq (.region true [] [
 oO 102 (.faddr 0 (.t 2) 0),
 oO 103 (.load 10 (.t 102)),
 oO 104 (.faddr 19 (.t 9) 0),
 oO 105 (.load 20 (.t 104)),
 oO 106 (.call 0 (.f 109) [(.t 103), (.t 105)]),
 oO 107 (.bin .lss 2 (.t 106) (.c (.int .i64 0))),
 oM 108 107,
⟨(some 109), .faddr 19 (.t 9) 1, (some (108, false))⟩,
⟨(some 110), .load 2 (.t 109), (some (108, false))⟩,
⟨(some 111), .call 0 (.f 79) [(.t 110), (.c (.int .i64 1)), (.c (.int .i64 8))], (some (108, false))⟩,
⟨(some 112), .un .not (.t 111), (some (108, false))⟩,
 oO 113 (.pick (.t 108) (.c (.bool true)) (.t 112)),
 oM 114 113,
⟨(some 115), .move (.t 8), (some (114, false))⟩,
⟨(some 116), .bin .gtr 2 (.t 115) (.c (.int .i64 0)), (some (114, false))⟩,
⟨(some 117), .move (.t 116), (some (114, false))⟩,
⟨(some 118), .faddr 17 (.t 7) 3, (some (117, true))⟩,
⟨(some 119), .load 18 (.t 118), (some (117, true))⟩,
⟨(some 120), .move (.t 8), (some (117, true))⟩,
⟨(some 121), .bin .sub 2 (.t 120) (.c (.int .i64 1)), (some (117, true))⟩,
⟨(some 122), .iaddr 18 (.t 119) (.t 121), (some (117, true))⟩,
⟨(some 123), .faddr 19 (.t 122) 0, (some (117, true))⟩,
⟨(some 124), .load 20 (.t 123), (some (117, true))⟩,
⟨(some 125), .faddr 19 (.t 9) 0, (some (117, true))⟩,
⟨(some 126), .load 20 (.t 125), (some (117, true))⟩,
⟨(some 127), .call 0 (.f 81) [(.t 124), (.t 126)], (some (117, true))⟩,
⟨(some 128), .un .not (.t 127), (some (117, true))⟩,
⟨(some 129), .pick (.t 117) (.t 128) (.c (.bool false)), (some (114, false))⟩,
 oO 130 (.pick (.t 114) (.c (.bool true)) (.t 129))])
(.cond (.t 130) (.seq (.region false [] [
 oO 4 (.assign (.c (.bool false)))])
(.ret)) (.skip)))))
(.region false [] [
 oM 95 8,
 oO 96 (.bin .add 2 (.t 95) (.c (.int .i64 1))),
 oO 8 (.assign (.t 96))])))))))))
(.region false [] [
 oM 67 6,
 oO 68 (.bin .add 2 (.t 67) (.c (.int .i64 1))),
 oO 6 (.assign (.t 68))]))))))
(.seq (.region false [] [
 oO 4 (.assign (.c (.bool true)))])
(.ret)))))⟩

def f83 : DFn := ⟨18, [.tmp 4],
    .seq (.region false [] [
 oO 2 (.box 0 (.t 0)),
 oO 4 (.assign (.c (.int .i64 0)))])
(.seq (.seq (.region false [] [
 oO 6 (.load 0 (.t 2)),
 oM 7 1,
 oO 8 (.call 0 (.f 66) [(.t 6), (.t 7)]),
 oO 5 (.assign (.t 8))])
(.seq (.region false [] [
 oM 9 5,
 oO 10 (.bin .neq 3 (.t 9) (.c (.int .i64 0)))])
(.cond (.t 10) (.seq (.region false [] [
 oM 11 5,
 oO 4 (.assign (.t 11))])
(.ret)) (.skip))))
(.seq (.seq (.region false [] [
 oM 12 1,
 oO 13 (.len 6 (.t 12)),
 oO 14 (.faddr 0 (.t 2) 2),
 oO 15 (.load 14 (.t 14)),
 oO 16 (.len 14 (.t 15)),
 oO 17 (.bin .neq 2 (.t 13) (.t 16))])
(.cond (.t 17) (.seq (.region false [] [
 oO 4 (.assign (.c (.int .i64 270)))])
(.ret)) (.skip)))
(.seq (.region false [] [
 oO 4 (.assign (.c (.int .i64 0)))])
(.ret))))⟩

def f84 : DFn := ⟨6, [.tmp 4],
    .seq (.region false [] [
 oO 2 (.box 0 (.t 0)),
 oO 3 (.box 6 (.t 1)),
 oO 4 (.assign (.c .nilfn))])
(.seq (.region false [] [
 oO 5 (.mkfn 110 [(.t 2), (.t 3)]),
 oO 4 (.assign (.t 5))])
(.ret))⟩

def f85 : DFn := ⟨43, [.tmp 4],
    .seq (.region false [] [
 oO 2 (.box 0 (.t 0)),
 oO 4 (.assign (.c (.int .i64 0)))])
(.seq (.region false [] [
 oO 5 (.assign (.c (.int .i64 0)))])
(.seq (.seq (.region false [] [
 oO 6 (.assign (.c (.int .i64 0)))])
(.block 0 (.loop (.seq (.seq (.region false [] [
 oM 9 6,
 oO 10 (.faddr 0 (.t 2) 1),
 oO 11 (.load 9 (.t 10)),
 oO 12 (.len 9 (.t 11)),
 oO 13 (.bin .lss 2 (.t 9) (.t 12))])
(.cond (.t 13) (.skip) (.exit 0)))
(.seq (.block 1 (.seq (.region false [] [
 oO 16 (.load 0 (.t 2)),
 oM 17 1,
 oM 18 6,
 oO 19 (.call 0 (.f 80) [(.t 16), (.t 17), (.t 18)]),
 oO 7 (.assign (.t 19))])
(.seq (.region false [] [
 oO 8 (.assign (.c (.int .i64 0)))])
(.block 2 (.loop (.seq (.seq (.region false [] [
 oM 20 8,
 oM 21 7,
 oO 22 (.len 6 (.t 21)),
 oO 23 (.bin .lss 2 (.t 20) (.t 22))])
(.cond (.t 23) (.skip) (.exit 2)))
(.seq (.block 3 (.region true [] [
 oM 26 5,
 oM 27 7,
 oM 28 8,
 oO 29 (.iaddr 6 (.t 27) (.t 28)),
 oO 30 (.load 2 (.t 29)),
 oO 31 (.faddr 0 (.t 2) 1),
 oO 32 (.load 9 (.t 31)),
 oM 33 6,
 oO 34 (.iaddr 9 (.t 32) (.t 33)),
 oO 35 (.load 6 (.t 34)),
 oM 36 8,
 oO 37 (.iaddr 6 (.t 35) (.t 36)),
 oO 38 (.load 2 (.t 37)),
 oO 39 (.bin .sub 2 (.t 30) (.t 38)),
 oO 40 (.maxi [(.c (.int .i64 0)), (.t 39)]),
 oO 41 (.bin .add 2 (.t 26) (.t 40)),
 oO 5 (.assign (.t 41))]))
(.region false [] [
 oM 24 8,
 oO 25 (.bin .add 2 (.t 24) (.c (.int .i64 1))),
 oO 8 (.assign (.t 25))]))))))))
(.region false [] [
 oM 14 6,
 oO 15 (.bin .add 2 (.t 14) (.c (.int .i64 1))),
 oO 6 (.assign (.t 15))]))))))
(.seq (.region false [] [
 oM 42 5,
 oO 4 (.assign (.t 42))])
(.ret))))⟩

def f87 : DFn := ⟨36, [.tmp 4],
    .seq (.region false [] [
 oO 4 (.assign (.c (.int .i64 0)))])
(.seq (.seq (.region false [] [
 oM 9 0,
 oO 10 (.len 6 (.t 9)),
 oO 11 (.move (.c (.int .i64 0)))])
(.block 0 (.loop (.seq (.region false [] [
 oO 12 (.bin .lss 2 (.t 11) (.t 10))])
(.seq (.cond (.t 12) (.skip) (.exit 0))
(.seq (.block 1 (.seq (.region false [] [
 oM 13 11,
 oO 14 (.iaddr 6 (.t 9) (.t 11)),
 oO 15 (.load 2 (.t 14)),
 oO 5 (.assign (.t 13)),
 oO 6 (.assign (.t 15))])
(.seq (.seq (.region false [] [
 oM 16 5,
 oM 17 1,
 oO 18 (.len 6 (.t 17)),
 oO 19 (.bin .geq 2 (.t 16) (.t 18))])
(.cond (.t 19) (.seq (.region false [] [
 oO 4 (.assign (.c (.int .i64 1)))])
(.ret)) (.skip)))
(.seq (.region false [] [
 oM 20 1,
 oM 21 5,
 oO 22 (.iaddr 6 (.t 20) (.t 21)),
 oO 23 (.load 2 (.t 22)),
 oO 7 (.assign (.t 23))])
(.seq (.region false [] [
 oM 24 6,
 oM 25 7,
 oO 26 (.call 0 (.f 74) [(.t 24), (.t 25)]),
 oO 8 (.assign (.t 26))])
(.seq (.region false [] [
 oM 27 8,
 oO 28 (.bin .neq 2 (.t 27) (.c (.int .i64 0)))])
(.cond (.t 28) (.seq (.region false [] [
 oM 29 8,
 oO 4 (.assign (.t 29))])
(.ret)) (.skip))))))))
(.region false [] [
 oO 30 (.bin .add 2 (.t 11) (.c (.int .i64 1))),
 oM 11 30])))))))
(.seq (.seq (.region false [] [
 oM 31 0,
 oO 32 (.len 6 (.t 31)),
 oM 33 1,
 oO 34 (.len 6 (.t 33)),
 oO 35 (.bin .lss 2 (.t 32) (.t 34))])
(.cond (.t 35) (.seq (.region false [] [
 oO 4 (.assign (.c (.int .i64 (-1))))])
(.ret)) (.skip)))
(.seq (.region false [] [
 oO 4 (.assign (.c (.int .i64 0)))])
(.ret))))⟩

def f102 : DFn := ⟨43, [],
    .seq (.region false [] [
 oO 7 (.faddr 0 (.t 1) 2),
 oO 8 (.load 14 (.t 7)),
 oO 9 (.len 14 (.t 8)),
 oO 10 (.move (.c (.int .i64 0)))])
(.block 0 (.loop (.seq (.region false [] [
 oO 11 (.bin .lss 2 (.t 10) (.t 9))])
(.seq (.cond (.t 11) (.skip) (.exit 0))
(.seq (.block 1 (.seq (.region false [] [
 oM 12 10,
 oO 13 (.iaddr 14 (.t 8) (.t 10)),
 oO 14 (.load 15 (.t 13)),
 oO 5 (.alloc 15),
 oO 4 (.assign (.t 12)),
 oE (.store 15 (.t 5) (.t 14))])
(.seq (.region true [] [
 oO 15 (.faddr 15 (.t 5) 3),
 oO 16 (.load 16 (.t 15)),
 oO 17 (.iaddr 16 (.t 16) (.c (.int .i64 0))),
 oO 18 (.load 17 (.t 17)),
 oO 19 (.faddr 15 (.t 5) 3),
 oO 20 (.load 16 (.t 19)),
 oO 21 (.slice 16 (.t 20) (some (.c (.int .i64 1))) none none),
 oO 22 (.call 0 (.f 122) [(.t 18), (.t 21)]),
 oO 6 (.alloc 17),
 oE (.store 17 (.t 6) (.t 22))])
(.seq (.seq (.region false [] [
 oM 23 4,
 oO 24 (.load 1 (.t 2)),
 oO 25 (.len 1 (.t 24)),
 oO 26 (.bin .lss 2 (.t 23) (.t 25))])
(.cond (.t 26) (.region true [] [
 oO 27 (.faddr 15 (.t 5) 3),
 oO 28 (.load 16 (.t 27)),
 oO 29 (.load 1 (.t 2)),
 oM 30 4,
 oO 31 (.iaddr 1 (.t 29) (.t 30)),
 oO 32 (.load 2 (.t 31)),
 oO 33 (.iaddr 16 (.t 28) (.t 32)),
 oO 34 (.load 17 (.t 33)),
 oE (.store 17 (.t 6) (.t 34))]) (.skip)))
(.seq (.region false [] [
 oM 35 0,
 oO 36 (.faddr 15 (.t 5) 2),
 oO 37 (.load 6 (.t 36)),
 oO 38 (.len 6 (.t 37)),
 oO 39 (.load 17 (.t 6)),
 oO 40 (.call 2 (.t 35) [(.t 38), (.t 39)]),
 oO 41 (.un .not (.t 40))])
(.cond (.t 41) (.ret) (.skip)))))))
(.region false [] [
 oO 42 (.bin .add 2 (.t 10) (.c (.int .i64 1))),
 oM 10 42]))))))⟩

def f103 : DFn := ⟨37, [.tmp 4],
    .seq (.region false [] [
 oO 2 (.box 0 (.t 0)),
 oO 4 (.assign (.c (.bool false)))])
(.seq (.seq (.region false [] [
 oM 6 1,
 oO 7 (.len 1 (.t 6)),
 oO 8 (.faddr 0 (.t 2) 2),
 oO 9 (.load 14 (.t 8)),
 oO 10 (.len 14 (.t 9)),
 oO 11 (.bin .gtr 2 (.t 7) (.t 10))])
(.cond (.t 11) (.seq (.region false [] [
 oO 4 (.assign (.c (.bool false)))])
(.ret)) (.skip)))
(.seq (.seq (.region false [] [
 oO 5 (.assign (.c (.int .i64 0)))])
(.block 0 (.loop (.seq (.seq (.region false [] [
 oM 12 5,
 oM 13 1,
 oO 14 (.len 1 (.t 13)),
 oO 15 (.bin .lss 2 (.t 12) (.t 14))])
(.cond (.t 15) (.skip) (.exit 0)))
(.seq (.block 1 (.seq (.region true [] [
 oM 18 1,
 oM 19 5,
 oO 20 (.iaddr 1 (.t 18) (.t 19)),
 oO 21 (.load 2 (.t 20)),
 oO 22 (.bin .lss 2 (.t 21) (.c (.int .i64 0))),
 oM 23 22,
⟨(some 24), .move (.t 1), (some (23, false))⟩,
⟨(some 25), .move (.t 5), (some (23, false))⟩,
⟨(some 26), .iaddr 1 (.t 24) (.t 25), (some (23, false))⟩,
⟨(some 27), .load 2 (.t 26), (some (23, false))⟩,
⟨(some 28), .faddr 0 (.t 2) 2, (some (23, false))⟩,
⟨(some 29), .load 14 (.t 28), (some (23, false))⟩,
⟨(some 30), .move (.t 5), (some (23, false))⟩,
⟨(some 31), .iaddr 14 (.t 29) (.t 30), (some (23, false))⟩,
⟨(some 32), .faddr 15 (.t 31) 3, (some (23, false))⟩,
⟨(some 33), .load 16 (.t 32), (some (23, false))⟩,
⟨(some 34), .len 16 (.t 33), (some (23, false))⟩,
⟨(some 35), .bin .geq 2 (.t 27) (.t 34), (some (23, false))⟩,
 oO 36 (.pick (.t 23) (.c (.bool true)) (.t 35))])
(.cond (.t 36) (.seq (.region false [] [
 oO 4 (.assign (.c (.bool false)))])
(.ret)) (.skip))))
(.region false [] [
 oM 16 5,
 oO 17 (.bin .add 2 (.t 16) (.c (.int .i64 1))),
 oO 5 (.assign (.t 17))]))))))
(.seq (.region false [] [
 oO 4 (.assign (.c (.bool true)))])
(.ret))))⟩

def f104 : DFn := ⟨6, [.tmp 4],
    .seq (.region false [] [
 oO 2 (.box 0 (.t 0)),
 oO 3 (.box 6 (.t 1)),
 oO 4 (.assign (.c .nilfn))])
(.seq (.region false [] [
 oO 5 (.mkfn 123 [(.t 3), (.t 2)]),
 oO 4 (.assign (.t 5))])
(.ret))⟩

def f105 : DFn := ⟨18, [.tmp 2],
    .seq (.region false [] [
 oO 2 (.assign (.c (.int .i64 0)))])
(.seq (.region false [] [
 oO 3 (.assign (.c (.int .i64 0)))])
(.seq (.seq (.region false [] [
 oM 6 0,
 oO 7 (.len 6 (.t 6)),
 oO 8 (.move (.c (.int .i64 0)))])
(.block 0 (.loop (.seq (.region false [] [
 oO 9 (.bin .lss 2 (.t 8) (.t 7))])
(.seq (.cond (.t 9) (.skip) (.exit 0))
(.seq (.block 1 (.seq (.region false [] [
 oO 10 (.iaddr 6 (.t 6) (.t 8)),
 oO 11 (.load 2 (.t 10)),
 oO 5 (.assign (.t 11))])
(.seq (.region false [] [
 oM 12 5,
 oM 13 3,
 oO 14 (.bin .neq 2 (.t 12) (.t 13))])
(.cond (.t 14) (.seq (.region false [] [
 oM 15 5,
 oO 2 (.assign (.t 15))])
(.ret)) (.skip)))))
(.region false [] [
 oO 16 (.bin .add 2 (.t 8) (.c (.int .i64 1))),
 oM 8 16])))))))
(.seq (.region false [] [
 oM 17 3,
 oO 2 (.assign (.t 17))])
(.ret))))⟩

def f106 : DFn := ⟨19, [.tmp 4],
    .seq (.region false [] [
 oO 4 (.assign (.c (.int .i64 0)))])
(.seq (.seq (.region false [] [
 oM 6 0,
 oO 7 (.len 6 (.t 6)),
 oO 8 (.move (.c (.int .i64 0)))])
(.block 0 (.loop (.seq (.region false [] [
 oO 9 (.bin .lss 2 (.t 8) (.t 7))])
(.seq (.cond (.t 9) (.skip) (.exit 0))
(.seq (.block 1 (.seq (.region false [] [
 oM 10 8,
 oO 5 (.assign (.t 10))])
(.seq (.region false [] [
 oM 11 1,
 oM 12 0,
 oM 13 5,
 oO 14 (.iaddr 6 (.t 12) (.t 13)),
 oO 15 (.load 2 (.t 14)),
 oO 16 (.call 0 (.t 11) [(.t 15)])])
(.cond (.t 16) (.seq (.region false [] [
 oM 17 5,
 oO 4 (.assign (.t 17))])
(.ret)) (.skip)))))
(.region false [] [
 oO 18 (.bin .add 2 (.t 8) (.c (.int .i64 1))),
 oM 8 18])))))))
(.seq (.region false [] [
 oO 4 (.assign (.c (.int .i64 (-1))))])
(.ret)))⟩

def f107 : DFn := ⟨6, [.tmp 2],
    .seq (.region false [] [
 oO 2 (.assign (.c (.bool false)))])
(.seq (.region false [] [
 oM 3 0,
 oM 4 0,
 oO 5 (.bin .neq 2 (.t 3) (.t 4)),
 oO 2 (.assign (.t 5))])
(.ret))⟩

def f108 : DFn := ⟨20, [.tmp 4],
    .seq (.region false [] [
 oO 2 (.box 15 (.t 0)),
 oO 4 (.assign (.c (.bool false)))])
(.seq (.seq (.region false [] [
 oO 5 (.assign (.c (.int .i64 0)))])
(.block 0 (.loop (.seq (.seq (.region false [] [
 oM 6 5,
 oO 7 (.faddr 15 (.t 2) 2),
 oO 8 (.load 6 (.t 7)),
 oO 9 (.len 6 (.t 8)),
 oO 10 (.bin .lss 2 (.t 6) (.t 9))])
(.cond (.t 10) (.skip) (.exit 0)))
(.seq (.block 1 (.seq (.region false [] [
 oO 13 (.faddr 15 (.t 2) 2),
 oO 14 (.load 6 (.t 13)),
 oM 15 5,
 oO 16 (.iaddr 6 (.t 14) (.t 15)),
 oO 17 (.load 2 (.t 16)),
 oM 18 1,
 oO 19 (.bin .eql 2 (.t 17) (.t 18))])
(.cond (.t 19) (.seq (.region false [] [
 oO 4 (.assign (.c (.bool true)))])
(.ret)) (.skip))))
(.region false [] [
 oM 11 5,
 oO 12 (.bin .add 2 (.t 11) (.c (.int .i64 1))),
 oO 5 (.assign (.t 12))]))))))
(.seq (.region false [] [
 oO 4 (.assign (.c (.bool false)))])
(.ret)))⟩

def f109 : DFn := ⟨19, [.tmp 4],
    .seq (.region false [] [
 oO 3 (.box 20 (.t 1)),
 oO 4 (.assign (.c (.int .i64 0)))])
(.seq (.seq (.region false [] [
 oO 5 (.assign (.c (.int .i64 0)))])
(.block 0 (.loop (.seq (.seq (.region false [] [
 oM 6 5,
 oM 7 0,
 oO 8 (.len 10 (.t 7)),
 oO 9 (.bin .lss 2 (.t 6) (.t 8))])
(.cond (.t 9) (.skip) (.exit 0)))
(.seq (.block 1 (.seq (.region true [] [
 oM 12 0,
 oM 13 5,
 oO 14 (.iaddr 10 (.t 12) (.t 13)),
 oO 15 (.load 20 (.t 14)),
 oO 16 (.load 20 (.t 3)),
 oO 17 (.bin .eql 20 (.t 15) (.t 16))])
(.cond (.t 17) (.seq (.region false [] [
 oM 18 5,
 oO 4 (.assign (.t 18))])
(.ret)) (.skip))))
(.region false [] [
 oM 10 5,
 oO 11 (.bin .add 2 (.t 10) (.c (.int .i64 1))),
 oO 5 (.assign (.t 11))]))))))
(.seq (.region false [] [
 oO 4 (.assign (.c (.int .i64 (-1))))])
(.ret)))⟩

def f110 : DFn := ⟨48, [],
    .seq (.region false [] [
 oO 9 (.load 0 (.t 1)),
 oO 10 (.load 6 (.t 2)),
 oO 11 (.call 0 (.f 68) [(.t 9), (.t 10)]),
 oO 12 (.len 9 (.t 11)),
 oO 13 (.move (.c (.int .i64 0)))])
(.block 0 (.loop (.seq (.region false [] [
 oO 14 (.bin .lss 2 (.t 13) (.t 12))])
(.seq (.cond (.t 14) (.skip) (.exit 0))
(.seq (.block 1 (.seq (.region false [] [
 oM 15 13,
 oO 16 (.iaddr 9 (.t 11) (.t 13)),
 oO 17 (.load 6 (.t 16)),
 oO 4 (.assign (.t 15)),
 oO 5 (.assign (.t 17))])
(.seq (.region false [] [
 oM 18 5,
 oO 19 (.len 6 (.t 18)),
 oO 20 (.move (.c (.int .i64 0)))])
(.block 2 (.loop (.seq (.region false [] [
 oO 21 (.bin .lss 2 (.t 20) (.t 19))])
(.seq (.cond (.t 21) (.skip) (.exit 2))
(.seq (.block 3 (.seq (.region false [] [
 oM 22 20,
 oO 23 (.iaddr 6 (.t 18) (.t 20)),
 oO 24 (.load 2 (.t 23)),
 oO 6 (.assign (.t 22)),
 oO 7 (.assign (.t 24))])
(.seq (.region false [] [
 oM 25 7,
 oO 26 (.faddr 0 (.t 1) 1),
 oO 27 (.load 9 (.t 26)),
 oM 28 4,
 oO 29 (.iaddr 9 (.t 27) (.t 28)),
 oO 30 (.load 6 (.t 29)),
 oM 31 6,
 oO 32 (.iaddr 6 (.t 30) (.t 31)),
 oO 33 (.load 2 (.t 32)),
 oO 34 (.bin .sub 2 (.t 25) (.t 33)),
 oO 8 (.assign (.t 34))])
(.seq (.region false [] [
 oM 35 8,
 oO 36 (.bin .gtr 2 (.t 35) (.c (.int .i64 0))),
 oM 37 36,
⟨(some 38), .move (.t 0), (some (37, true))⟩,
⟨(some 39), .move (.t 4), (some (37, true))⟩,
⟨(some 40), .move (.t 6), (some (37, true))⟩,
⟨(some 41), .build 11 [(0, (.t 39)), (1, (.t 40))], (some (37, true))⟩,
⟨(some 42), .move (.t 8), (some (37, true))⟩,
⟨(some 43), .call 2 (.t 38) [(.t 41), (.t 42)], (some (37, true))⟩,
⟨(some 44), .un .not (.t 43), (some (37, true))⟩,
 oO 45 (.pick (.t 37) (.t 44) (.c (.bool false)))])
(.cond (.t 45) (.ret) (.skip))))))
(.region false [] [
 oO 46 (.bin .add 2 (.t 20) (.c (.int .i64 1))),
 oM 20 46])))))))))
(.region false [] [
 oO 47 (.bin .add 2 (.t 13) (.c (.int .i64 1))),
 oM 13 47]))))))⟩

def f111 : DFn := ⟨30, [.tmp 4],
    .seq (.region false [] [
 oO 4 (.assign (.c (.int .i64 0)))])
(.seq (.seq (.region false [] [
 oO 5 (.assign (.c (.int .i64 0)))])
(.block 0 (.loop (.seq (.seq (.region false [] [
 oM 6 5,
 oM 7 0,
 oO 8 (.len 6 (.t 7)),
 oO 9 (.bin .lss 2 (.t 6) (.t 8))])
(.cond (.t 9) (.skip) (.exit 0)))
(.seq (.block 1 (.seq (.seq (.region true [] [
 oM 12 0,
 oM 13 5,
 oO 14 (.iaddr 6 (.t 12) (.t 13)),
 oO 15 (.load 2 (.t 14)),
 oM 16 1,
 oM 17 5,
 oO 18 (.iaddr 6 (.t 16) (.t 17)),
 oO 19 (.load 2 (.t 18)),
 oO 20 (.bin .lss 2 (.t 15) (.t 19))])
(.cond (.t 20) (.seq (.region false [] [
 oO 4 (.assign (.c (.int .i64 (-1))))])
(.ret)) (.skip)))
(.seq (.region true [] [
 oM 21 0,
 oM 22 5,
 oO 23 (.iaddr 6 (.t 21) (.t 22)),
 oO 24 (.load 2 (.t 23)),
 oM 25 1,
 oM 26 5,
 oO 27 (.iaddr 6 (.t 25) (.t 26)),
 oO 28 (.load 2 (.t 27)),
 oO 29 (.bin .gtr 2 (.t 24) (.t 28))])
(.cond (.t 29) (.seq (.region false [] [
 oO 4 (.assign (.c (.int .i64 1)))])
(.ret)) (.skip)))))
(.region false [] [
 oM 10 5,
 oO 11 (.bin .add 2 (.t 10) (.c (.int .i64 1))),
 oO 5 (.assign (.t 11))]))))))
(.seq (.region false [] [
 oO 4 (.assign (.c (.int .i64 0)))])
(.ret)))⟩

def f122 : DFn := ⟨33, [.cell 4 17],
    .seq (.region false [] [
 oO 2 (.box 17 (.t 0)),
 oO 4 (.alloc 17)])
(.seq (.seq (.region false [] [
 oM 7 1,
 oO 8 (.len 16 (.t 7)),
 oO 9 (.move (.c (.int .i64 0)))])
(.block 0 (.loop (.seq (.region false [] [
 oO 10 (.bin .lss 2 (.t 9) (.t 8))])
(.seq (.cond (.t 10) (.skip) (.exit 0))
(.seq (.block 1 (.seq (.region false [] [
 oO 11 (.iaddr 16 (.t 7) (.t 9)),
 oO 12 (.load 17 (.t 11)),
 oO 6 (.alloc 17),
 oE (.store 17 (.t 6) (.t 12))])
(.seq (.region false [] [
 oO 13 (.faddr 17 (.t 2) 0),
 oO 14 (.load 2 (.t 13)),
 oO 15 (.faddr 17 (.t 6) 0),
 oO 16 (.load 2 (.t 15)),
 oO 17 (.mini [(.t 14), (.t 16)]),
 oO 18 (.faddr 17 (.t 2) 0),
 oE (.store 2 (.t 18) (.t 17))])
(.seq (.region false [] [
 oO 19 (.faddr 17 (.t 2) 1),
 oO 20 (.load 2 (.t 19)),
 oO 21 (.faddr 17 (.t 6) 1),
 oO 22 (.load 2 (.t 21)),
 oO 23 (.mini [(.t 20), (.t 22)]),
 oO 24 (.faddr 17 (.t 2) 1),
 oE (.store 2 (.t 24) (.t 23))])
(.region false [] [
 oO 25 (.faddr 17 (.t 2) 2),
 oO 26 (.load 2 (.t 25)),
 oO 27 (.faddr 17 (.t 6) 2),
 oO 28 (.load 2 (.t 27)),
 oO 29 (.mini [(.t 26), (.t 28)]),
 oO 30 (.faddr 17 (.t 2) 2),
 oE (.store 2 (.t 30) (.t 29))])))))
(.region false [] [
 oO 31 (.bin .add 2 (.t 9) (.c (.int .i64 1))),
 oM 9 31])))))))
(.seq (.region false [] [
 oO 32 (.load 17 (.t 2)),
 oE (.store 17 (.t 4) (.t 32))])
(.ret)))⟩

def f123 : DFn := ⟨51, [],
    .seq (.region false [] [
 oO 10 (.load 6 (.t 1)),
 oO 11 (.len 6 (.t 10)),
 oO 12 (.move (.c (.int .i64 0)))])
(.block 0 (.loop (.seq (.region false [] [
 oO 13 (.bin .lss 2 (.t 12) (.t 11))])
(.seq (.cond (.t 13) (.skip) (.exit 0))
(.seq (.block 1 (.seq (.region false [] [
 oM 14 12,
 oO 15 (.iaddr 6 (.t 10) (.t 12)),
 oO 16 (.load 2 (.t 15)),
 oO 4 (.assign (.t 14)),
 oO 5 (.assign (.t 16))])
(.seq (.region false [] [
 oO 17 (.faddr 0 (.t 2) 2),
 oO 18 (.load 14 (.t 17)),
 oM 19 4,
 oO 20 (.iaddr 14 (.t 18) (.t 19)),
 oO 21 (.faddr 15 (.t 20) 2),
 oO 22 (.load 6 (.t 21)),
 oO 23 (.len 6 (.t 22)),
 oO 24 (.move (.c (.int .i64 0)))])
(.block 2 (.loop (.seq (.region false [] [
 oO 25 (.bin .lss 2 (.t 24) (.t 23))])
(.seq (.cond (.t 25) (.skip) (.exit 2))
(.seq (.block 3 (.seq (.region false [] [
 oO 26 (.iaddr 6 (.t 22) (.t 24)),
 oO 27 (.load 2 (.t 26)),
 oO 7 (.assign (.t 27))])
(.seq (.region false [] [
 oO 28 (.faddr 0 (.t 2) 2),
 oO 29 (.load 14 (.t 28)),
 oM 30 4,
 oO 31 (.iaddr 14 (.t 29) (.t 30)),
 oO 32 (.faddr 15 (.t 31) 3),
 oO 33 (.load 16 (.t 32)),
 oM 34 5,
 oO 35 (.iaddr 16 (.t 33) (.t 34)),
 oO 36 (.faddr 17 (.t 35) 3),
 oO 37 (.load 18 (.t 36)),
 oO 38 (.len 18 (.t 37)),
 oO 39 (.move (.c (.int .i64 0)))])
(.block 4 (.loop (.seq (.region false [] [
 oO 40 (.bin .lss 2 (.t 39) (.t 38))])
(.seq (.cond (.t 40) (.skip) (.exit 4))
(.seq (.block 5 (.seq (.region false [] [
 oO 41 (.iaddr 18 (.t 37) (.t 39)),
 oO 42 (.load 19 (.t 41)),
 oO 9 (.alloc 19),
 oE (.store 19 (.t 9) (.t 42))])
(.seq (.region false [] [
 oM 43 0,
 oM 44 7,
 oO 45 (.load 19 (.t 9)),
 oO 46 (.call 2 (.t 43) [(.t 44), (.t 45)]),
 oO 47 (.un .not (.t 46))])
(.cond (.t 47) (.ret) (.skip)))))
(.region false [] [
 oO 48 (.bin .add 2 (.t 39) (.c (.int .i64 1))),
 oM 39 48])))))))))
(.region false [] [
 oO 49 (.bin .add 2 (.t 24) (.c (.int .i64 1))),
 oM 24 49])))))))))
(.region false [] [
 oO 50 (.bin .add 2 (.t 12) (.c (.int .i64 1))),
 oM 12 50]))))))⟩

def f127 : DFn := ⟨63, [.tmp 4],
    .seq (.region false [] [
 oO 2 (.box 0 (.t 0)),
 oO 3 (.box 28 (.t 1)),
 oO 4 (.assign (.c (.bool false)))])
(.seq (.seq (.region false [] [
 oO 13 (.call 0 (.f 128) []),
 oO 14 (.un .not (.t 13))])
(.cond (.t 14) (.seq (.region false [] [
 oO 4 (.assign (.c (.bool false)))])
(.ret)) (.skip)))
(.seq (.seq (.region false [] [
 oO 15 (.load 0 (.t 2)),
 oO 16 (.call 0 (.f 129) [(.t 15)]),
 oO 17 (.un .not (.t 16)),
 oM 18 17,
⟨(some 19), .load 28 (.t 3), (some (18, false))⟩,
⟨(some 20), .call 0 (.f 130) [(.t 19)], (some (18, false))⟩,
⟨(some 21), .un .not (.t 20), (some (18, false))⟩,
 oO 22 (.pick (.t 18) (.c (.bool true)) (.t 21))])
(.cond (.t 22) (.seq (.region false [] [
 oO 4 (.assign (.c (.bool true)))])
(.ret)) (.skip)))
(.seq (.region false [] [
 oO 24 (.load 0 (.t 2)),
 oO 25 (.call 0 (.f 131) [(.t 24)]),
 oM 23 25,
 oO 26 (.extract (.t 23) 0),
 oO 27 (.extract (.t 23) 1),
 oO 5 (.alloc 29),
 oE (.store 29 (.t 5) (.t 26)),
 oO 6 (.assign (.t 27))])
(.seq (.region false [] [
 oO 29 (.load 0 (.t 2)),
 oO 30 (.call 0 (.f 132) [(.t 29)]),
 oM 28 30,
 oO 31 (.extract (.t 28) 0),
 oO 32 (.extract (.t 28) 1),
 oO 7 (.alloc 29),
 oE (.store 29 (.t 7) (.t 31)),
 oO 8 (.assign (.t 32))])
(.seq (.region false [] [
 oO 34 (.load 0 (.t 2)),
 oO 35 (.load 28 (.t 3)),
 oO 36 (.call 0 (.f 133) [(.t 34), (.t 35)]),
 oM 33 36,
 oO 37 (.extract (.t 33) 0),
 oO 38 (.extract (.t 33) 1),
 oO 9 (.alloc 29),
 oE (.store 29 (.t 9) (.t 37)),
 oO 10 (.assign (.t 38))])
(.seq (.region false [] [
 oO 40 (.load 0 (.t 2)),
 oO 41 (.load 28 (.t 3)),
 oO 42 (.call 0 (.f 134) [(.t 40), (.t 41)]),
 oM 39 42,
 oO 43 (.extract (.t 39) 0),
 oO 44 (.extract (.t 39) 1),
 oO 11 (.alloc 29),
 oE (.store 29 (.t 11) (.t 43)),
 oO 12 (.assign (.t 44))])
(.seq (.region false [] [
 oO 45 (.load 29 (.t 5)),
 oO 46 (.load 29 (.t 7)),
 oO 47 (.call 0 (.f 135) [(.t 45), (.t 46)]),
 oM 48 47,
⟨(some 49), .move (.t 6), (some (48, true))⟩,
⟨(some 50), .move (.t 8), (some (48, true))⟩,
⟨(some 51), .bin .eql 3 (.t 49) (.t 50), (some (48, true))⟩,
 oO 52 (.pick (.t 48) (.t 51) (.c (.bool false))),
 oM 53 52,
⟨(some 54), .load 29 (.t 9), (some (53, true))⟩,
⟨(some 55), .load 29 (.t 11), (some (53, true))⟩,
⟨(some 56), .call 0 (.f 135) [(.t 54), (.t 55)], (some (53, true))⟩,
 oO 57 (.pick (.t 53) (.t 56) (.c (.bool false))),
 oM 58 57,
⟨(some 59), .move (.t 10), (some (58, true))⟩,
⟨(some 60), .move (.t 12), (some (58, true))⟩,
⟨(some 61), .bin .eql 3 (.t 59) (.t 60), (some (58, true))⟩,
 oO 62 (.pick (.t 58) (.t 61) (.c (.bool false))),
 oO 4 (.assign (.t 62))])
(.ret))))))))⟩

def f128 : DFn := ⟨175, [.tmp 0],
    .seq (.region false [] [
 oO 0 (.assign (.c (.bool false)))])
(.seq (.region false [] [
 oO 21 (.call 0 (.f 149) []),
 oO 1 (.alloc 0),
 oE (.store 0 (.t 1) (.t 21))])
(.seq (.region false [] [
 oO 23 (.load 0 (.t 1)),
 oO 24 (.call 0 (.f 139) [(.t 23)]),
 oM 22 24,
 oO 25 (.extract (.t 22) 0),
 oO 26 (.extract (.t 22) 1),
 oO 2 (.alloc 28),
 oE (.store 28 (.t 2) (.t 25)),
 oO 3 (.assign (.t 26))])
(.seq (.region false [] [
 oO 28 (.load 0 (.t 1)),
 oO 29 (.load 28 (.t 2)),
 oO 30 (.call 0 (.f 137) [(.t 28), (.t 29), (.c (.int .i64 0))]),
 oM 27 30,
 oO 31 (.extract (.t 27) 0),
 oO 32 (.extract (.t 27) 1),
 oO 4 (.alloc 28),
 oE (.store 28 (.t 4) (.t 31)),
 oO 5 (.assign (.t 32))])
(.seq (.region false [] [
 oO 34 (.load 0 (.t 1)),
 oO 35 (.load 28 (.t 2)),
 oO 36 (.call 0 (.f 137) [(.t 34), (.t 35), (.c (.int .i64 (-1)))]),
 oM 33 36,
 oO 37 (.extract (.t 33) 0),
 oO 38 (.extract (.t 33) 1),
 oO 6 (.alloc 28),
 oE (.store 28 (.t 6) (.t 37)),
 oO 7 (.assign (.t 38))])
(.seq (.region false [] [
 oO 40 (.load 0 (.t 1)),
 oO 41 (.load 28 (.t 2)),
 oO 42 (.call 0 (.f 133) [(.t 40), (.t 41)]),
 oM 39 42,
 oO 43 (.extract (.t 39) 0),
 oO 44 (.extract (.t 39) 1),
 oO 8 (.alloc 29),
 oE (.store 29 (.t 8) (.t 43)),
 oO 9 (.assign (.t 44))])
(.seq (.region false [] [
 oO 46 (.load 0 (.t 1)),
 oO 47 (.call 0 (.f 131) [(.t 46)]),
 oM 45 47,
 oO 48 (.extract (.t 45) 0),
 oO 49 (.extract (.t 45) 1),
 oO 10 (.alloc 29),
 oE (.store 29 (.t 10) (.t 48)),
 oO 11 (.assign (.t 49))])
(.seq (.region false [] [
 oO 51 (.load 0 (.t 1)),
 oO 52 (.load 28 (.t 2)),
 oO 53 (.call 0 (.f 137) [(.t 51), (.t 52), (.c (.int .i64 100))]),
 oM 50 53,
 oO 54 (.extract (.t 50) 0),
 oO 55 (.extract (.t 50) 1),
 oO 12 (.alloc 28),
 oE (.store 28 (.t 12) (.t 54)),
 oO 13 (.assign (.t 55))])
(.seq (.region false [] [
 oO 57 (.load 0 (.t 1)),
 oO 58 (.load 28 (.t 12)),
 oO 59 (.call 0 (.f 133) [(.t 57), (.t 58)]),
 oM 56 59,
 oO 60 (.extract (.t 56) 0),
 oO 61 (.extract (.t 56) 1),
 oO 14 (.alloc 29),
 oE (.store 29 (.t 14) (.t 60)),
 oO 15 (.assign (.t 61))])
(.seq (.region false [] [
 oO 63 (.build 0 []),
 oO 64 (.call 0 (.f 139) [(.t 63)]),
 oM 62 64,
 oO 65 (.extract (.t 62) 0),
 oO 66 (.extract (.t 62) 1),
 oO 16 (.alloc 28),
 oE (.store 28 (.t 16) (.t 65)),
 oO 17 (.assign (.t 66))])
(.seq (.region false [] [
 oO 67 (.bslice false 9 1 [(0, (.c (.imm .exact [])))]),
 oO 68 (.build 0 [(1, (.t 67))]),
 oO 18 (.alloc 0),
 oE (.store 0 (.t 18) (.t 68))])
(.seq (.region false [] [
 oO 70 (.load 0 (.t 18)),
 oO 71 (.call 0 (.f 131) [(.t 70)]),
 oM 69 71,
 oO 72 (.extract (.t 69) 0),
 oO 73 (.extract (.t 69) 1),
 oO 19 (.alloc 29),
 oE (.store 29 (.t 19) (.t 72)),
 oO 20 (.assign (.t 73))])
(.seq (.region false [] [
 oM 74 3,
 oO 75 (.bin .eql 3 (.t 74) (.c (.int .i64 0))),
 oM 76 75,
⟨(some 77), .load 28 (.t 2), (some (76, true))⟩,
⟨(some 78), .bslice false 1 0 [], (some (76, true))⟩,
⟨(some 79), .bslice false 4 1 [(0, (.t 78))], (some (76, true))⟩,
⟨(some 80), .build 28 [(0, (.t 79))], (some (76, true))⟩,
⟨(some 81), .call 0 (.f 138) [(.t 77), (.t 80)], (some (76, true))⟩,
 oO 82 (.pick (.t 76) (.t 81) (.c (.bool false))),
 oM 83 82,
⟨(some 84), .move (.t 5), (some (83, true))⟩,
⟨(some 85), .bin .eql 3 (.t 84) (.c (.int .i64 0)), (some (83, true))⟩,
 oO 86 (.pick (.t 83) (.t 85) (.c (.bool false))),
 oM 87 86,
⟨(some 88), .load 28 (.t 2), (some (87, true))⟩,
⟨(some 89), .load 28 (.t 4), (some (87, true))⟩,
⟨(some 90), .call 0 (.f 138) [(.t 88), (.t 89)], (some (87, true))⟩,
 oO 91 (.pick (.t 87) (.t 90) (.c (.bool false))),
 oM 92 91,
⟨(some 93), .move (.t 7), (some (92, true))⟩,
⟨(some 94), .bin .eql 3 (.t 93) (.c (.int .i64 1)), (some (92, true))⟩,
 oO 95 (.pick (.t 92) (.t 94) (.c (.bool false))),
 oM 96 95,
⟨(some 97), .move (.t 9), (some (96, true))⟩,
⟨(some 98), .bin .eql 3 (.t 97) (.c (.int .i64 300)), (some (96, true))⟩,
 oO 99 (.pick (.t 96) (.t 98) (.c (.bool false))),
 oM 100 99,
⟨(some 101), .move (.t 11), (some (100, true))⟩,
⟨(some 102), .bin .eql 3 (.t 101) (.c (.int .i64 0)), (some (100, true))⟩,
 oO 103 (.pick (.t 100) (.t 102) (.c (.bool false))),
 oM 104 103,
⟨(some 105), .faddr 29 (.t 10) 0, (some (104, true))⟩,
⟨(some 106), .load 6 (.t 105), (some (104, true))⟩,
⟨(some 107), .bslice false 6 2 [(0, (.c (.int .i64 1))), (1, (.c (.int .i64 0)))], (some (104, true))⟩,
⟨(some 108), .call 0 (.f 5) [(.t 106), (.t 107)], (some (104, true))⟩,
 oO 109 (.pick (.t 104) (.t 108) (.c (.bool false))),
 oM 110 109,
⟨(some 111), .faddr 29 (.t 10) 1, (some (110, true))⟩,
⟨(some 112), .load 6 (.t 111), (some (110, true))⟩,
⟨(some 113), .bslice false 6 4 [(0, (.c (.int .i64 0))), (1, (.c (.int .i64 10))), (2, (.c (.int .i64 10))), (3, (.c (.int .i64 0)))], (some (110, true))⟩,
⟨(some 114), .call 0 (.f 5) [(.t 112), (.t 113)], (some (110, true))⟩,
 oO 115 (.pick (.t 110) (.t 114) (.c (.bool false))),
 oM 116 115,
⟨(some 117), .move (.t 13), (some (116, true))⟩,
⟨(some 118), .bin .eql 3 (.t 117) (.c (.int .i64 0)), (some (116, true))⟩,
 oO 119 (.pick (.t 116) (.t 118) (.c (.bool false))),
 oM 120 119,
⟨(some 121), .load 28 (.t 12), (some (120, true))⟩,
⟨(some 122), .call 0 (.f 140) [(.t 121)], (some (120, true))⟩,
 oO 123 (.pick (.t 120) (.t 122) (.c (.bool false))),
 oM 124 123,
⟨(some 125), .load 28 (.t 2), (some (124, true))⟩,
⟨(some 126), .call 0 (.f 140) [(.t 125)], (some (124, true))⟩,
⟨(some 127), .un .not (.t 126), (some (124, true))⟩,
 oO 128 (.pick (.t 124) (.t 127) (.c (.bool false))),
 oM 129 128,
⟨(some 130), .build 28 [], (some (129, true))⟩,
⟨(some 131), .call 0 (.f 140) [(.t 130)], (some (129, true))⟩,
 oO 132 (.pick (.t 129) (.t 131) (.c (.bool false))),
 oM 133 132,
⟨(some 134), .move (.t 15), (some (133, true))⟩,
⟨(some 135), .bin .eql 3 (.t 134) (.c (.int .i64 0)), (some (133, true))⟩,
 oO 136 (.pick (.t 133) (.t 135) (.c (.bool false))),
 oM 137 136,
⟨(some 138), .load 29 (.t 10), (some (137, true))⟩,
⟨(some 139), .load 29 (.t 14), (some (137, true))⟩,
⟨(some 140), .call 0 (.f 135) [(.t 138), (.t 139)], (some (137, true))⟩,
 oO 141 (.pick (.t 137) (.t 140) (.c (.bool false))),
 oM 142 141,
⟨(some 143), .move (.t 17), (some (142, true))⟩,
⟨(some 144), .bin .eql 3 (.t 143) (.c (.int .i64 270)), (some (142, true))⟩,
 oO 145 (.pick (.t 142) (.t 144) (.c (.bool false))),
 oM 146 145,
⟨(some 147), .move (.t 20), (some (146, true))⟩,
⟨(some 148), .bin .eql 3 (.t 147) (.c (.int .i64 0)), (some (146, true))⟩,
 oO 149 (.pick (.t 146) (.t 148) (.c (.bool false))),
 oM 150 149,
⟨(some 151), .faddr 29 (.t 19) 0, (some (150, true))⟩,
⟨(some 152), .load 6 (.t 151), (some (150, true))⟩,
⟨(some 153), .len 6 (.t 152), (some (150, true))⟩,
⟨(some 154), .bin .eql 2 (.t 153) (.c (.int .i64 0)), (some (150, true))⟩,
 oO 155 (.pick (.t 150) (.t 154) (.c (.bool false))),
 oM 156 155,
⟨(some 157), .faddr 29 (.t 19) 2, (some (156, true))⟩,
⟨(some 158), .load 31 (.t 157), (some (156, true))⟩,
⟨(some 159), .len 31 (.t 158), (some (156, true))⟩,
⟨(some 160), .bin .eql 2 (.t 159) (.c (.int .i64 1)), (some (156, true))⟩,
 oO 161 (.pick (.t 156) (.t 160) (.c (.bool false))),
 oM 162 161,
⟨(some 163), .load 0 (.t 1), (some (162, true))⟩,
⟨(some 164), .load 28 (.t 2), (some (162, true))⟩,
⟨(some 165), .call 0 (.f 142) [(.t 163), (.t 164)], (some (162, true))⟩,
⟨(some 166), .bin .eql 3 (.t 165) (.c (.int .i64 0)), (some (162, true))⟩,
 oO 167 (.pick (.t 162) (.t 166) (.c (.bool false))),
 oM 168 167,
⟨(some 169), .load 0 (.t 1), (some (168, true))⟩,
⟨(some 170), .bslice false 6 1 [(0, (.c (.int .i64 0)))], (some (168, true))⟩,
⟨(some 171), .build 28 [(1, (.t 170))], (some (168, true))⟩,
⟨(some 172), .call 0 (.f 142) [(.t 169), (.t 171)], (some (168, true))⟩,
⟨(some 173), .bin .eql 3 (.t 172) (.c (.int .i64 300)), (some (168, true))⟩,
 oO 174 (.pick (.t 168) (.t 173) (.c (.bool false))),
 oO 0 (.assign (.t 174))])
(.ret)))))))))))))⟩

def f129 : DFn := ⟨10, [.tmp 2],
    .seq (.region false [] [
 oO 1 (.box 0 (.t 0)),
 oO 2 (.assign (.c (.bool false)))])
(.seq (.region false [] [
 oO 3 (.load 0 (.t 1)),
 oO 4 (.call 0 (.f 2) [(.t 3)]),
 oM 5 4,
⟨(some 6), .load 0 (.t 1), (some (5, true))⟩,
⟨(some 7), .call 0 (.f 61) [(.t 6), (.c (.int .i64 400))], (some (5, true))⟩,
⟨(some 8), .bin .leq 2 (.t 7) (.c (.int .i64 300)), (some (5, true))⟩,
 oO 9 (.pick (.t 5) (.t 8) (.c (.bool false))),
 oO 2 (.assign (.t 9))])
(.ret))⟩

def f130 : DFn := ⟨25, [.tmp 2],
    .seq (.region false [] [
 oO 1 (.box 28 (.t 0)),
 oO 2 (.assign (.c (.bool false)))])
(.seq (.region false [] [
 oO 3 (.faddr 28 (.t 1) 0),
 oO 4 (.load 4 (.t 3)),
 oO 5 (.len 4 (.t 4)),
 oO 6 (.bin .leq 2 (.t 5) (.c (.int .i64 40))),
 oM 7 6,
⟨(some 8), .faddr 28 (.t 1) 3, (some (7, true))⟩,
⟨(some 9), .load 31 (.t 8), (some (7, true))⟩,
⟨(some 10), .len 31 (.t 9), (some (7, true))⟩,
⟨(some 11), .bin .leq 2 (.t 10) (.c (.int .i64 300)), (some (7, true))⟩,
 oO 12 (.pick (.t 7) (.t 11) (.c (.bool false))),
 oM 13 12,
⟨(some 14), .faddr 28 (.t 1) 1, (some (13, true))⟩,
⟨(some 15), .load 6 (.t 14), (some (13, true))⟩,
⟨(some 16), .len 6 (.t 15), (some (13, true))⟩,
⟨(some 17), .bin .leq 2 (.t 16) (.c (.int .i64 70)), (some (13, true))⟩,
 oO 18 (.pick (.t 13) (.t 17) (.c (.bool false))),
 oM 19 18,
⟨(some 20), .faddr 28 (.t 1) 2, (some (19, true))⟩,
⟨(some 21), .load 6 (.t 20), (some (19, true))⟩,
⟨(some 22), .len 6 (.t 21), (some (19, true))⟩,
⟨(some 23), .bin .leq 2 (.t 22) (.c (.int .i64 10)), (some (19, true))⟩,
 oO 24 (.pick (.t 19) (.t 23) (.c (.bool false))),
 oO 2 (.assign (.t 24))])
(.ret))⟩

def f131 : DFn := ⟨21, [.cell 2 29, .tmp 3],
    .seq (.region false [] [
 oO 1 (.box 0 (.t 0)),
 oO 2 (.alloc 29),
 oO 3 (.assign (.c (.int .i64 0)))])
(.seq (.region false [] [
 oO 6 (.load 0 (.t 1)),
 oO 7 (.call 0 (.f 139) [(.t 6)]),
 oM 5 7,
 oO 8 (.extract (.t 5) 0),
 oO 9 (.extract (.t 5) 1),
 oO 4 (.alloc 28),
 oE (.store 28 (.t 4) (.t 8)),
 oO 3 (.assign (.t 9))])
(.seq (.seq (.region false [] [
 oM 10 3,
 oO 11 (.bin .neq 3 (.t 10) (.c (.int .i64 0)))])
(.cond (.t 11) (.seq (.region false [] [
 oO 12 (.load 29 (.t 2)),
 oM 13 3,
 oE (.store 29 (.t 2) (.t 12)),
 oO 3 (.assign (.t 13))])
(.ret)) (.skip)))
(.seq (.region true [] [
 oO 14 (.load 0 (.t 1)),
 oO 15 (.load 0 (.t 1)),
 oO 16 (.load 28 (.t 4)),
 oO 17 (.call 0 (.f 150) [(.t 15), (.t 16), (.f 151)]),
 oO 18 (.call 0 (.f 133) [(.t 14), (.t 17)]),
 oO 19 (.extract (.t 18) 0),
 oO 20 (.extract (.t 18) 1),
 oE (.store 29 (.t 2) (.t 19)),
 oO 3 (.assign (.t 20))])
(.ret))))⟩

def f132 : DFn := ⟨26, [.cell 2 29, .tmp 3],
    .seq (.region false [] [
 oO 1 (.box 0 (.t 0)),
 oO 2 (.alloc 29),
 oO 3 (.assign (.c (.int .i64 0)))])
(.seq (.region false [] [
 oO 7 (.load 0 (.t 1)),
 oO 8 (.call 0 (.f 152) [(.t 7)]),
 oM 6 8,
 oO 9 (.extract (.t 6) 0),
 oO 10 (.extract (.t 6) 1),
 oO 4 (.alloc 28),
 oE (.store 28 (.t 4) (.t 9)),
 oO 5 (.assign (.t 10))])
(.seq (.seq (.region false [] [
 oM 11 5,
 oO 12 (.bin .neq 3 (.t 11) (.c (.int .i64 0)))])
(.cond (.t 12) (.seq (.region false [] [
 oO 13 (.build 29 []),
 oM 14 5,
 oE (.store 29 (.t 2) (.t 13)),
 oO 3 (.assign (.t 14))])
(.ret)) (.skip)))
(.seq (.block 0 (.loop (.seq (.seq (.region false [] [
 oO 15 (.load 28 (.t 4)),
 oO 16 (.call 0 (.f 153) [(.t 15)]),
 oO 17 (.un .not (.t 16))])
(.cond (.t 17) (.skip) (.exit 0)))
(.block 1 (.region false [] [
 oO 18 (.load 0 (.t 1)),
 oO 19 (.load 28 (.t 4)),
 oO 20 (.call 0 (.f 154) [(.t 18), (.t 19)]),
 oE (.store 28 (.t 4) (.t 20))])))))
(.seq (.region false [] [
 oO 21 (.load 0 (.t 1)),
 oO 22 (.load 28 (.t 4)),
 oO 23 (.call 0 (.f 134) [(.t 21), (.t 22)]),
 oO 24 (.extract (.t 23) 0),
 oO 25 (.extract (.t 23) 1),
 oE (.store 29 (.t 2) (.t 24)),
 oO 3 (.assign (.t 25))])
(.ret)))))⟩

def f133 : DFn := ⟨31, [.cell 4 29, .tmp 5],
    .seq (.region false [] [
 oO 2 (.box 0 (.t 0)),
 oO 3 (.box 28 (.t 1)),
 oO 4 (.alloc 29),
 oO 5 (.assign (.c (.int .i64 0)))])
(.seq (.seq (.region false [] [
 oO 7 (.load 0 (.t 2)),
 oO 8 (.load 28 (.t 3)),
 oO 9 (.call 0 (.f 142) [(.t 7), (.t 8)]),
 oO 6 (.assign (.t 9))])
(.seq (.region false [] [
 oM 10 6,
 oO 11 (.bin .neq 3 (.t 10) (.c (.int .i64 0)))])
(.cond (.t 11) (.seq (.region false [] [
 oO 12 (.load 29 (.t 4)),
 oM 13 6,
 oE (.store 29 (.t 4) (.t 12)),
 oO 5 (.assign (.t 13))])
(.ret)) (.skip))))
(.seq (.seq (.region false [] [
 oO 14 (.load 28 (.t 3)),
 oO 15 (.call 0 (.f 140) [(.t 14)]),
 oO 16 (.un .not (.t 15)),
 oM 17 16,
⟨(some 18), .faddr 28 (.t 3) 2, (some (17, false))⟩,
⟨(some 19), .load 6 (.t 18), (some (17, false))⟩,
⟨(some 20), .len 6 (.t 19), (some (17, false))⟩,
⟨(some 21), .bin .eql 2 (.t 20) (.c (.int .i64 0)), (some (17, false))⟩,
 oO 22 (.pick (.t 17) (.c (.bool true)) (.t 21))])
(.cond (.t 22) (.seq (.region false [] [
 oO 23 (.load 29 (.t 4)),
 oE (.store 29 (.t 4) (.t 23)),
 oO 5 (.assign (.c (.int .i64 300)))])
(.ret)) (.skip)))
(.seq (.region false [] [
 oO 24 (.faddr 28 (.t 3) 1),
 oO 25 (.load 6 (.t 24)),
 oO 26 (.faddr 28 (.t 3) 2),
 oO 27 (.load 6 (.t 26)),
 oO 28 (.faddr 28 (.t 3) 3),
 oO 29 (.load 31 (.t 28)),
 oO 30 (.build 29 [(0, (.t 25)), (1, (.t 27)), (2, (.t 29))]),
 oE (.store 29 (.t 4) (.t 30)),
 oO 5 (.assign (.c (.int .i64 0)))])
(.ret))))⟩

def f134 : DFn := ⟨31, [.cell 4 29, .tmp 5],
    .seq (.region false [] [
 oO 2 (.box 0 (.t 0)),
 oO 3 (.box 28 (.t 1)),
 oO 4 (.alloc 29),
 oO 5 (.assign (.c (.int .i64 0)))])
(.seq (.region false [] [
 oO 7 (.load 0 (.t 2)),
 oO 8 (.load 28 (.t 3)),
 oO 9 (.call 0 (.f 155) [(.t 7), (.t 8)]),
 oO 6 (.assign (.t 9))])
(.seq (.seq (.region false [] [
 oM 10 6,
 oO 11 (.bin .neq 3 (.t 10) (.c (.int .i64 0)))])
(.cond (.t 11) (.seq (.region false [] [
 oO 12 (.build 29 []),
 oM 13 6,
 oE (.store 29 (.t 4) (.t 12)),
 oO 5 (.assign (.t 13))])
(.ret)) (.skip)))
(.seq (.seq (.region false [] [
 oO 14 (.load 28 (.t 3)),
 oO 15 (.call 0 (.f 153) [(.t 14)]),
 oO 16 (.un .not (.t 15)),
 oM 17 16,
⟨(some 18), .faddr 28 (.t 3) 2, (some (17, false))⟩,
⟨(some 19), .load 6 (.t 18), (some (17, false))⟩,
⟨(some 20), .len 6 (.t 19), (some (17, false))⟩,
⟨(some 21), .bin .eql 2 (.t 20) (.c (.int .i64 0)), (some (17, false))⟩,
 oO 22 (.pick (.t 17) (.c (.bool true)) (.t 21))])
(.cond (.t 22) (.seq (.region false [] [
 oO 23 (.build 29 []),
 oE (.store 29 (.t 4) (.t 23)),
 oO 5 (.assign (.c (.int .i64 300)))])
(.ret)) (.skip)))
(.seq (.region false [] [
 oO 24 (.faddr 28 (.t 3) 1),
 oO 25 (.load 6 (.t 24)),
 oO 26 (.faddr 28 (.t 3) 2),
 oO 27 (.load 6 (.t 26)),
 oO 28 (.faddr 28 (.t 3) 3),
 oO 29 (.load 31 (.t 28)),
 oO 30 (.build 29 [(0, (.t 25)), (1, (.t 27)), (2, (.t 29))]),
 oE (.store 29 (.t 4) (.t 30)),
 oO 5 (.assign (.c (.int .i64 0)))])
(.ret)))))⟩

def f135 : DFn := ⟨24, [.tmp 4],
    .seq (.region false [] [
 oO 2 (.box 29 (.t 0)),
 oO 3 (.box 29 (.t 1)),
 oO 4 (.assign (.c (.bool false)))])
(.seq (.region false [] [
 oO 5 (.faddr 29 (.t 2) 0),
 oO 6 (.load 6 (.t 5)),
 oO 7 (.faddr 29 (.t 3) 0),
 oO 8 (.load 6 (.t 7)),
 oO 9 (.call 0 (.f 5) [(.t 6), (.t 8)]),
 oM 10 9,
⟨(some 11), .faddr 29 (.t 2) 1, (some (10, true))⟩,
⟨(some 12), .load 6 (.t 11), (some (10, true))⟩,
⟨(some 13), .faddr 29 (.t 3) 1, (some (10, true))⟩,
⟨(some 14), .load 6 (.t 13), (some (10, true))⟩,
⟨(some 15), .call 0 (.f 5) [(.t 12), (.t 14)], (some (10, true))⟩,
 oO 16 (.pick (.t 10) (.t 15) (.c (.bool false))),
 oM 17 16,
⟨(some 18), .faddr 29 (.t 2) 2, (some (17, true))⟩,
⟨(some 19), .load 31 (.t 18), (some (17, true))⟩,
⟨(some 20), .faddr 29 (.t 3) 2, (some (17, true))⟩,
⟨(some 21), .load 31 (.t 20), (some (17, true))⟩,
⟨(some 22), .call 0 (.f 143) [(.t 19), (.t 21)], (some (17, true))⟩,
 oO 23 (.pick (.t 17) (.t 22) (.c (.bool false))),
 oO 4 (.assign (.t 23))])
(.ret))⟩

def f136 : DFn := ⟨145, [.tmp 10],
    .seq (.region false [] [
 oO 5 (.box 0 (.t 0)),
 oO 6 (.box 28 (.t 1)),
 oO 10 (.assign (.c (.bool false)))])
(.seq (.seq (.region false [] [
 oO 25 (.call 0 (.f 128) []),
 oO 26 (.un .not (.t 25))])
(.cond (.t 26) (.seq (.region false [] [
 oO 10 (.assign (.c (.bool false)))])
(.ret)) (.skip)))
(.seq (.seq (.region false [] [
 oO 27 (.load 0 (.t 5)),
 oO 28 (.call 0 (.f 129) [(.t 27)]),
 oO 29 (.un .not (.t 28)),
 oM 30 29,
⟨(some 31), .load 28 (.t 6), (some (30, false))⟩,
⟨(some 32), .call 0 (.f 130) [(.t 31)], (some (30, false))⟩,
⟨(some 33), .un .not (.t 32), (some (30, false))⟩,
 oO 34 (.pick (.t 30) (.c (.bool true)) (.t 33)),
 oM 35 34,
⟨(some 36), .move (.t 4), (some (35, false))⟩,
⟨(some 37), .len 30 (.t 36), (some (35, false))⟩,
⟨(some 38), .bin .gtr 2 (.t 37) (.c (.int .i64 50)), (some (35, false))⟩,
 oO 39 (.pick (.t 35) (.c (.bool true)) (.t 38))])
(.cond (.t 39) (.seq (.region false [] [
 oO 10 (.assign (.c (.bool true)))])
(.ret)) (.skip)))
(.seq (.region false [] [
 oM 40 2,
 oO 41 (.bin .and 2 (.t 40) (.c (.int .i64 127))),
 oM 42 3,
 oO 43 (.bin .and 2 (.t 42) (.c (.int .i64 127))),
 oO 2 (.assign (.t 41)),
 oO 3 (.assign (.t 43))])
(.seq (.region false [] [
 oO 45 (.load 0 (.t 5)),
 oO 46 (.load 28 (.t 6)),
 oM 47 2,
 oO 48 (.call 0 (.f 137) [(.t 45), (.t 46), (.t 47)]),
 oM 44 48,
 oO 49 (.extract (.t 44) 0),
 oO 50 (.extract (.t 44) 1),
 oO 11 (.alloc 28),
 oE (.store 28 (.t 11) (.t 49)),
 oO 12 (.assign (.t 50))])
(.seq (.region false [] [
 oO 52 (.load 0 (.t 5)),
 oO 53 (.load 28 (.t 11)),
 oM 54 3,
 oO 55 (.call 0 (.f 137) [(.t 52), (.t 53), (.t 54)]),
 oM 51 55,
 oO 56 (.extract (.t 51) 0),
 oO 57 (.extract (.t 51) 1),
 oO 13 (.alloc 28),
 oE (.store 28 (.t 13) (.t 56)),
 oO 14 (.assign (.t 57))])
(.seq (.region false [] [
 oO 59 (.load 0 (.t 5)),
 oO 60 (.load 28 (.t 6)),
 oM 61 2,
 oM 62 3,
 oO 63 (.bin .add 2 (.t 61) (.t 62)),
 oO 64 (.call 0 (.f 137) [(.t 59), (.t 60), (.t 63)]),
 oM 58 64,
 oO 65 (.extract (.t 58) 0),
 oO 66 (.extract (.t 58) 1),
 oO 15 (.alloc 28),
 oE (.store 28 (.t 15) (.t 65)),
 oO 16 (.assign (.t 66))])
(.seq (.seq (.region false [] [
 oM 67 12,
 oO 68 (.bin .neq 3 (.t 67) (.c (.int .i64 0)))])
(.cond (.t 68) (.seq (.region false [] [
 oM 69 16,
 oM 70 12,
 oO 71 (.bin .eql 3 (.t 69) (.t 70)),
 oO 10 (.assign (.t 71))])
(.ret)) (.skip)))
(.seq (.seq (.region false [] [
 oM 72 14,
 oO 73 (.bin .neq 3 (.t 72) (.c (.int .i64 0))),
 oM 74 73,
⟨(some 75), .move (.t 16), (some (74, false))⟩,
⟨(some 76), .bin .neq 3 (.t 75) (.c (.int .i64 0)), (some (74, false))⟩,
 oO 77 (.pick (.t 74) (.c (.bool true)) (.t 76)),
 oM 78 77,
⟨(some 79), .load 28 (.t 13), (some (78, false))⟩,
⟨(some 80), .load 28 (.t 15), (some (78, false))⟩,
⟨(some 81), .call 0 (.f 138) [(.t 79), (.t 80)], (some (78, false))⟩,
⟨(some 82), .un .not (.t 81), (some (78, false))⟩,
 oO 83 (.pick (.t 78) (.c (.bool true)) (.t 82))])
(.cond (.t 83) (.seq (.region false [] [
 oO 10 (.assign (.c (.bool false)))])
(.ret)) (.skip)))
(.seq (.region false [] [
 oO 85 (.load 0 (.t 5)),
 oO 86 (.call 0 (.f 139) [(.t 85)]),
 oM 84 86,
 oO 87 (.extract (.t 84) 0),
 oO 88 (.extract (.t 84) 1),
 oO 17 (.alloc 28),
 oE (.store 28 (.t 17) (.t 87)),
 oO 18 (.assign (.t 88))])
(.seq (.seq (.region false [] [
 oM 89 4,
 oO 90 (.len 30 (.t 89)),
 oO 91 (.move (.c (.int .i64 0)))])
(.block 0 (.loop (.seq (.region false [] [
 oO 92 (.bin .lss 2 (.t 91) (.t 90))])
(.seq (.cond (.t 92) (.skip) (.exit 0))
(.seq (.block 1 (.seq (.region false [] [
 oO 93 (.iaddr 30 (.t 89) (.t 91)),
 oO 94 (.load 13 (.t 93)),
 oO 20 (.assign (.t 94))])
(.seq (.region false [] [
 oM 95 18,
 oO 96 (.bin .eql 3 (.t 95) (.c (.int .i64 0)))])
(.cond (.t 96) (.region false [] [
 oO 98 (.load 0 (.t 5)),
 oO 99 (.load 28 (.t 17)),
 oM 100 20,
 oO 101 (.conv 13 2 (.t 100)),
 oO 102 (.call 0 (.f 137) [(.t 98), (.t 99), (.t 101)]),
 oM 97 102,
 oO 103 (.extract (.t 97) 0),
 oO 104 (.extract (.t 97) 1),
 oE (.store 28 (.t 17) (.t 103)),
 oO 18 (.assign (.t 104))]) (.skip)))))
(.region false [] [
 oO 105 (.bin .add 2 (.t 91) (.c (.int .i64 1))),
 oM 91 105])))))))
(.seq (.block 2 (.loop (.seq (.seq (.region false [] [
 oM 106 18,
 oO 107 (.bin .eql 3 (.t 106) (.c (.int .i64 0))),
 oM 108 107,
⟨(some 109), .load 28 (.t 17), (some (108, true))⟩,
⟨(some 110), .call 0 (.f 140) [(.t 109)], (some (108, true))⟩,
⟨(some 111), .un .not (.t 110), (some (108, true))⟩,
 oO 112 (.pick (.t 108) (.t 111) (.c (.bool false)))])
(.cond (.t 112) (.skip) (.exit 2)))
(.block 3 (.region false [] [
 oO 114 (.load 0 (.t 5)),
 oO 115 (.load 28 (.t 17)),
 oO 116 (.call 0 (.f 137) [(.t 114), (.t 115), (.c (.int .i64 50))]),
 oM 113 116,
 oO 117 (.extract (.t 113) 0),
 oO 118 (.extract (.t 113) 1),
 oE (.store 28 (.t 17) (.t 117)),
 oO 18 (.assign (.t 118))])))))
(.seq (.region false [] [
 oO 120 (.load 0 (.t 5)),
 oO 121 (.call 0 (.f 131) [(.t 120)]),
 oM 119 121,
 oO 122 (.extract (.t 119) 0),
 oO 123 (.extract (.t 119) 1),
 oO 21 (.alloc 29),
 oE (.store 29 (.t 21) (.t 122)),
 oO 22 (.assign (.t 123))])
(.seq (.region false [] [
 oO 125 (.load 0 (.t 5)),
 oO 126 (.load 28 (.t 17)),
 oO 127 (.call 0 (.f 133) [(.t 125), (.t 126)]),
 oM 124 127,
 oO 128 (.extract (.t 124) 0),
 oO 129 (.extract (.t 124) 1),
 oO 23 (.alloc 29),
 oE (.store 29 (.t 23) (.t 128)),
 oO 24 (.assign (.t 129))])
(.seq (.region false [] [
 oM 130 18,
 oO 131 (.bin .eql 3 (.t 130) (.c (.int .i64 0))),
 oM 132 131,
⟨(some 133), .move (.t 22), (some (132, true))⟩,
⟨(some 134), .bin .eql 3 (.t 133) (.c (.int .i64 0)), (some (132, true))⟩,
 oO 135 (.pick (.t 132) (.t 134) (.c (.bool false))),
 oM 136 135,
⟨(some 137), .move (.t 24), (some (136, true))⟩,
⟨(some 138), .bin .eql 3 (.t 137) (.c (.int .i64 0)), (some (136, true))⟩,
 oO 139 (.pick (.t 136) (.t 138) (.c (.bool false))),
 oM 140 139,
⟨(some 141), .load 29 (.t 21), (some (140, true))⟩,
⟨(some 142), .load 29 (.t 23), (some (140, true))⟩,
⟨(some 143), .call 0 (.f 135) [(.t 141), (.t 142)], (some (140, true))⟩,
 oO 144 (.pick (.t 140) (.t 143) (.c (.bool false))),
 oO 10 (.assign (.t 144))])
(.ret)))))))))))))))⟩

def f137 : DFn := ⟨23, [.cell 6 28, .tmp 7],
    .seq (.region false [] [
 oO 3 (.box 0 (.t 0)),
 oO 4 (.box 28 (.t 1)),
 oO 5 (.box 2 (.t 2)),
 oO 6 (.alloc 28),
 oO 7 (.assign (.c (.int .i64 0)))])
(.seq (.seq (.region false [] [
 oO 9 (.load 0 (.t 3)),
 oO 10 (.load 28 (.t 4)),
 oO 11 (.call 0 (.f 142) [(.t 9), (.t 10)]),
 oO 8 (.assign (.t 11))])
(.seq (.region false [] [
 oM 12 8,
 oO 13 (.bin .neq 3 (.t 12) (.c (.int .i64 0)))])
(.cond (.t 13) (.seq (.region false [] [
 oO 14 (.load 28 (.t 6)),
 oM 15 8,
 oE (.store 28 (.t 6) (.t 14)),
 oO 7 (.assign (.t 15))])
(.ret)) (.skip))))
(.seq (.seq (.region false [] [
 oO 16 (.load 2 (.t 5)),
 oO 17 (.bin .lss 2 (.t 16) (.c (.int .i64 0)))])
(.cond (.t 17) (.seq (.region false [] [
 oO 18 (.load 28 (.t 6)),
 oE (.store 28 (.t 6) (.t 18)),
 oO 7 (.assign (.c (.int .i64 1)))])
(.ret)) (.skip)))
(.seq (.region false [] [
 oO 19 (.load 0 (.t 3)),
 oO 20 (.load 28 (.t 4)),
 oO 21 (.mkfn 156 [(.t 5)]),
 oO 22 (.call 2 (.f 150) [(.t 19), (.t 20), (.t 21)]),
 oE (.store 28 (.t 6) (.t 22)),
 oO 7 (.assign (.c (.int .i64 0)))])
(.ret))))⟩

def f138 : DFn := ⟨31, [.tmp 4],
    .seq (.region false [] [
 oO 2 (.box 28 (.t 0)),
 oO 3 (.box 28 (.t 1)),
 oO 4 (.assign (.c (.bool false)))])
(.seq (.region false [] [
 oO 5 (.faddr 28 (.t 2) 0),
 oO 6 (.load 4 (.t 5)),
 oO 7 (.faddr 28 (.t 3) 0),
 oO 8 (.load 4 (.t 7)),
 oO 9 (.call 0 (.f 11) [(.t 6), (.t 8)]),
 oM 10 9,
⟨(some 11), .faddr 28 (.t 2) 1, (some (10, true))⟩,
⟨(some 12), .load 6 (.t 11), (some (10, true))⟩,
⟨(some 13), .faddr 28 (.t 3) 1, (some (10, true))⟩,
⟨(some 14), .load 6 (.t 13), (some (10, true))⟩,
⟨(some 15), .call 0 (.f 5) [(.t 12), (.t 14)], (some (10, true))⟩,
 oO 16 (.pick (.t 10) (.t 15) (.c (.bool false))),
 oM 17 16,
⟨(some 18), .faddr 28 (.t 2) 2, (some (17, true))⟩,
⟨(some 19), .load 6 (.t 18), (some (17, true))⟩,
⟨(some 20), .faddr 28 (.t 3) 2, (some (17, true))⟩,
⟨(some 21), .load 6 (.t 20), (some (17, true))⟩,
⟨(some 22), .call 0 (.f 5) [(.t 19), (.t 21)], (some (17, true))⟩,
 oO 23 (.pick (.t 17) (.t 22) (.c (.bool false))),
 oM 24 23,
⟨(some 25), .faddr 28 (.t 2) 3, (some (24, true))⟩,
⟨(some 26), .load 31 (.t 25), (some (24, true))⟩,
⟨(some 27), .faddr 28 (.t 3) 3, (some (24, true))⟩,
⟨(some 28), .load 31 (.t 27), (some (24, true))⟩,
⟨(some 29), .call 0 (.f 143) [(.t 26), (.t 28)], (some (24, true))⟩,
 oO 30 (.pick (.t 24) (.t 29) (.c (.bool false))),
 oO 4 (.assign (.t 30))])
(.ret))⟩

def f139 : DFn := ⟨14, [.cell 2 28, .tmp 3],
    .seq (.region false [] [
 oO 1 (.box 0 (.t 0)),
 oO 2 (.alloc 28),
 oO 3 (.assign (.c (.int .i64 0)))])
(.seq (.seq (.region false [] [
 oO 5 (.load 0 (.t 1)),
 oO 6 (.call 0 (.f 15) [(.t 5)]),
 oO 4 (.assign (.t 6))])
(.seq (.region false [] [
 oM 7 4,
 oO 8 (.bin .neq 3 (.t 7) (.c (.int .i64 0)))])
(.cond (.t 8) (.seq (.region false [] [
 oO 9 (.load 28 (.t 2)),
 oM 10 4,
 oE (.store 28 (.t 2) (.t 9)),
 oO 3 (.assign (.t 10))])
(.ret)) (.skip))))
(.seq (.region false [] [
 oO 11 (.bslice false 1 0 []),
 oO 12 (.bslice false 4 1 [(0, (.t 11))]),
 oO 13 (.build 28 [(0, (.t 12))]),
 oE (.store 28 (.t 2) (.t 13)),
 oO 3 (.assign (.c (.int .i64 0)))])
(.ret)))⟩

def f140 : DFn := ⟨7, [.tmp 2],
    .seq (.region false [] [
 oO 1 (.box 28 (.t 0)),
 oO 2 (.assign (.c (.bool false)))])
(.seq (.region false [] [
 oO 3 (.faddr 28 (.t 1) 0),
 oO 4 (.load 4 (.t 3)),
 oO 5 (.len 4 (.t 4)),
 oO 6 (.bin .eql 2 (.t 5) (.c (.int .i64 0))),
 oO 2 (.assign (.t 6))])
(.ret))⟩

def f141 : DFn := ⟨95, [.tmp 6],
    .seq (.region false [] [
 oO 3 (.box 0 (.t 0)),
 oO 4 (.box 28 (.t 1)),
 oO 6 (.assign (.c (.bool false)))])
(.seq (.seq (.region false [] [
 oO 11 (.call 0 (.f 128) []),
 oO 12 (.un .not (.t 11))])
(.cond (.t 12) (.seq (.region false [] [
 oO 6 (.assign (.c (.bool false)))])
(.ret)) (.skip)))
(.seq (.seq (.region false [] [
 oO 13 (.load 0 (.t 3)),
 oO 14 (.call 0 (.f 2) [(.t 13)]),
 oO 15 (.un .not (.t 14)),
 oM 16 15,
⟨(some 17), .load 28 (.t 4), (some (16, false))⟩,
⟨(some 18), .call 0 (.f 130) [(.t 17)], (some (16, false))⟩,
⟨(some 19), .un .not (.t 18), (some (16, false))⟩,
 oO 20 (.pick (.t 16) (.c (.bool true)) (.t 19))])
(.cond (.t 20) (.seq (.region false [] [
 oO 6 (.assign (.c (.bool true)))])
(.ret)) (.skip)))
(.seq (.region false [] [
 oO 22 (.load 0 (.t 3)),
 oO 23 (.load 28 (.t 4)),
 oM 24 2,
 oO 25 (.bin .and 2 (.t 24) (.c (.int .i64 127))),
 oO 26 (.call 0 (.f 137) [(.t 22), (.t 23), (.t 25)]),
 oM 21 26,
 oO 27 (.extract (.t 21) 0),
 oO 28 (.extract (.t 21) 1),
 oO 7 (.alloc 28),
 oE (.store 28 (.t 7) (.t 27)),
 oO 8 (.assign (.t 28))])
(.seq (.seq (.region false [] [
 oM 29 8,
 oO 30 (.bin .neq 3 (.t 29) (.c (.int .i64 0)))])
(.cond (.t 30) (.seq (.region false [] [
 oM 31 8,
 oO 32 (.load 0 (.t 3)),
 oO 33 (.load 28 (.t 4)),
 oO 34 (.call 0 (.f 142) [(.t 32), (.t 33)]),
 oO 35 (.bin .eql 3 (.t 31) (.t 34)),
 oM 36 35,
⟨(some 37), .load 28 (.t 7), (some (36, true))⟩,
⟨(some 38), .build 28 [], (some (36, true))⟩,
⟨(some 39), .call 0 (.f 138) [(.t 37), (.t 38)], (some (36, true))⟩,
 oO 40 (.pick (.t 36) (.t 39) (.c (.bool false))),
 oO 6 (.assign (.t 40))])
(.ret)) (.skip)))
(.seq (.seq (.region true [] [
 oO 41 (.load 0 (.t 3)),
 oO 42 (.load 28 (.t 7)),
 oO 43 (.call 0 (.f 142) [(.t 41), (.t 42)]),
 oO 44 (.bin .neq 3 (.t 43) (.c (.int .i64 0))),
 oM 45 44,
⟨(some 46), .faddr 28 (.t 7) 3, (some (45, false))⟩,
⟨(some 47), .load 31 (.t 46), (some (45, false))⟩,
⟨(some 48), .len 31 (.t 47), (some (45, false))⟩,
⟨(some 49), .faddr 28 (.t 4) 3, (some (45, false))⟩,
⟨(some 50), .load 31 (.t 49), (some (45, false))⟩,
⟨(some 51), .len 31 (.t 50), (some (45, false))⟩,
⟨(some 52), .bin .lss 2 (.t 48) (.t 51), (some (45, false))⟩,
 oO 53 (.pick (.t 45) (.c (.bool true)) (.t 52)),
 oM 54 53,
⟨(some 55), .faddr 28 (.t 4) 3, (some (54, false))⟩,
⟨(some 56), .load 31 (.t 55), (some (54, false))⟩,
⟨(some 57), .faddr 28 (.t 7) 3, (some (54, false))⟩,
⟨(some 58), .load 31 (.t 57), (some (54, false))⟩,
⟨(some 59), .faddr 28 (.t 4) 3, (some (54, false))⟩,
⟨(some 60), .load 31 (.t 59), (some (54, false))⟩,
⟨(some 61), .len 31 (.t 60), (some (54, false))⟩,
⟨(some 62), .slice 31 (.t 58) none (some (.t 61)) none, (some (54, false))⟩,
⟨(some 63), .call 0 (.f 143) [(.t 56), (.t 62)], (some (54, false))⟩,
⟨(some 64), .un .not (.t 63), (some (54, false))⟩,
 oO 65 (.pick (.t 54) (.c (.bool true)) (.t 64))])
(.cond (.t 65) (.seq (.region false [] [
 oO 6 (.assign (.c (.bool false)))])
(.ret)) (.skip)))
(.seq (.seq (.region false [] [
 oO 66 (.faddr 28 (.t 4) 2),
 oO 67 (.load 6 (.t 66)),
 oO 68 (.len 6 (.t 67)),
 oO 69 (.bin .eql 2 (.t 68) (.c (.int .i64 0)))])
(.cond (.t 69) (.seq (.region false [] [
 oO 6 (.assign (.c (.bool true)))])
(.ret)) (.skip)))
(.seq (.region false [] [
 oO 71 (.faddr 28 (.t 7) 2),
 oO 72 (.load 6 (.t 71)),
 oO 73 (.faddr 28 (.t 4) 2),
 oO 74 (.load 6 (.t 73)),
 oO 75 (.call 0 (.f 30) [(.t 72), (.t 74)]),
 oM 70 75,
 oO 76 (.extract (.t 70) 0),
 oO 77 (.extract (.t 70) 1),
 oO 9 (.assign (.t 76)),
 oO 10 (.assign (.t 77))])
(.seq (.region false [] [
 oM 78 10,
 oO 79 (.bin .eql 3 (.t 78) (.c (.int .i64 0))),
 oM 80 79,
⟨(some 81), .move (.t 9), (some (80, true))⟩,
⟨(some 82), .bin .leq 2 (.t 81) (.c (.int .i64 0)), (some (80, true))⟩,
 oO 83 (.pick (.t 80) (.t 82) (.c (.bool false))),
 oM 84 83,
⟨(some 85), .move (.t 9), (some (84, true))⟩,
⟨(some 86), .bin .lss 2 (.t 85) (.c (.int .i64 0)), (some (84, true))⟩,
⟨(some 87), .move (.t 86), (some (84, true))⟩,
⟨(some 88), .faddr 28 (.t 7) 1, (some (87, false))⟩,
⟨(some 89), .load 6 (.t 88), (some (87, false))⟩,
⟨(some 90), .faddr 28 (.t 4) 1, (some (87, false))⟩,
⟨(some 91), .load 6 (.t 90), (some (87, false))⟩,
⟨(some 92), .call 0 (.f 5) [(.t 89), (.t 91)], (some (87, false))⟩,
⟨(some 93), .pick (.t 87) (.c (.bool true)) (.t 92), (some (84, true))⟩,
 oO 94 (.pick (.t 84) (.t 93) (.c (.bool false))),
 oO 6 (.assign (.t 94))])
(.ret)))))))))⟩

def f142 : DFn := ⟨51, [.tmp 4],
    .seq (.region false [] [
 oO 2 (.box 0 (.t 0)),
 oO 3 (.box 28 (.t 1)),
 oO 4 (.assign (.c (.int .i64 0)))])
(.seq (.seq (.region false [] [
 oO 9 (.load 0 (.t 2)),
 oO 10 (.call 0 (.f 15) [(.t 9)]),
 oO 5 (.assign (.t 10))])
(.seq (.region false [] [
 oM 11 5,
 oO 12 (.bin .neq 3 (.t 11) (.c (.int .i64 0)))])
(.cond (.t 12) (.seq (.region false [] [
 oM 13 5,
 oO 4 (.assign (.t 13))])
(.ret)) (.skip))))
(.seq (.region false [] [
 oO 14 (.mkfn 157 [(.t 2)]),
 oO 6 (.alloc 33),
 oE (.store 33 (.t 6) (.t 14))])
(.seq (.seq (.region false [] [
 oO 15 (.faddr 28 (.t 3) 0),
 oO 16 (.load 4 (.t 15)),
 oO 17 (.mkfn 158 [(.t 2)]),
 oO 18 (.call 3 (.f 159) [(.t 16), (.t 17)]),
 oM 19 18,
⟨(some 20), .faddr 28 (.t 3) 3, (some (19, false))⟩,
⟨(some 21), .load 31 (.t 20), (some (19, false))⟩,
⟨(some 22), .mkfn 160 [(.t 6)], (some (19, false))⟩,
⟨(some 23), .call 3 (.f 161) [(.t 21), (.t 22)], (some (19, false))⟩,
 oO 24 (.pick (.t 19) (.c (.bool true)) (.t 23))])
(.cond (.t 24) (.seq (.region false [] [
 oO 4 (.assign (.c (.int .i64 300)))])
(.ret)) (.skip)))
(.seq (.seq (.region false [] [
 oO 25 (.faddr 28 (.t 3) 2),
 oO 26 (.load 6 (.t 25)),
 oO 27 (.len 6 (.t 26)),
 oO 28 (.bin .eql 2 (.t 27) (.c (.int .i64 0))),
 oM 29 28,
⟨(some 30), .faddr 28 (.t 3) 1, (some (29, true))⟩,
⟨(some 31), .load 6 (.t 30), (some (29, true))⟩,
⟨(some 32), .len 6 (.t 31), (some (29, true))⟩,
⟨(some 33), .bin .eql 2 (.t 32) (.c (.int .i64 0)), (some (29, true))⟩,
 oO 34 (.pick (.t 29) (.t 33) (.c (.bool false)))])
(.cond (.t 34) (.seq (.region false [] [
 oO 4 (.assign (.c (.int .i64 0)))])
(.ret)) (.skip)))
(.seq (.seq (.region false [] [
 oO 36 (.load 0 (.t 2)),
 oO 37 (.faddr 28 (.t 3) 1),
 oO 38 (.load 6 (.t 37)),
 oO 39 (.call 0 (.f 22) [(.t 36), (.t 38)]),
 oM 35 39,
 oO 40 (.extract (.t 35) 0),
 oO 41 (.extract (.t 35) 1),
 oO 7 (.assign (.t 40)),
 oO 8 (.assign (.t 41))])
(.seq (.region false [] [
 oM 42 8,
 oO 43 (.bin .neq 3 (.t 42) (.c (.int .i64 0))),
 oM 44 43,
⟨(some 45), .move (.t 7), (some (44, false))⟩,
⟨(some 46), .faddr 28 (.t 3) 2, (some (44, false))⟩,
⟨(some 47), .load 6 (.t 46), (some (44, false))⟩,
⟨(some 48), .call 0 (.f 162) [(.t 45), (.t 47)], (some (44, false))⟩,
⟨(some 49), .un .not (.t 48), (some (44, false))⟩,
 oO 50 (.pick (.t 44) (.c (.bool true)) (.t 49))])
(.cond (.t 50) (.seq (.region false [] [
 oO 4 (.assign (.c (.int .i64 300)))])
(.ret)) (.skip))))
(.seq (.region false [] [
 oO 4 (.assign (.c (.int .i64 0)))])
(.ret)))))))⟩

def f143 : DFn := ⟨57, [.tmp 4],
    .seq (.region false [] [
 oO 4 (.assign (.c (.bool false)))])
(.seq (.seq (.region false [] [
 oM 6 0,
 oO 7 (.len 31 (.t 6)),
 oM 8 1,
 oO 9 (.len 31 (.t 8)),
 oO 10 (.bin .neq 2 (.t 7) (.t 9))])
(.cond (.t 10) (.seq (.region false [] [
 oO 4 (.assign (.c (.bool false)))])
(.ret)) (.skip)))
(.seq (.seq (.region false [] [
 oO 5 (.assign (.c (.int .i64 0)))])
(.block 0 (.loop (.seq (.seq (.region false [] [
 oM 11 5,
 oM 12 0,
 oO 13 (.len 31 (.t 12)),
 oO 14 (.bin .lss 2 (.t 11) (.t 13))])
(.cond (.t 14) (.skip) (.exit 0)))
(.seq (.block 1 (.seq (.region true [] [
 oM 17 0,
 oM 18 5,
 oO 19 (.iaddr 31 (.t 17) (.t 18)),
 oO 20 (.faddr 32 (.t 19) 1),
 oO 21 (.load 2 (.t 20)),
 oM 22 1,
 oM 23 5,
 oO 24 (.iaddr 31 (.t 22) (.t 23)),
 oO 25 (.faddr 32 (.t 24) 1),
 oO 26 (.load 2 (.t 25)),
 oO 27 (.bin .neq 2 (.t 21) (.t 26)),
 oM 28 27,
⟨(some 29), .move (.t 0), (some (28, false))⟩,
⟨(some 30), .move (.t 5), (some (28, false))⟩,
⟨(some 31), .iaddr 31 (.t 29) (.t 30), (some (28, false))⟩,
⟨(some 32), .faddr 32 (.t 31) 0, (some (28, false))⟩,
⟨(some 33), .load 1 (.t 32), (some (28, false))⟩,
⟨(some 34), .move (.t 1), (some (28, false))⟩,
⟨(some 35), .move (.t 5), (some (28, false))⟩,
⟨(some 36), .iaddr 31 (.t 34) (.t 35), (some (28, false))⟩,
⟨(some 37), .faddr 32 (.t 36) 0, (some (28, false))⟩,
⟨(some 38), .load 1 (.t 37), (some (28, false))⟩,
⟨(some 39), .call 0 (.f 5) [(.t 33), (.t 38)], (some (28, false))⟩,
⟨(some 40), .un .not (.t 39), (some (28, false))⟩,
 oO 41 (.pick (.t 28) (.c (.bool true)) (.t 40)),
 oM 42 41,
⟨(some 43), .move (.t 0), (some (42, false))⟩,
⟨(some 44), .move (.t 5), (some (42, false))⟩,
⟨(some 45), .iaddr 31 (.t 43) (.t 44), (some (42, false))⟩,
⟨(some 46), .faddr 32 (.t 45) 2, (some (42, false))⟩,
⟨(some 47), .load 9 (.t 46), (some (42, false))⟩,
⟨(some 48), .len 9 (.t 47), (some (42, false))⟩,
⟨(some 49), .move (.t 1), (some (42, false))⟩,
⟨(some 50), .move (.t 5), (some (42, false))⟩,
⟨(some 51), .iaddr 31 (.t 49) (.t 50), (some (42, false))⟩,
⟨(some 52), .faddr 32 (.t 51) 2, (some (42, false))⟩,
⟨(some 53), .load 9 (.t 52), (some (42, false))⟩,
⟨(some 54), .len 9 (.t 53), (some (42, false))⟩,
⟨(some 55), .bin .neq 2 (.t 48) (.t 54), (some (42, false))⟩,
 oO 56 (.pick (.t 42) (.c (.bool true)) (.t 55))])
(.cond (.t 56) (.seq (.region false [] [
 oO 4 (.assign (.c (.bool false)))])
(.ret)) (.skip))))
(.region false [] [
 oM 15 5,
 oO 16 (.bin .add 2 (.t 15) (.c (.int .i64 1))),
 oO 5 (.assign (.t 16))]))))))
(.seq (.region false [] [
 oO 4 (.assign (.c (.bool true)))])
(.ret))))⟩

def f144 : DFn := ⟨114, [.tmp 4],
    .seq (.region false [] [
 oO 2 (.box 0 (.t 0)),
 oO 4 (.assign (.c (.bool false)))])
(.seq (.seq (.region false [] [
 oO 14 (.call 0 (.f 128) []),
 oO 15 (.un .not (.t 14))])
(.cond (.t 15) (.seq (.region false [] [
 oO 4 (.assign (.c (.bool false)))])
(.ret)) (.skip)))
(.seq (.seq (.region false [] [
 oO 16 (.load 0 (.t 2)),
 oO 17 (.call 0 (.f 129) [(.t 16)]),
 oO 18 (.un .not (.t 17)),
 oM 19 18,
⟨(some 20), .faddr 0 (.t 2) 2, (some (19, false))⟩,
⟨(some 21), .load 14 (.t 20), (some (19, false))⟩,
⟨(some 22), .len 14 (.t 21), (some (19, false))⟩,
⟨(some 23), .bin .eql 2 (.t 22) (.c (.int .i64 0)), (some (19, false))⟩,
 oO 24 (.pick (.t 19) (.c (.bool true)) (.t 23))])
(.cond (.t 24) (.seq (.region false [] [
 oO 4 (.assign (.c (.bool true)))])
(.ret)) (.skip)))
(.seq (.region false [] [
 oO 26 (.load 0 (.t 2)),
 oO 27 (.call 0 (.f 131) [(.t 26)]),
 oM 25 27,
 oO 28 (.extract (.t 25) 0),
 oO 29 (.extract (.t 25) 1),
 oO 5 (.alloc 29),
 oE (.store 29 (.t 5) (.t 28)),
 oO 6 (.assign (.t 29))])
(.seq (.region false [] [
 oM 30 1,
 oO 31 (.conv 13 2 (.t 30)),
 oO 32 (.faddr 0 (.t 2) 2),
 oO 33 (.load 14 (.t 32)),
 oO 34 (.len 14 (.t 33)),
 oO 35 (.bin .rem 2 (.t 31) (.t 34)),
 oO 7 (.assign (.t 35))])
(.seq (.region false [] [
 oO 36 (.faddr 0 (.t 2) 2),
 oO 37 (.load 14 (.t 36)),
 oM 38 7,
 oO 39 (.iaddr 14 (.t 37) (.t 38)),
 oO 40 (.faddr 15 (.t 39) 3),
 oO 41 (.load 16 (.t 40)),
 oO 42 (.len 16 (.t 41)),
 oO 8 (.assign (.t 42))])
(.seq (.seq (.region false [] [
 oM 43 6,
 oO 44 (.bin .neq 3 (.t 43) (.c (.int .i64 0))),
 oM 45 44,
⟨(some 46), .move (.t 8), (some (45, false))⟩,
⟨(some 47), .bin .lss 2 (.t 46) (.c (.int .i64 2)), (some (45, false))⟩,
 oO 48 (.pick (.t 45) (.c (.bool true)) (.t 47))])
(.cond (.t 48) (.seq (.region false [] [
 oO 4 (.assign (.c (.bool true)))])
(.ret)) (.skip)))
(.seq (.region false [] [
 oO 49 (.load 0 (.t 2)),
 oO 9 (.alloc 0),
 oE (.store 0 (.t 9) (.t 49))])
(.seq (.region false [] [
 oO 50 (.bslice false 14 0 []),
 oO 51 (.faddr 0 (.t 2) 2),
 oO 52 (.load 14 (.t 51)),
 oO 53 (.append 1 14 14 (.t 50) (.t 52)),
 oO 54 (.faddr 0 (.t 9) 2),
 oE (.store 14 (.t 54) (.t 53))])
(.seq (.region true [] [
 oO 55 (.faddr 0 (.t 9) 2),
 oO 56 (.load 14 (.t 55)),
 oM 57 7,
 oO 58 (.faddr 0 (.t 2) 2),
 oO 59 (.load 14 (.t 58)),
 oM 60 7,
 oO 61 (.iaddr 14 (.t 59) (.t 60)),
 oO 62 (.faddr 15 (.t 61) 3),
 oO 63 (.load 16 (.t 62)),
 oM 64 8,
 oO 65 (.bin .sub 2 (.t 64) (.c (.int .i64 1))),
 oO 66 (.slice 16 (.t 63) none (some (.t 65)) none),
 oO 67 (.iaddr 14 (.t 56) (.t 57)),
 oO 68 (.faddr 15 (.t 67) 3),
 oE (.store 16 (.t 68) (.t 66))])
(.seq (.region false [] [
 oO 70 (.load 0 (.t 9)),
 oO 71 (.call 1 (.f 131) [(.t 70)]),
 oM 69 71,
 oO 72 (.extract (.t 69) 0),
 oO 73 (.extract (.t 69) 1),
 oO 10 (.alloc 29),
 oE (.store 29 (.t 10) (.t 72)),
 oO 11 (.assign (.t 73))])
(.seq (.region false [] [
 oO 75 (.faddr 29 (.t 10) 1),
 oO 76 (.load 6 (.t 75)),
 oO 77 (.faddr 29 (.t 5) 1),
 oO 78 (.load 6 (.t 77)),
 oO 79 (.call 0 (.f 30) [(.t 76), (.t 78)]),
 oM 74 79,
 oO 80 (.extract (.t 74) 0),
 oO 81 (.extract (.t 74) 1),
 oO 12 (.assign (.t 80)),
 oO 13 (.assign (.t 81))])
(.seq (.seq (.region false [] [
 oM 82 11,
 oO 83 (.bin .neq 3 (.t 82) (.c (.int .i64 0))),
 oM 84 83,
⟨(some 85), .move (.t 13), (some (84, false))⟩,
⟨(some 86), .bin .neq 3 (.t 85) (.c (.int .i64 0)), (some (84, false))⟩,
 oO 87 (.pick (.t 84) (.c (.bool true)) (.t 86)),
 oM 88 87,
⟨(some 89), .move (.t 12), (some (88, false))⟩,
⟨(some 90), .bin .lss 2 (.t 89) (.c (.int .i64 0)), (some (88, false))⟩,
 oO 91 (.pick (.t 88) (.c (.bool true)) (.t 90))])
(.cond (.t 91) (.seq (.region false [] [
 oO 4 (.assign (.c (.bool false)))])
(.ret)) (.skip)))
(.seq (.region false [] [
 oO 92 (.faddr 29 (.t 5) 0),
 oO 93 (.load 6 (.t 92)),
 oM 94 7,
 oO 95 (.iaddr 6 (.t 93) (.t 94)),
 oO 96 (.load 2 (.t 95)),
 oM 97 8,
 oO 98 (.bin .sub 2 (.t 97) (.c (.int .i64 1))),
 oO 99 (.bin .eql 2 (.t 96) (.t 98)),
 oM 100 99,
⟨(some 101), .faddr 29 (.t 5) 0, (some (100, false))⟩,
⟨(some 102), .load 6 (.t 101), (some (100, false))⟩,
⟨(some 103), .faddr 29 (.t 10) 0, (some (100, false))⟩,
⟨(some 104), .load 6 (.t 103), (some (100, false))⟩,
⟨(some 105), .call 0 (.f 5) [(.t 102), (.t 104)], (some (100, false))⟩,
⟨(some 106), .move (.t 105), (some (100, false))⟩,
⟨(some 107), .faddr 29 (.t 5) 1, (some (106, true))⟩,
⟨(some 108), .load 6 (.t 107), (some (106, true))⟩,
⟨(some 109), .faddr 29 (.t 10) 1, (some (106, true))⟩,
⟨(some 110), .load 6 (.t 109), (some (106, true))⟩,
⟨(some 111), .call 0 (.f 145) [(.t 108), (.t 110)], (some (106, true))⟩,
⟨(some 112), .pick (.t 106) (.t 111) (.c (.bool false)), (some (100, false))⟩,
 oO 113 (.pick (.t 100) (.c (.bool true)) (.t 112)),
 oO 4 (.assign (.t 113))])
(.ret))))))))))))))⟩

def f145 : DFn := ⟨16, [.tmp 4],
    .seq (.region false [] [
 oO 4 (.assign (.c (.bool false)))])
(.seq (.region false [] [
 oM 5 0,
 oO 6 (.len 6 (.t 5)),
 oM 7 1,
 oO 8 (.len 6 (.t 7)),
 oO 9 (.bin .eql 2 (.t 6) (.t 8)),
 oM 10 9,
⟨(some 11), .move (.t 0), (some (10, true))⟩,
⟨(some 12), .move (.t 1), (some (10, true))⟩,
⟨(some 13), .call 0 (.f 111) [(.t 11), (.t 12)], (some (10, true))⟩,
⟨(some 14), .bin .eql 2 (.t 13) (.c (.int .i64 0)), (some (10, true))⟩,
 oO 15 (.pick (.t 10) (.t 14) (.c (.bool false))),
 oO 4 (.assign (.t 15))])
(.ret))⟩

def f146 : DFn := ⟨134, [.tmp 8],
    .seq (.region false [] [
 oO 4 (.box 0 (.t 0)),
 oO 8 (.assign (.c (.bool false)))])
(.seq (.seq (.region false [] [
 oO 22 (.call 0 (.f 128) []),
 oO 23 (.un .not (.t 22))])
(.cond (.t 23) (.seq (.region false [] [
 oO 8 (.assign (.c (.bool false)))])
(.ret)) (.skip)))
(.seq (.seq (.region false [] [
 oO 24 (.load 0 (.t 4)),
 oO 25 (.call 0 (.f 129) [(.t 24)]),
 oO 26 (.un .not (.t 25)),
 oM 27 26,
⟨(some 28), .move (.t 1), (some (27, false))⟩,
⟨(some 29), .len 6 (.t 28), (some (27, false))⟩,
⟨(some 30), .bin .gtr 2 (.t 29) (.c (.int .i64 70)), (some (27, false))⟩,
 oO 31 (.pick (.t 27) (.c (.bool true)) (.t 30))])
(.cond (.t 31) (.seq (.region false [] [
 oO 8 (.assign (.c (.bool true)))])
(.ret)) (.skip)))
(.seq (.region false [] [
 oO 33 (.load 0 (.t 4)),
 oO 34 (.call 0 (.f 131) [(.t 33)]),
 oM 32 34,
 oO 35 (.extract (.t 32) 0),
 oO 36 (.extract (.t 32) 1),
 oO 9 (.alloc 29),
 oE (.store 29 (.t 9) (.t 35)),
 oO 10 (.assign (.t 36))])
(.seq (.seq (.region false [] [
 oM 37 10,
 oO 38 (.bin .neq 3 (.t 37) (.c (.int .i64 0)))])
(.cond (.t 38) (.seq (.region false [] [
 oO 8 (.assign (.c (.bool true)))])
(.ret)) (.skip)))
(.seq (.region false [] [
 oO 40 (.load 0 (.t 4)),
 oO 41 (.faddr 29 (.t 9) 0),
 oO 42 (.load 6 (.t 41)),
 oO 43 (.call 0 (.f 26) [(.t 40), (.t 42)]),
 oM 39 43,
 oO 44 (.extract (.t 39) 0),
 oO 45 (.extract (.t 39) 1),
 oO 11 (.assign (.t 44)),
 oO 12 (.assign (.t 45))])
(.seq (.seq (.region false [] [
 oM 46 12,
 oO 47 (.bin .neq 3 (.t 46) (.c (.int .i64 0)))])
(.cond (.t 47) (.seq (.region false [] [
 oO 8 (.assign (.c (.bool false)))])
(.ret)) (.skip)))
(.seq (.seq (.region false [] [
 oO 49 (.load 0 (.t 4)),
 oM 50 1,
 oO 51 (.call 0 (.f 26) [(.t 49), (.t 50)]),
 oM 48 51,
 oO 52 (.extract (.t 48) 0),
 oO 53 (.extract (.t 48) 1),
 oO 13 (.assign (.t 52)),
 oO 14 (.assign (.t 53))])
(.seq (.region false [] [
 oM 54 14,
 oO 55 (.bin .eql 3 (.t 54) (.c (.int .i64 0))),
 oM 56 55,
⟨(some 57), .move (.t 13), (some (56, true))⟩,
⟨(some 58), .len 8 (.t 57), (some (56, true))⟩,
⟨(some 59), .bin .eql 2 (.t 58) (.c (.int .i64 0)), (some (56, true))⟩,
 oO 60 (.pick (.t 56) (.t 59) (.c (.bool false))),
 oM 61 60,
⟨(some 62), .move (.t 11), (some (61, true))⟩,
⟨(some 63), .len 8 (.t 62), (some (61, true))⟩,
⟨(some 64), .bin .gtr 2 (.t 63) (.c (.int .i64 0)), (some (61, true))⟩,
 oO 65 (.pick (.t 61) (.t 64) (.c (.bool false)))])
(.cond (.t 65) (.seq (.region false [] [
 oO 8 (.assign (.c (.bool false)))])
(.ret)) (.skip))))
(.seq (.seq (.region false [] [
 oO 66 (.faddr 0 (.t 4) 0),
 oO 67 (.load 10 (.t 66)),
 oO 68 (.len 10 (.t 67)),
 oO 69 (.bin .eql 2 (.t 68) (.c (.int .i64 0)))])
(.cond (.t 69) (.seq (.region false [] [
 oO 8 (.assign (.c (.bool true)))])
(.ret)) (.skip)))
(.seq (.region false [] [
 oO 70 (.load 0 (.t 4)),
 oO 15 (.alloc 0),
 oE (.store 0 (.t 15) (.t 70))])
(.seq (.region false [] [
 oO 71 (.bslice false 9 0 []),
 oO 72 (.faddr 0 (.t 4) 1),
 oO 73 (.load 9 (.t 72)),
 oO 74 (.append 1 9 9 (.t 71) (.t 73)),
 oO 75 (.faddr 0 (.t 15) 1),
 oE (.store 9 (.t 75) (.t 74))])
(.seq (.region true [] [
 oM 76 2,
 oO 77 (.conv 13 2 (.t 76)),
 oO 78 (.faddr 0 (.t 4) 1),
 oO 79 (.load 9 (.t 78)),
 oO 80 (.len 9 (.t 79)),
 oO 81 (.bin .rem 2 (.t 77) (.t 80)),
 oM 82 3,
 oO 83 (.conv 13 2 (.t 82)),
 oO 84 (.faddr 0 (.t 4) 0),
 oO 85 (.load 10 (.t 84)),
 oO 86 (.len 10 (.t 85)),
 oO 87 (.bin .rem 2 (.t 83) (.t 86)),
 oO 16 (.assign (.t 81)),
 oO 17 (.assign (.t 87))])
(.seq (.region true [] [
 oO 88 (.faddr 0 (.t 15) 1),
 oO 89 (.load 9 (.t 88)),
 oM 90 16,
 oO 91 (.bslice false 6 0 []),
 oO 92 (.faddr 0 (.t 4) 1),
 oO 93 (.load 9 (.t 92)),
 oM 94 16,
 oO 95 (.iaddr 9 (.t 93) (.t 94)),
 oO 96 (.load 6 (.t 95)),
 oO 97 (.append 1 6 6 (.t 91) (.t 96)),
 oO 98 (.iaddr 9 (.t 89) (.t 90)),
 oE (.store 6 (.t 98) (.t 97))])
(.seq (.region false [] [
 oO 99 (.faddr 0 (.t 15) 1),
 oO 100 (.load 9 (.t 99)),
 oM 101 16,
 oO 102 (.iaddr 9 (.t 100) (.t 101)),
 oO 103 (.load 6 (.t 102)),
 oM 104 17,
 oO 105 (.iaddr 6 (.t 103) (.t 104)),
 oO 106 (.load 2 (.t 105)),
 oO 107 (.bin .add 2 (.t 106) (.c (.int .i64 1))),
 oO 108 (.iaddr 6 (.t 103) (.t 104)),
 oE (.store 2 (.t 108) (.t 107))])
(.seq (.region false [] [
 oO 110 (.load 0 (.t 15)),
 oO 111 (.call 1 (.f 131) [(.t 110)]),
 oM 109 111,
 oO 112 (.extract (.t 109) 0),
 oO 113 (.extract (.t 109) 1),
 oO 18 (.alloc 29),
 oE (.store 29 (.t 18) (.t 112)),
 oO 19 (.assign (.t 113))])
(.seq (.seq (.region false [] [
 oM 114 19,
 oO 115 (.bin .neq 3 (.t 114) (.c (.int .i64 0)))])
(.cond (.t 115) (.seq (.region false [] [
 oO 116 (.load 0 (.t 15)),
 oO 117 (.call 1 (.f 15) [(.t 116)]),
 oM 118 19,
 oO 119 (.bin .eql 3 (.t 117) (.t 118)),
 oO 8 (.assign (.t 119))])
(.ret)) (.skip)))
(.seq (.region false [] [
 oO 121 (.faddr 29 (.t 18) 1),
 oO 122 (.load 6 (.t 121)),
 oO 123 (.faddr 29 (.t 9) 1),
 oO 124 (.load 6 (.t 123)),
 oO 125 (.call 0 (.f 30) [(.t 122), (.t 124)]),
 oM 120 125,
 oO 126 (.extract (.t 120) 0),
 oO 127 (.extract (.t 120) 1),
 oO 20 (.assign (.t 126)),
 oO 21 (.assign (.t 127))])
(.seq (.region false [] [
 oM 128 21,
 oO 129 (.bin .eql 3 (.t 128) (.c (.int .i64 0))),
 oM 130 129,
⟨(some 131), .move (.t 20), (some (130, true))⟩,
⟨(some 132), .bin .leq 2 (.t 131) (.c (.int .i64 0)), (some (130, true))⟩,
 oO 133 (.pick (.t 130) (.t 132) (.c (.bool false))),
 oO 8 (.assign (.t 133))])
(.ret))))))))))))))))))⟩

def f147 : DFn := ⟨129, [.tmp 4],
    .seq (.region false [] [
 oO 2 (.box 0 (.t 0)),
 oO 4 (.assign (.c (.bool false)))])
(.seq (.seq (.region false [] [
 oO 15 (.call 0 (.f 128) []),
 oO 16 (.un .not (.t 15))])
(.cond (.t 16) (.seq (.region false [] [
 oO 4 (.assign (.c (.bool false)))])
(.ret)) (.skip)))
(.seq (.seq (.region false [] [
 oO 17 (.load 0 (.t 2)),
 oO 18 (.call 0 (.f 129) [(.t 17)]),
 oO 19 (.un .not (.t 18)),
 oM 20 19,
⟨(some 21), .move (.t 1), (some (20, false))⟩,
⟨(some 22), .len 6 (.t 21), (some (20, false))⟩,
⟨(some 23), .bin .gtr 2 (.t 22) (.c (.int .i64 70)), (some (20, false))⟩,
 oO 24 (.pick (.t 20) (.c (.bool true)) (.t 23))])
(.cond (.t 24) (.seq (.region false [] [
 oO 4 (.assign (.c (.bool true)))])
(.ret)) (.skip)))
(.seq (.region false [] [
 oO 26 (.load 0 (.t 2)),
 oO 27 (.call 0 (.f 131) [(.t 26)]),
 oM 25 27,
 oO 28 (.extract (.t 25) 0),
 oO 29 (.extract (.t 25) 1),
 oO 5 (.alloc 29),
 oE (.store 29 (.t 5) (.t 28)),
 oO 6 (.assign (.t 29))])
(.seq (.seq (.region false [] [
 oM 30 6,
 oO 31 (.bin .neq 3 (.t 30) (.c (.int .i64 0)))])
(.cond (.t 31) (.seq (.region false [] [
 oM 32 6,
 oO 33 (.load 0 (.t 2)),
 oO 34 (.call 0 (.f 15) [(.t 33)]),
 oO 35 (.bin .eql 3 (.t 32) (.t 34)),
 oM 36 35,
⟨(some 37), .faddr 29 (.t 5) 0, (some (36, true))⟩,
⟨(some 38), .load 6 (.t 37), (some (36, true))⟩,
⟨(some 39), .len 6 (.t 38), (some (36, true))⟩,
⟨(some 40), .faddr 29 (.t 5) 1, (some (36, true))⟩,
⟨(some 41), .load 6 (.t 40), (some (36, true))⟩,
⟨(some 42), .len 6 (.t 41), (some (36, true))⟩,
⟨(some 43), .bin .add 2 (.t 39) (.t 42), (some (36, true))⟩,
⟨(some 44), .faddr 29 (.t 5) 2, (some (36, true))⟩,
⟨(some 45), .load 31 (.t 44), (some (36, true))⟩,
⟨(some 46), .len 31 (.t 45), (some (36, true))⟩,
⟨(some 47), .bin .add 2 (.t 43) (.t 46), (some (36, true))⟩,
⟨(some 48), .bin .eql 2 (.t 47) (.c (.int .i64 0)), (some (36, true))⟩,
 oO 49 (.pick (.t 36) (.t 48) (.c (.bool false))),
 oO 4 (.assign (.t 49))])
(.ret)) (.skip)))
(.seq (.region false [] [
 oO 51 (.load 0 (.t 2)),
 oO 52 (.faddr 29 (.t 5) 0),
 oO 53 (.load 6 (.t 52)),
 oO 54 (.call 0 (.f 22) [(.t 51), (.t 53)]),
 oM 50 54,
 oO 55 (.extract (.t 50) 0),
 oO 56 (.extract (.t 50) 1),
 oO 7 (.assign (.t 55)),
 oO 8 (.assign (.t 56))])
(.seq (.seq (.region false [] [
 oM 57 8,
 oO 58 (.bin .neq 3 (.t 57) (.c (.int .i64 0))),
 oM 59 58,
⟨(some 60), .move (.t 7), (some (59, false))⟩,
⟨(some 61), .faddr 29 (.t 5) 1, (some (59, false))⟩,
⟨(some 62), .load 6 (.t 61), (some (59, false))⟩,
⟨(some 63), .call 0 (.f 5) [(.t 60), (.t 62)], (some (59, false))⟩,
⟨(some 64), .un .not (.t 63), (some (59, false))⟩,
 oO 65 (.pick (.t 59) (.c (.bool true)) (.t 64))])
(.cond (.t 65) (.seq (.region false [] [
 oO 4 (.assign (.c (.bool false)))])
(.ret)) (.skip)))
(.seq (.seq (.region false [] [
 oO 67 (.load 0 (.t 2)),
 oM 68 1,
 oO 69 (.faddr 29 (.t 5) 0),
 oO 70 (.load 6 (.t 69)),
 oO 71 (.call 0 (.f 24) [(.t 67), (.t 68), (.t 70)]),
 oM 66 71,
 oO 72 (.extract (.t 66) 0),
 oO 73 (.extract (.t 66) 1),
 oO 9 (.assign (.t 72)),
 oO 10 (.assign (.t 73))])
(.seq (.region false [] [
 oM 74 10,
 oO 75 (.bin .eql 3 (.t 74) (.c (.int .i64 0))),
 oM 76 75,
⟨(some 77), .move (.t 9), (some (76, true))⟩,
 oO 78 (.pick (.t 76) (.t 77) (.c (.bool false)))])
(.cond (.t 78) (.seq (.region false [] [
 oO 4 (.assign (.c (.bool false)))])
(.ret)) (.skip))))
(.seq (.region false [] [
 oO 79 (.faddr 0 (.t 2) 2),
 oO 80 (.load 14 (.t 79)),
 oO 81 (.len 14 (.t 80)),
 oO 82 (.mkslice true 6 (.t 81) (.t 81)),
 oO 11 (.assign (.t 82))])
(.block 0 (.loop (.block 1 (.seq (.seq (.region false [] [
 oO 84 (.load 0 (.t 2)),
 oM 85 11,
 oO 86 (.faddr 29 (.t 5) 0),
 oO 87 (.load 6 (.t 86)),
 oO 88 (.call 3 (.f 24) [(.t 84), (.t 85), (.t 87)]),
 oM 83 88,
 oO 89 (.extract (.t 83) 0),
 oO 90 (.extract (.t 83) 1),
 oO 12 (.assign (.t 89)),
 oO 13 (.assign (.t 90))])
(.seq (.region false [] [
 oM 91 13,
 oO 92 (.bin .neq 3 (.t 91) (.c (.int .i64 0))),
 oM 93 92,
⟨(some 94), .move (.t 12), (some (93, false))⟩,
 oO 95 (.pick (.t 93) (.c (.bool true)) (.t 94))])
(.cond (.t 95) (.seq (.region false [] [
 oO 4 (.assign (.c (.bool false)))])
(.ret)) (.skip))))
(.seq (.region false [] [
 oM 96 11,
 oO 97 (.len 6 (.t 96)),
 oO 98 (.bin .sub 2 (.t 97) (.c (.int .i64 1))),
 oO 14 (.assign (.t 98))])
(.seq (.block 2 (.loop (.seq (.seq (.region true [] [
 oM 99 14,
 oO 100 (.bin .geq 2 (.t 99) (.c (.int .i64 0))),
 oM 101 100,
⟨(some 102), .move (.t 11), (some (101, true))⟩,
⟨(some 103), .move (.t 14), (some (101, true))⟩,
⟨(some 104), .iaddr 6 (.t 102) (.t 103), (some (101, true))⟩,
⟨(some 105), .load 2 (.t 104), (some (101, true))⟩,
⟨(some 106), .faddr 0 (.t 2) 2, (some (101, true))⟩,
⟨(some 107), .load 14 (.t 106), (some (101, true))⟩,
⟨(some 108), .move (.t 14), (some (101, true))⟩,
⟨(some 109), .iaddr 14 (.t 107) (.t 108), (some (101, true))⟩,
⟨(some 110), .faddr 15 (.t 109) 3, (some (101, true))⟩,
⟨(some 111), .load 16 (.t 110), (some (101, true))⟩,
⟨(some 112), .len 16 (.t 111), (some (101, true))⟩,
⟨(some 113), .bin .sub 2 (.t 112) (.c (.int .i64 1)), (some (101, true))⟩,
⟨(some 114), .bin .eql 2 (.t 105) (.t 113), (some (101, true))⟩,
 oO 115 (.pick (.t 101) (.t 114) (.c (.bool false)))])
(.cond (.t 115) (.skip) (.exit 2)))
(.block 3 (.seq (.region false [] [
 oM 116 11,
 oM 117 14,
 oO 118 (.iaddr 6 (.t 116) (.t 117)),
 oE (.store 2 (.t 118) (.c (.int .i64 0)))])
(.region false [] [
 oM 119 14,
 oO 120 (.bin .sub 2 (.t 119) (.c (.int .i64 1))),
 oO 14 (.assign (.t 120))]))))))
(.seq (.seq (.region false [] [
 oM 121 14,
 oO 122 (.bin .lss 2 (.t 121) (.c (.int .i64 0)))])
(.cond (.t 122) (.seq (.region false [] [
 oO 4 (.assign (.c (.bool true)))])
(.ret)) (.skip)))
(.region false [] [
 oM 123 11,
 oM 124 14,
 oO 125 (.iaddr 6 (.t 123) (.t 124)),
 oO 126 (.load 2 (.t 125)),
 oO 127 (.bin .add 2 (.t 126) (.c (.int .i64 1))),
 oO 128 (.iaddr 6 (.t 123) (.t 124)),
 oE (.store 2 (.t 128) (.t 127))]))))))))))))))))⟩

def f148 : DFn := ⟨126, [.tmp 4],
    .seq (.region false [] [
 oO 2 (.box 0 (.t 0)),
 oO 4 (.assign (.c (.bool false)))])
(.seq (.seq (.region false [] [
 oO 20 (.call 0 (.f 128) []),
 oO 21 (.un .not (.t 20))])
(.cond (.t 21) (.seq (.region false [] [
 oO 4 (.assign (.c (.bool false)))])
(.ret)) (.skip)))
(.seq (.seq (.region false [] [
 oO 22 (.load 0 (.t 2)),
 oO 23 (.call 0 (.f 129) [(.t 22)]),
 oO 24 (.un .not (.t 23)),
 oM 25 24,
⟨(some 26), .move (.t 1), (some (25, false))⟩,
⟨(some 27), .len 6 (.t 26), (some (25, false))⟩,
⟨(some 28), .bin .gtr 2 (.t 27) (.c (.int .i64 70)), (some (25, false))⟩,
 oO 29 (.pick (.t 25) (.c (.bool true)) (.t 28))])
(.cond (.t 29) (.seq (.region false [] [
 oO 4 (.assign (.c (.bool true)))])
(.ret)) (.skip)))
(.seq (.region false [] [
 oO 31 (.load 0 (.t 2)),
 oO 32 (.call 0 (.f 131) [(.t 31)]),
 oM 30 32,
 oO 33 (.extract (.t 30) 0),
 oO 34 (.extract (.t 30) 1),
 oO 5 (.alloc 29),
 oE (.store 29 (.t 5) (.t 33)),
 oO 6 (.assign (.t 34))])
(.seq (.seq (.region false [] [
 oM 35 6,
 oO 36 (.bin .neq 3 (.t 35) (.c (.int .i64 0)))])
(.cond (.t 36) (.seq (.region false [] [
 oO 4 (.assign (.c (.bool true)))])
(.ret)) (.skip)))
(.seq (.seq (.region false [] [
 oO 37 (.faddr 29 (.t 5) 2),
 oO 38 (.load 31 (.t 37)),
 oO 39 (.len 31 (.t 38)),
 oO 40 (.move (.c (.int .i64 0)))])
(.block 0 (.loop (.seq (.region false [] [
 oO 41 (.bin .lss 2 (.t 40) (.t 39))])
(.seq (.cond (.t 41) (.skip) (.exit 0))
(.seq (.block 1 (.seq (.region false [] [
 oO 42 (.iaddr 31 (.t 38) (.t 40)),
 oO 43 (.load 32 (.t 42)),
 oO 8 (.alloc 32),
 oE (.store 32 (.t 8) (.t 43))])
(.seq (.region false [] [
 oO 45 (.load 0 (.t 2)),
 oO 46 (.faddr 32 (.t 8) 0),
 oO 47 (.load 1 (.t 46)),
 oO 48 (.call 0 (.f 3) [(.t 45), (.t 47)]),
 oM 44 48,
 oO 49 (.extract (.t 44) 0),
 oO 50 (.extract (.t 44) 1),
 oO 9 (.assign (.t 49)),
 oO 10 (.assign (.t 50))])
(.seq (.region false [] [
 oM 52 9,
 oO 53 (.faddr 29 (.t 5) 1),
 oO 54 (.load 6 (.t 53)),
 oO 55 (.call 0 (.f 30) [(.t 52), (.t 54)]),
 oM 51 55,
 oO 56 (.extract (.t 51) 0),
 oO 57 (.extract (.t 51) 1),
 oO 11 (.assign (.t 56)),
 oO 12 (.assign (.t 57))])
(.seq (.seq (.region false [] [
 oM 58 10,
 oO 59 (.bin .neq 3 (.t 58) (.c (.int .i64 0))),
 oM 60 59,
⟨(some 61), .move (.t 12), (some (60, false))⟩,
⟨(some 62), .bin .neq 3 (.t 61) (.c (.int .i64 0)), (some (60, false))⟩,
 oO 63 (.pick (.t 60) (.c (.bool true)) (.t 62)),
 oM 64 63,
⟨(some 65), .move (.t 11), (some (64, false))⟩,
⟨(some 66), .bin .lss 2 (.t 65) (.c (.int .i64 0)), (some (64, false))⟩,
 oO 67 (.pick (.t 64) (.c (.bool true)) (.t 66)),
 oM 68 67,
⟨(some 69), .faddr 32 (.t 8) 2, (some (68, false))⟩,
⟨(some 70), .load 9 (.t 69), (some (68, false))⟩,
⟨(some 71), .len 9 (.t 70), (some (68, false))⟩,
⟨(some 72), .bin .gtr 2 (.t 71) (.c (.int .i64 0)), (some (68, false))⟩,
 oO 73 (.pick (.t 68) (.c (.bool true)) (.t 72))])
(.cond (.t 73) (.seq (.region false [] [
 oO 4 (.assign (.c (.bool false)))])
(.ret)) (.skip)))
(.seq (.region false [] [
 oO 74 (.faddr 32 (.t 8) 1),
 oO 75 (.load 2 (.t 74))])
(.block 2 (.seq (.region false [] [
 oO 77 (.bin .eql 2 (.t 75) (.c (.int .i64 1))),
 oO 76 (.assign (.t 77))])
(.cond (.t 76) (.seq (.region false [] [
 oO 79 (.load 0 (.t 2)),
 oO 80 (.faddr 32 (.t 8) 0),
 oO 81 (.load 1 (.t 80)),
 oO 82 (.faddr 29 (.t 5) 0),
 oO 83 (.load 6 (.t 82)),
 oO 84 (.call 0 (.f 24) [(.t 79), (.t 81), (.t 83)]),
 oM 78 84,
 oO 85 (.extract (.t 78) 0),
 oO 86 (.extract (.t 78) 1),
 oO 13 (.assign (.t 85)),
 oO 14 (.assign (.t 86))])
(.seq (.region false [] [
 oM 87 14,
 oO 88 (.bin .neq 3 (.t 87) (.c (.int .i64 0))),
 oM 89 88,
⟨(some 90), .move (.t 13), (some (89, false))⟩,
 oO 91 (.pick (.t 89) (.c (.bool true)) (.t 90))])
(.cond (.t 91) (.seq (.region false [] [
 oO 4 (.assign (.c (.bool false)))])
(.ret)) (.skip)))) (.seq (.region false [] [
 oO 93 (.bin .eql 2 (.t 75) (.c (.int .i64 2))),
 oO 92 (.assign (.t 93))])
(.cond (.t 92) (.seq (.region false [] [
 oO 94 (.faddr 32 (.t 8) 0),
 oO 95 (.load 1 (.t 94)),
 oO 96 (.len 1 (.t 95)),
 oO 97 (.faddr 0 (.t 2) 2),
 oO 98 (.load 14 (.t 97)),
 oO 99 (.len 14 (.t 98)),
 oO 100 (.bin .eql 2 (.t 96) (.t 99))])
(.cond (.t 100) (.seq (.region false [] [
 oO 4 (.assign (.c (.bool false)))])
(.ret)) (.skip))) (.seq (.region false [] [
 oO 4 (.assign (.c (.bool false)))])
(.ret)))))))))))))
(.region false [] [
 oO 101 (.bin .add 2 (.t 40) (.c (.int .i64 1))),
 oM 40 101])))))))
(.seq (.seq (.region false [] [
 oO 103 (.load 0 (.t 2)),
 oM 104 1,
 oO 105 (.call 0 (.f 22) [(.t 103), (.t 104)]),
 oM 102 105,
 oO 106 (.extract (.t 102) 0),
 oO 107 (.extract (.t 102) 1),
 oO 15 (.assign (.t 106)),
 oO 16 (.assign (.t 107))])
(.seq (.region false [] [
 oM 108 16,
 oO 109 (.bin .neq 3 (.t 108) (.c (.int .i64 0)))])
(.cond (.t 109) (.seq (.region false [] [
 oO 4 (.assign (.c (.bool true)))])
(.ret)) (.skip))))
(.seq (.region false [] [
 oO 17 (.assign (.c (.int .i64 0)))])
(.seq (.seq (.region false [] [
 oO 110 (.faddr 29 (.t 5) 2),
 oO 111 (.load 31 (.t 110)),
 oO 112 (.len 31 (.t 111)),
 oO 113 (.move (.c (.int .i64 0)))])
(.block 3 (.loop (.seq (.region false [] [
 oO 114 (.bin .lss 2 (.t 113) (.t 112))])
(.seq (.cond (.t 114) (.skip) (.exit 3))
(.seq (.block 4 (.seq (.region false [] [
 oO 115 (.iaddr 31 (.t 111) (.t 113)),
 oO 116 (.load 32 (.t 115)),
 oO 19 (.alloc 32),
 oE (.store 32 (.t 19) (.t 116))])
(.seq (.region false [] [
 oM 117 1,
 oO 118 (.faddr 32 (.t 19) 0),
 oO 119 (.load 1 (.t 118)),
 oO 120 (.call 0 (.f 57) [(.t 117), (.t 119)])])
(.cond (.t 120) (.region false [] [
 oM 121 17,
 oO 122 (.bin .add 2 (.t 121) (.c (.int .i64 1))),
 oO 17 (.assign (.t 122))]) (.skip)))))
(.region false [] [
 oO 123 (.bin .add 2 (.t 113) (.c (.int .i64 1))),
 oM 113 123])))))))
(.seq (.region false [] [
 oM 124 17,
 oO 125 (.bin .eql 2 (.t 124) (.c (.int .i64 1))),
 oO 4 (.assign (.t 125))])
(.ret))))))))))⟩

def f149 : DFn := ⟨18, [.cell 0 0],
    .seq (.region false [] [
 oO 0 (.alloc 0)])
(.seq (.region false [] [
 oO 4 (.build 20 [(2, (.c (.int .i64 5)))]),
 oO 5 (.build 20 [(2, (.c (.int .i64 6)))]),
 oO 6 (.bslice false 10 2 [(0, (.t 4)), (1, (.t 5))]),
 oO 1 (.alloc 10),
 oE (.store 10 (.t 1) (.t 6))])
(.seq (.region false [] [
 oO 7 (.mkfn 163 [(.t 1)]),
 oO 2 (.alloc 34),
 oE (.store 34 (.t 2) (.t 7))])
(.seq (.region false [] [
 oO 8 (.mkfn 164 [(.t 2)]),
 oO 3 (.assign (.t 8))])
(.seq (.region true [] [
 oO 9 (.load 10 (.t 1)),
 oO 10 (.bslice false 6 2 [(0, (.c (.int .i64 1))), (1, (.c (.int .i64 1)))]),
 oO 11 (.bslice false 9 1 [(0, (.t 10))]),
 oM 12 3,
 oO 13 (.call 1 (.t 12) [(.c (.int .i64 10))]),
 oM 14 3,
 oO 15 (.call 1 (.t 14) [(.c (.int .i64 20))]),
 oO 16 (.bslice false 14 2 [(0, (.t 13)), (1, (.t 15))]),
 oO 17 (.build 0 [(0, (.t 9)), (1, (.t 11)), (2, (.t 16))]),
 oE (.store 0 (.t 0) (.t 17))])
(.ret)))))⟩

def f150 : DFn := ⟨103, [.cell 6 28],
    .seq (.region false [] [
 oO 3 (.box 0 (.t 0)),
 oO 4 (.box 28 (.t 1)),
 oO 6 (.alloc 28)])
(.seq (.region false [] [
 oO 17 (.faddr 28 (.t 4) 0),
 oO 18 (.load 4 (.t 17)),
 oO 19 (.call 0 (.f 165) [(.t 18)]),
 oO 7 (.alloc 35),
 oE (.store 35 (.t 7) (.t 19))])
(.seq (.region false [] [
 oO 20 (.faddr 28 (.t 4) 3),
 oO 21 (.load 31 (.t 20)),
 oO 22 (.call 0 (.f 166) [(.t 21)]),
 oO 23 (.faddr 28 (.t 4) 3),
 oE (.store 31 (.t 23) (.t 22))])
(.seq (.region false [] [
 oO 24 (.mkfn 167 [(.t 4)]),
 oO 8 (.assign (.t 24))])
(.seq (.block 0 (.loop (.seq (.seq (.region false [] [
 oO 25 (.load 35 (.t 7)),
 oO 26 (.len 35 (.t 25)),
 oO 27 (.bin .gtr 2 (.t 26) (.c (.int .i64 0))),
 oM 28 27,
⟨(some 29), .move (.t 2), (some (28, true))⟩,
⟨(some 30), .call 2 (.t 29) [], (some (28, true))⟩,
 oO 31 (.pick (.t 28) (.t 30) (.c (.bool false)))])
(.cond (.t 31) (.skip) (.exit 0)))
(.block 1 (.seq (.region false [] [
 oO 9 (.assign (.c (.imm .exact [])))])
(.seq (.region false [] [
 oO 33 (.load 35 (.t 7)),
 oO 34 (.call 0 (.f 168) [(.t 33)]),
 oM 32 34,
 oO 35 (.extract (.t 32) 0),
 oO 36 (.extract (.t 32) 1),
 oO 9 (.assign (.t 35)),
 oE (.store 35 (.t 7) (.t 36))])
(.seq (.seq (.region false [] [
 oM 37 9,
 oO 38 (.len 1 (.t 37)),
 oO 39 (.faddr 0 (.t 3) 2),
 oO 40 (.load 14 (.t 39)),
 oO 41 (.len 14 (.t 40)),
 oO 42 (.bin .eql 2 (.t 38) (.t 41))])
(.cond (.t 42) (.seq (.region false [] [
 oO 44 (.load 0 (.t 3)),
 oM 45 9,
 oO 46 (.call 0 (.f 22) [(.t 44), (.t 45)]),
 oM 43 46,
 oO 47 (.extract (.t 43) 0),
 oO 48 (.extract (.t 43) 1),
 oO 10 (.assign (.t 47)),
 oO 11 (.assign (.t 48))])
(.seq (.seq (.region false [] [
 oO 49 (.faddr 28 (.t 4) 2),
 oO 50 (.load 6 (.t 49)),
 oO 51 (.len 6 (.t 50)),
 oO 52 (.bin .eql 2 (.t 51) (.c (.int .i64 0))),
 oM 53 52,
⟨(some 54), .move (.t 10), (some (53, false))⟩,
⟨(some 55), .faddr 28 (.t 4) 2, (some (53, false))⟩,
⟨(some 56), .load 6 (.t 55), (some (53, false))⟩,
⟨(some 57), .call 0 (.f 87) [(.t 54), (.t 56)], (some (53, false))⟩,
⟨(some 58), .bin .lss 2 (.t 57) (.c (.int .i64 0)), (some (53, false))⟩,
 oO 59 (.pick (.t 53) (.c (.bool true)) (.t 58))])
(.cond (.t 59) (.region false [] [
 oM 60 9,
 oM 61 10,
 oO 62 (.faddr 28 (.t 4) 1),
 oE (.store 6 (.t 62) (.t 60)),
 oO 63 (.faddr 28 (.t 4) 2),
 oE (.store 6 (.t 63) (.t 61))]) (.skip)))
(.seq (.region false [] [
 oM 64 8,
 oM 65 9,
 oO 66 (.call 2 (.t 64) [(.t 65), (.c (.int .i64 1))])])
(.exit 1)))) (.skip)))
(.seq (.seq (.region false [] [
 oO 68 (.load 0 (.t 3)),
 oM 69 9,
 oO 70 (.call 0 (.f 3) [(.t 68), (.t 69)]),
 oM 67 70,
 oO 71 (.extract (.t 67) 0),
 oO 72 (.extract (.t 67) 1),
 oO 12 (.assign (.t 71)),
 oO 13 (.assign (.t 72))])
(.seq (.region false [] [
 oO 73 (.faddr 28 (.t 4) 2),
 oO 74 (.load 6 (.t 73)),
 oO 75 (.len 6 (.t 74)),
 oO 76 (.bin .gtr 2 (.t 75) (.c (.int .i64 0))),
 oM 77 76,
⟨(some 78), .move (.t 12), (some (77, true))⟩,
⟨(some 79), .faddr 28 (.t 4) 2, (some (77, true))⟩,
⟨(some 80), .load 6 (.t 79), (some (77, true))⟩,
⟨(some 81), .call 0 (.f 87) [(.t 78), (.t 80)], (some (77, true))⟩,
⟨(some 82), .bin .geq 2 (.t 81) (.c (.int .i64 0)), (some (77, true))⟩,
 oO 83 (.pick (.t 77) (.t 82) (.c (.bool false)))])
(.cond (.t 83) (.seq (.region false [] [
 oM 84 8,
 oM 85 9,
 oO 86 (.call 2 (.t 84) [(.t 85), (.c (.int .i64 2))])])
(.exit 1)) (.skip))))
(.seq (.region false [] [
 oO 88 (.load 0 (.t 3)),
 oM 89 9,
 oO 90 (.call 0 (.f 7) [(.t 88), (.t 89)]),
 oM 87 90,
 oO 91 (.extract (.t 87) 0),
 oO 92 (.extract (.t 87) 1),
 oO 14 (.assign (.t 91)),
 oO 15 (.assign (.t 92))])
(.seq (.region false [] [
 oM 93 14,
 oO 94 (.call 0 (.f 169) [(.t 93)])])
(.block 2 (.rfunc (.t 94) [95] (.region false [] [
 oO 16 (.assign (.t 95))]) (.block 3 (.region false [] [
 oO 96 (.load 35 (.t 7)),
 oM 97 16,
 oO 98 (.bslice false 35 1 [(0, (.t 97))]),
 oO 99 (.append 0 35 35 (.t 96) (.t 98)),
 oE (.store 35 (.t 7) (.t 99))]))))))))))))))
(.seq (.region false [] [
 oO 100 (.load 35 (.t 7)),
 oO 101 (.faddr 28 (.t 4) 0),
 oE (.store 4 (.t 101) (.t 100))])
(.seq (.region false [] [
 oO 102 (.load 28 (.t 4)),
 oE (.store 28 (.t 6) (.t 102))])
(.ret)))))))⟩

def f151 : DFn := ⟨1, [.tmp 0],
    .seq (.region false [] [
 oO 0 (.assign (.c (.bool false)))])
(.seq (.region false [] [
 oO 0 (.assign (.c (.bool true)))])
(.ret))⟩

def f152 : DFn := ⟨14, [.cell 2 28, .tmp 3],
    .seq (.region false [] [
 oO 1 (.box 0 (.t 0)),
 oO 2 (.alloc 28),
 oO 3 (.assign (.c (.int .i64 0)))])
(.seq (.region false [] [
 oO 5 (.load 0 (.t 1)),
 oO 6 (.call 0 (.f 19) [(.t 5)]),
 oO 4 (.assign (.t 6))])
(.seq (.seq (.region false [] [
 oM 7 4,
 oO 8 (.bin .neq 3 (.t 7) (.c (.int .i64 0)))])
(.cond (.t 8) (.seq (.region false [] [
 oO 9 (.build 28 []),
 oM 10 4,
 oE (.store 28 (.t 2) (.t 9)),
 oO 3 (.assign (.t 10))])
(.ret)) (.skip)))
(.seq (.region false [] [
 oO 11 (.bslice false 1 0 []),
 oO 12 (.bslice false 4 1 [(0, (.t 11))]),
 oO 13 (.build 28 [(0, (.t 12))]),
 oE (.store 28 (.t 2) (.t 13)),
 oO 3 (.assign (.c (.int .i64 0)))])
(.ret))))⟩

def f153 : DFn := ⟨7, [.tmp 2],
    .seq (.region false [] [
 oO 1 (.box 28 (.t 0)),
 oO 2 (.assign (.c (.bool false)))])
(.seq (.region false [] [
 oO 3 (.faddr 28 (.t 1) 0),
 oO 4 (.load 4 (.t 3)),
 oO 5 (.len 4 (.t 4)),
 oO 6 (.bin .eql 2 (.t 5) (.c (.int .i64 0))),
 oO 2 (.assign (.t 6))])
(.ret))⟩

def f154 : DFn := ⟨117, [.cell 4 28],
    .seq (.region false [] [
 oO 2 (.box 0 (.t 0)),
 oO 3 (.box 28 (.t 1)),
 oO 4 (.alloc 28)])
(.seq (.region false [] [
 oO 14 (.faddr 28 (.t 3) 0),
 oO 15 (.load 4 (.t 14)),
 oO 16 (.len 4 (.t 15)),
 oO 17 (.bin .sub 2 (.t 16) (.c (.int .i64 1))),
 oO 5 (.assign (.t 17))])
(.seq (.region false [] [
 oO 18 (.faddr 28 (.t 3) 0),
 oO 19 (.load 4 (.t 18)),
 oM 20 5,
 oO 21 (.iaddr 4 (.t 19) (.t 20)),
 oO 22 (.load 1 (.t 21)),
 oO 6 (.assign (.t 22))])
(.seq (.region false [] [
 oO 23 (.bslice false 4 0 []),
 oO 24 (.faddr 28 (.t 3) 0),
 oO 25 (.load 4 (.t 24)),
 oM 26 5,
 oO 27 (.slice 4 (.t 25) none (some (.t 26)) none),
 oO 28 (.append 0 4 4 (.t 23) (.t 27)),
 oO 29 (.faddr 28 (.t 3) 0),
 oE (.store 4 (.t 29) (.t 28))])
(.seq (.seq (.region false [] [
 oM 30 6,
 oO 31 (.len 1 (.t 30)),
 oO 32 (.faddr 0 (.t 2) 2),
 oO 33 (.load 14 (.t 32)),
 oO 34 (.len 14 (.t 33)),
 oO 35 (.bin .eql 2 (.t 31) (.t 34))])
(.cond (.t 35) (.seq (.region false [] [
 oO 37 (.load 0 (.t 2)),
 oM 38 6,
 oO 39 (.call 0 (.f 23) [(.t 37), (.t 38)]),
 oM 36 39,
 oO 40 (.extract (.t 36) 0),
 oO 41 (.extract (.t 36) 1),
 oO 7 (.assign (.t 40)),
 oO 8 (.assign (.t 41))])
(.seq (.seq (.region false [] [
 oO 42 (.faddr 28 (.t 3) 2),
 oO 43 (.load 6 (.t 42)),
 oO 44 (.len 6 (.t 43)),
 oO 45 (.bin .eql 2 (.t 44) (.c (.int .i64 0))),
 oM 46 45,
⟨(some 47), .move (.t 7), (some (46, false))⟩,
⟨(some 48), .faddr 28 (.t 3) 2, (some (46, false))⟩,
⟨(some 49), .load 6 (.t 48), (some (46, false))⟩,
⟨(some 50), .call 0 (.f 111) [(.t 47), (.t 49)], (some (46, false))⟩,
⟨(some 51), .bin .lss 2 (.t 50) (.c (.int .i64 0)), (some (46, false))⟩,
 oO 52 (.pick (.t 46) (.c (.bool true)) (.t 51))])
(.cond (.t 52) (.seq (.region false [] [
 oM 53 6,
 oO 54 (.faddr 28 (.t 3) 1),
 oE (.store 6 (.t 54) (.t 53))])
(.region false [] [
 oM 55 7,
 oO 56 (.faddr 28 (.t 3) 2),
 oE (.store 6 (.t 56) (.t 55))])) (.skip)))
(.seq (.region false [] [
 oO 57 (.bslice false 31 0 []),
 oO 58 (.faddr 28 (.t 3) 3),
 oO 59 (.load 31 (.t 58)),
 oO 60 (.append 0 31 31 (.t 57) (.t 59)),
 oM 61 6,
 oO 62 (.build 32 [(0, (.t 61)), (1, (.c (.int .i64 1)))]),
 oO 63 (.bslice false 31 1 [(0, (.t 62))]),
 oO 64 (.append 0 31 31 (.t 60) (.t 63)),
 oO 65 (.faddr 28 (.t 3) 3),
 oE (.store 31 (.t 65) (.t 64))])
(.seq (.region false [] [
 oO 66 (.load 28 (.t 3)),
 oE (.store 28 (.t 4) (.t 66))])
(.ret))))) (.skip)))
(.seq (.region false [] [
 oO 68 (.load 0 (.t 2)),
 oM 69 6,
 oO 70 (.call 0 (.f 4) [(.t 68), (.t 69)]),
 oM 67 70,
 oO 71 (.extract (.t 67) 0),
 oO 72 (.extract (.t 67) 1),
 oO 9 (.assign (.t 71)),
 oO 10 (.assign (.t 72))])
(.seq (.seq (.region false [] [
 oO 73 (.faddr 28 (.t 3) 2),
 oO 74 (.load 6 (.t 73)),
 oO 75 (.len 6 (.t 74)),
 oO 76 (.bin .gtr 2 (.t 75) (.c (.int .i64 0))),
 oM 77 76,
⟨(some 78), .move (.t 9), (some (77, true))⟩,
⟨(some 79), .faddr 28 (.t 3) 2, (some (77, true))⟩,
⟨(some 80), .load 6 (.t 79), (some (77, true))⟩,
⟨(some 81), .call 0 (.f 111) [(.t 78), (.t 80)], (some (77, true))⟩,
⟨(some 82), .bin .geq 2 (.t 81) (.c (.int .i64 0)), (some (77, true))⟩,
 oO 83 (.pick (.t 77) (.t 82) (.c (.bool false)))])
(.cond (.t 83) (.seq (.region false [] [
 oO 84 (.bslice false 31 0 []),
 oO 85 (.faddr 28 (.t 3) 3),
 oO 86 (.load 31 (.t 85)),
 oO 87 (.append 0 31 31 (.t 84) (.t 86)),
 oM 88 6,
 oO 89 (.build 32 [(0, (.t 88)), (1, (.c (.int .i64 2)))]),
 oO 90 (.bslice false 31 1 [(0, (.t 89))]),
 oO 91 (.append 0 31 31 (.t 87) (.t 90)),
 oO 92 (.faddr 28 (.t 3) 3),
 oE (.store 31 (.t 92) (.t 91))])
(.seq (.region false [] [
 oO 93 (.load 28 (.t 3)),
 oE (.store 28 (.t 4) (.t 93))])
(.ret))) (.skip)))
(.seq (.region false [] [
 oO 95 (.load 0 (.t 2)),
 oM 96 6,
 oO 97 (.call 0 (.f 8) [(.t 95), (.t 96)]),
 oM 94 97,
 oO 98 (.extract (.t 94) 0),
 oO 99 (.extract (.t 94) 1),
 oO 11 (.assign (.t 98)),
 oO 12 (.assign (.t 99))])
(.seq (.seq (.region false [] [
 oM 100 11,
 oO 101 (.len 4 (.t 100)),
 oO 102 (.bin .sub 2 (.t 101) (.c (.int .i64 1))),
 oO 13 (.assign (.t 102))])
(.block 0 (.loop (.seq (.seq (.region false [] [
 oM 103 13,
 oO 104 (.bin .geq 2 (.t 103) (.c (.int .i64 0)))])
(.cond (.t 104) (.skip) (.exit 0)))
(.seq (.block 1 (.region true [] [
 oO 107 (.faddr 28 (.t 3) 0),
 oO 108 (.load 4 (.t 107)),
 oM 109 11,
 oM 110 13,
 oO 111 (.iaddr 4 (.t 109) (.t 110)),
 oO 112 (.load 1 (.t 111)),
 oO 113 (.bslice false 4 1 [(0, (.t 112))]),
 oO 114 (.append 0 4 4 (.t 108) (.t 113)),
 oO 115 (.faddr 28 (.t 3) 0),
 oE (.store 4 (.t 115) (.t 114))]))
(.region false [] [
 oM 105 13,
 oO 106 (.bin .sub 2 (.t 105) (.c (.int .i64 1))),
 oO 13 (.assign (.t 106))]))))))
(.seq (.region false [] [
 oO 116 (.load 28 (.t 3)),
 oE (.store 28 (.t 4) (.t 116))])
(.ret))))))))))⟩

def f155 : DFn := ⟨47, [.tmp 4],
    .seq (.region false [] [
 oO 2 (.box 0 (.t 0)),
 oO 3 (.box 28 (.t 1)),
 oO 4 (.assign (.c (.int .i64 0)))])
(.seq (.region false [] [
 oO 8 (.load 0 (.t 2)),
 oO 9 (.call 0 (.f 19) [(.t 8)]),
 oO 5 (.assign (.t 9))])
(.seq (.seq (.region false [] [
 oM 10 5,
 oO 11 (.bin .neq 3 (.t 10) (.c (.int .i64 0)))])
(.cond (.t 11) (.seq (.region false [] [
 oM 12 5,
 oO 4 (.assign (.t 12))])
(.ret)) (.skip)))
(.seq (.seq (.region false [] [
 oO 6 (.assign (.c (.int .i64 0)))])
(.block 0 (.loop (.seq (.seq (.region false [] [
 oM 13 6,
 oO 14 (.faddr 28 (.t 3) 0),
 oO 15 (.load 4 (.t 14)),
 oO 16 (.len 4 (.t 15)),
 oO 17 (.bin .lss 2 (.t 13) (.t 16))])
(.cond (.t 17) (.skip) (.exit 0)))
(.seq (.block 1 (.seq (.region true [] [
 oO 20 (.load 0 (.t 2)),
 oO 21 (.faddr 28 (.t 3) 0),
 oO 22 (.load 4 (.t 21)),
 oM 23 6,
 oO 24 (.iaddr 4 (.t 22) (.t 23)),
 oO 25 (.load 1 (.t 24)),
 oO 26 (.call 0 (.f 78) [(.t 20), (.t 25)]),
 oO 27 (.un .not (.t 26))])
(.cond (.t 27) (.seq (.region false [] [
 oO 4 (.assign (.c (.int .i64 300)))])
(.ret)) (.skip))))
(.region false [] [
 oM 18 6,
 oO 19 (.bin .add 2 (.t 18) (.c (.int .i64 1))),
 oO 6 (.assign (.t 19))]))))))
(.seq (.seq (.region false [] [
 oO 7 (.assign (.c (.int .i64 0)))])
(.block 2 (.loop (.seq (.seq (.region false [] [
 oM 28 7,
 oO 29 (.faddr 28 (.t 3) 3),
 oO 30 (.load 31 (.t 29)),
 oO 31 (.len 31 (.t 30)),
 oO 32 (.bin .lss 2 (.t 28) (.t 31))])
(.cond (.t 32) (.skip) (.exit 2)))
(.seq (.block 3 (.seq (.region true [] [
 oO 35 (.load 0 (.t 2)),
 oO 36 (.faddr 28 (.t 3) 3),
 oO 37 (.load 31 (.t 36)),
 oM 38 7,
 oO 39 (.iaddr 31 (.t 37) (.t 38)),
 oO 40 (.load 32 (.t 39)),
 oO 41 (.call 0 (.f 170) [(.t 35), (.t 40)]),
 oO 42 (.un .not (.t 41))])
(.cond (.t 42) (.seq (.region false [] [
 oO 4 (.assign (.c (.int .i64 300)))])
(.ret)) (.skip))))
(.region false [] [
 oM 33 7,
 oO 34 (.bin .add 2 (.t 33) (.c (.int .i64 1))),
 oO 7 (.assign (.t 34))]))))))
(.seq (.seq (.region false [] [
 oO 43 (.load 0 (.t 2)),
 oO 44 (.load 28 (.t 3)),
 oO 45 (.call 0 (.f 171) [(.t 43), (.t 44)]),
 oO 46 (.un .not (.t 45))])
(.cond (.t 46) (.seq (.region false [] [
 oO 4 (.assign (.c (.int .i64 300)))])
(.ret)) (.skip)))
(.seq (.region false [] [
 oO 4 (.assign (.c (.int .i64 0)))])
(.ret)))))))⟩

def f156 : DFn := ⟨6, [.tmp 1],
    .seq (.region false [] [
 oO 1 (.assign (.c (.bool false)))])
(.seq (.region false [] [
 oO 2 (.load 2 (.t 0)),
 oO 3 (.bin .sub 2 (.t 2) (.c (.int .i64 1))),
 oE (.store 2 (.t 0) (.t 3))])
(.seq (.region false [] [
 oO 4 (.load 2 (.t 0)),
 oO 5 (.bin .geq 2 (.t 4) (.c (.int .i64 0))),
 oO 1 (.assign (.t 5))])
(.ret)))⟩

def f157 : DFn := ⟨35, [.tmp 3],
    .seq (.region false [] [
 oO 2 (.box 32 (.t 0)),
 oO 3 (.assign (.c (.bool false)))])
(.seq (.region false [] [
 oO 5 (.faddr 32 (.t 2) 1),
 oO 6 (.load 2 (.t 5)),
 oO 7 (.bin .eql 2 (.t 6) (.c (.int .i64 1))),
 oM 8 7,
⟨(some 9), .faddr 32 (.t 2) 0, (some (8, true))⟩,
⟨(some 10), .load 1 (.t 9), (some (8, true))⟩,
⟨(some 11), .len 1 (.t 10), (some (8, true))⟩,
⟨(some 12), .faddr 0 (.t 1) 2, (some (8, true))⟩,
⟨(some 13), .load 14 (.t 12), (some (8, true))⟩,
⟨(some 14), .len 14 (.t 13), (some (8, true))⟩,
⟨(some 15), .bin .eql 2 (.t 11) (.t 14), (some (8, true))⟩,
 oO 16 (.pick (.t 8) (.t 15) (.c (.bool false))),
 oO 4 (.assign (.t 16))])
(.seq (.region false [] [
 oO 17 (.load 0 (.t 1)),
 oO 18 (.faddr 32 (.t 2) 0),
 oO 19 (.load 1 (.t 18)),
 oO 20 (.call 0 (.f 172) [(.t 17), (.t 19)]),
 oM 21 20,
⟨(some 22), .faddr 32 (.t 2) 2, (some (21, true))⟩,
⟨(some 23), .load 9 (.t 22), (some (21, true))⟩,
⟨(some 24), .len 9 (.t 23), (some (21, true))⟩,
⟨(some 25), .bin .eql 2 (.t 24) (.c (.int .i64 0)), (some (21, true))⟩,
 oO 26 (.pick (.t 21) (.t 25) (.c (.bool false))),
 oM 27 26,
⟨(some 28), .move (.t 4), (some (27, true))⟩,
⟨(some 29), .move (.t 28), (some (27, true))⟩,
⟨(some 30), .faddr 32 (.t 2) 1, (some (29, false))⟩,
⟨(some 31), .load 2 (.t 30), (some (29, false))⟩,
⟨(some 32), .bin .eql 2 (.t 31) (.c (.int .i64 2)), (some (29, false))⟩,
⟨(some 33), .pick (.t 29) (.c (.bool true)) (.t 32), (some (27, true))⟩,
 oO 34 (.pick (.t 27) (.t 33) (.c (.bool false))),
 oO 3 (.assign (.t 34))])
(.ret)))⟩

def f158 : DFn := ⟨8, [.tmp 3],
    .seq (.region false [] [
 oO 3 (.assign (.c (.bool false)))])
(.seq (.region false [] [
 oO 4 (.load 0 (.t 1)),
 oM 5 0,
 oO 6 (.call 0 (.f 172) [(.t 4), (.t 5)]),
 oO 7 (.un .not (.t 6)),
 oO 3 (.assign (.t 7))])
(.ret))⟩

def f159 : DFn := ⟨9, [.tmp 4],
    .seq (.region false [] [
 oO 4 (.assign (.c (.bool false)))])
(.seq (.region false [] [
 oM 5 0,
 oM 6 1,
 oO 7 (.call 0 (.f 173) [(.t 5), (.t 6)]),
 oO 8 (.bin .geq 2 (.t 7) (.c (.int .i64 0))),
 oO 4 (.assign (.t 8))])
(.ret))⟩

def f160 : DFn := ⟨8, [.tmp 3],
    .seq (.region false [] [
 oO 2 (.box 32 (.t 0)),
 oO 3 (.assign (.c (.bool false)))])
(.seq (.region false [] [
 oO 4 (.load 33 (.t 1)),
 oO 5 (.load 32 (.t 2)),
 oO 6 (.call 0 (.t 4) [(.t 5)]),
 oO 7 (.un .not (.t 6)),
 oO 3 (.assign (.t 7))])
(.ret))⟩

def f161 : DFn := ⟨9, [.tmp 4],
    .seq (.region false [] [
 oO 4 (.assign (.c (.bool false)))])
(.seq (.region false [] [
 oM 5 0,
 oM 6 1,
 oO 7 (.call 0 (.f 174) [(.t 5), (.t 6)]),
 oO 8 (.bin .geq 2 (.t 7) (.c (.int .i64 0))),
 oO 4 (.assign (.t 8))])
(.ret))⟩

def f162 : DFn := ⟨26, [.tmp 4],
    .seq (.region false [] [
 oO 4 (.assign (.c (.bool false)))])
(.seq (.seq (.region false [] [
 oM 6 0,
 oO 7 (.len 6 (.t 6)),
 oM 8 1,
 oO 9 (.len 6 (.t 8)),
 oO 10 (.bin .neq 2 (.t 7) (.t 9))])
(.cond (.t 10) (.seq (.region false [] [
 oO 4 (.assign (.c (.bool false)))])
(.ret)) (.skip)))
(.seq (.seq (.region false [] [
 oM 11 0,
 oO 12 (.len 6 (.t 11)),
 oO 13 (.move (.c (.int .i64 0)))])
(.block 0 (.loop (.seq (.region false [] [
 oO 14 (.bin .lss 2 (.t 13) (.t 12))])
(.seq (.cond (.t 14) (.skip) (.exit 0))
(.seq (.block 1 (.seq (.region false [] [
 oM 15 13,
 oO 5 (.assign (.t 15))])
(.seq (.region true [] [
 oM 16 0,
 oM 17 5,
 oO 18 (.iaddr 6 (.t 16) (.t 17)),
 oO 19 (.load 2 (.t 18)),
 oM 20 1,
 oM 21 5,
 oO 22 (.iaddr 6 (.t 20) (.t 21)),
 oO 23 (.load 2 (.t 22)),
 oO 24 (.bin .neq 2 (.t 19) (.t 23))])
(.cond (.t 24) (.seq (.region false [] [
 oO 4 (.assign (.c (.bool false)))])
(.ret)) (.skip)))))
(.region false [] [
 oO 25 (.bin .add 2 (.t 13) (.c (.int .i64 1))),
 oM 13 25])))))))
(.seq (.region false [] [
 oO 4 (.assign (.c (.bool true)))])
(.ret))))⟩

def f163 : DFn := ⟨10, [.tmp 3],
    .seq (.region false [] [
 oO 3 (.assign (.c (.imm .exact [])))])
(.seq (.region false [] [
 oO 4 (.load 10 (.t 1)),
 oM 5 0,
 oO 6 (.iaddr 10 (.t 4) (.t 5)),
 oO 7 (.load 20 (.t 6)),
 oO 8 (.build 19 [(0, (.t 7)), (1, (.c (.int .i64 1)))]),
 oO 9 (.bslice false 18 1 [(0, (.t 8))]),
 oO 3 (.assign (.t 9))])
(.ret))⟩

def f164 : DFn := ⟨14, [.cell 3 15],
    .seq (.region false [] [
 oO 3 (.alloc 15)])
(.seq (.region true [] [
 oO 4 (.bslice false 6 1 [(0, (.c (.int .i64 0)))]),
 oO 5 (.load 34 (.t 1)),
 oO 6 (.call 0 (.t 5) [(.c (.int .i64 0))]),
 oO 7 (.build 17 [(3, (.t 6))]),
 oM 8 0,
 oO 9 (.load 34 (.t 1)),
 oO 10 (.call 0 (.t 9) [(.c (.int .i64 1))]),
 oO 11 (.build 17 [(0, (.c (.int .i64 10))), (1, (.t 8)), (3, (.t 10))]),
 oO 12 (.bslice false 16 2 [(0, (.t 7)), (1, (.t 11))]),
 oO 13 (.build 15 [(2, (.t 4)), (3, (.t 12))]),
 oE (.store 15 (.t 3) (.t 13))])
(.ret))⟩

def f165 : DFn := ⟨8, [.tmp 2],
    .seq (.region false [] [ oO 2 (.assign (.c (.imm .exact [])))]) (.seq (.region false [] [
 oO 5 (.bslice false 4 0 []),
 oM 6 0,
 oO 7 (.append 1 4 4 (.t 5) (.t 6)),
 oO 2 (.assign (.t 7))]) .ret)⟩

def f166 : DFn := ⟨9, [.tmp 2],
    .seq (.region false [] [
 oO 2 (.assign (.c (.imm .exact [])))])
(.seq (.region false [] [
 oM 3 0,
 oM 4 0,
 oO 5 (.len 31 (.t 4)),
 oM 6 0,
 oO 7 (.len 31 (.t 6)),
 oO 8 (.slice 31 (.t 3) none (some (.t 5)) (some (.t 7))),
 oO 2 (.assign (.t 8))])
(.ret))⟩

def f167 : DFn := ⟨13, [],
    .region false [] [
 oO 5 (.faddr 28 (.t 2) 3),
 oO 6 (.load 31 (.t 5)),
 oM 7 0,
 oM 8 1,
 oO 9 (.build 32 [(0, (.t 7)), (1, (.t 8))]),
 oO 10 (.bslice false 31 1 [(0, (.t 9))]),
 oO 11 (.append 0 31 31 (.t 6) (.t 10)),
 oO 12 (.faddr 28 (.t 2) 3),
 oE (.store 31 (.t 12) (.t 11))]⟩

def f168 : DFn := ⟨16, [.tmp 2, .tmp 3],
    .seq (.region false [] [
 oO 2 (.assign (.c (.imm .exact []))),
 oO 3 (.assign (.c (.imm .exact [])))])
(.seq (.region false [] [
 oM 5 0,
 oO 6 (.len 35 (.t 5)),
 oO 7 (.bin .sub 2 (.t 6) (.c (.int .i64 1))),
 oO 4 (.assign (.t 7))])
(.seq (.region true [] [
 oM 8 0,
 oM 9 4,
 oO 10 (.iaddr 35 (.t 8) (.t 9)),
 oO 11 (.load 1 (.t 10)),
 oM 12 0,
 oM 13 4,
 oO 14 (.slice 35 (.t 12) none (some (.t 13)) none),
 oO 15 (.call 0 (.f 175) [(.t 14)]),
 oO 2 (.assign (.t 11)),
 oO 3 (.assign (.t 15))])
(.ret)))⟩

def f169 : DFn := ⟨4, [.tmp 2],
    .seq (.region false [] [
 oO 1 (.box 4 (.t 0)),
 oO 2 (.assign (.c .nilfn))])
(.seq (.region false [] [
 oO 3 (.mkfn 176 [(.t 1)]),
 oO 2 (.assign (.t 3))])
(.ret))⟩

def f170 : DFn := ⟨33, [.tmp 4],
    .seq (.region false [] [
 oO 2 (.box 0 (.t 0)),
 oO 3 (.box 32 (.t 1)),
 oO 4 (.assign (.c (.bool false)))])
(.seq (.seq (.region false [] [
 oO 5 (.load 0 (.t 2)),
 oO 6 (.faddr 32 (.t 3) 0),
 oO 7 (.load 1 (.t 6)),
 oO 8 (.call 0 (.f 78) [(.t 5), (.t 7)]),
 oO 9 (.un .not (.t 8)),
 oM 10 9,
⟨(some 11), .faddr 32 (.t 3) 2, (some (10, false))⟩,
⟨(some 12), .load 9 (.t 11), (some (10, false))⟩,
⟨(some 13), .len 9 (.t 12), (some (10, false))⟩,
⟨(some 14), .bin .gtr 2 (.t 13) (.c (.int .i64 0)), (some (10, false))⟩,
 oO 15 (.pick (.t 10) (.c (.bool true)) (.t 14))])
(.cond (.t 15) (.seq (.region false [] [
 oO 4 (.assign (.c (.bool false)))])
(.ret)) (.skip)))
(.seq (.region false [] [
 oO 16 (.faddr 32 (.t 3) 1),
 oO 17 (.load 2 (.t 16)),
 oO 18 (.bin .eql 2 (.t 17) (.c (.int .i64 1))),
 oM 19 18,
⟨(some 20), .faddr 32 (.t 3) 0, (some (19, true))⟩,
⟨(some 21), .load 1 (.t 20), (some (19, true))⟩,
⟨(some 22), .len 1 (.t 21), (some (19, true))⟩,
⟨(some 23), .faddr 0 (.t 2) 2, (some (19, true))⟩,
⟨(some 24), .load 14 (.t 23), (some (19, true))⟩,
⟨(some 25), .len 14 (.t 24), (some (19, true))⟩,
⟨(some 26), .bin .eql 2 (.t 22) (.t 25), (some (19, true))⟩,
 oO 27 (.pick (.t 19) (.t 26) (.c (.bool false))),
 oM 28 27,
⟨(some 29), .faddr 32 (.t 3) 1, (some (28, false))⟩,
⟨(some 30), .load 2 (.t 29), (some (28, false))⟩,
⟨(some 31), .bin .eql 2 (.t 30) (.c (.int .i64 2)), (some (28, false))⟩,
 oO 32 (.pick (.t 28) (.c (.bool true)) (.t 31)),
 oO 4 (.assign (.t 32))])
(.ret)))⟩

def f171 : DFn := ⟨30, [.tmp 4],
    .seq (.region false [] [
 oO 2 (.box 0 (.t 0)),
 oO 3 (.box 28 (.t 1)),
 oO 4 (.assign (.c (.bool false)))])
(.seq (.seq (.region false [] [
 oO 7 (.faddr 28 (.t 3) 2),
 oO 8 (.load 6 (.t 7)),
 oO 9 (.len 6 (.t 8)),
 oO 10 (.bin .eql 2 (.t 9) (.c (.int .i64 0)))])
(.cond (.t 10) (.seq (.region false [] [
 oO 11 (.faddr 28 (.t 3) 1),
 oO 12 (.load 6 (.t 11)),
 oO 13 (.len 6 (.t 12)),
 oO 14 (.bin .eql 2 (.t 13) (.c (.int .i64 0))),
 oO 4 (.assign (.t 14))])
(.ret)) (.skip)))
(.seq (.region false [] [
 oO 16 (.load 0 (.t 2)),
 oO 17 (.faddr 28 (.t 3) 1),
 oO 18 (.load 6 (.t 17)),
 oO 19 (.call 0 (.f 23) [(.t 16), (.t 18)]),
 oM 15 19,
 oO 20 (.extract (.t 15) 0),
 oO 21 (.extract (.t 15) 1),
 oO 5 (.assign (.t 20)),
 oO 6 (.assign (.t 21))])
(.seq (.region false [] [
 oM 22 6,
 oO 23 (.bin .eql 3 (.t 22) (.c (.int .i64 0))),
 oM 24 23,
⟨(some 25), .move (.t 5), (some (24, true))⟩,
⟨(some 26), .faddr 28 (.t 3) 2, (some (24, true))⟩,
⟨(some 27), .load 6 (.t 26), (some (24, true))⟩,
⟨(some 28), .call 0 (.f 145) [(.t 25), (.t 27)], (some (24, true))⟩,
 oO 29 (.pick (.t 24) (.t 28) (.c (.bool false))),
 oO 4 (.assign (.t 29))])
(.ret))))⟩

def f172 : DFn := ⟨34, [.tmp 4],
    .seq (.region false [] [
 oO 2 (.box 0 (.t 0)),
 oO 4 (.assign (.c (.bool false)))])
(.seq (.seq (.region false [] [
 oM 7 1,
 oO 8 (.len 1 (.t 7)),
 oO 9 (.faddr 0 (.t 2) 2),
 oO 10 (.load 14 (.t 9)),
 oO 11 (.len 14 (.t 10)),
 oO 12 (.bin .gtr 2 (.t 8) (.t 11))])
(.cond (.t 12) (.seq (.region false [] [
 oO 4 (.assign (.c (.bool false)))])
(.ret)) (.skip)))
(.seq (.seq (.region false [] [
 oM 13 1,
 oO 14 (.len 1 (.t 13)),
 oO 15 (.move (.c (.int .i64 0)))])
(.block 0 (.loop (.seq (.region false [] [
 oO 16 (.bin .lss 2 (.t 15) (.t 14))])
(.seq (.cond (.t 16) (.skip) (.exit 0))
(.seq (.block 1 (.seq (.region false [] [
 oM 17 15,
 oO 18 (.iaddr 1 (.t 13) (.t 15)),
 oO 19 (.load 2 (.t 18)),
 oO 5 (.assign (.t 17)),
 oO 6 (.assign (.t 19))])
(.seq (.region false [] [
 oM 20 6,
 oO 21 (.bin .lss 2 (.t 20) (.c (.int .i64 0))),
 oM 22 21,
⟨(some 23), .move (.t 6), (some (22, false))⟩,
⟨(some 24), .faddr 0 (.t 2) 2, (some (22, false))⟩,
⟨(some 25), .load 14 (.t 24), (some (22, false))⟩,
⟨(some 26), .move (.t 5), (some (22, false))⟩,
⟨(some 27), .iaddr 14 (.t 25) (.t 26), (some (22, false))⟩,
⟨(some 28), .faddr 15 (.t 27) 3, (some (22, false))⟩,
⟨(some 29), .load 16 (.t 28), (some (22, false))⟩,
⟨(some 30), .len 16 (.t 29), (some (22, false))⟩,
⟨(some 31), .bin .geq 2 (.t 23) (.t 30), (some (22, false))⟩,
 oO 32 (.pick (.t 22) (.c (.bool true)) (.t 31))])
(.cond (.t 32) (.seq (.region false [] [
 oO 4 (.assign (.c (.bool false)))])
(.ret)) (.skip)))))
(.region false [] [
 oO 33 (.bin .add 2 (.t 15) (.c (.int .i64 1))),
 oM 15 33])))))))
(.seq (.region false [] [
 oO 4 (.assign (.c (.bool true)))])
(.ret))))⟩

def f173 : DFn := ⟨19, [.tmp 4],
    .seq (.region false [] [
 oO 4 (.assign (.c (.int .i64 0)))])
(.seq (.seq (.region false [] [
 oM 6 0,
 oO 7 (.len 4 (.t 6)),
 oO 8 (.move (.c (.int .i64 0)))])
(.block 0 (.loop (.seq (.region false [] [
 oO 9 (.bin .lss 2 (.t 8) (.t 7))])
(.seq (.cond (.t 9) (.skip) (.exit 0))
(.seq (.block 1 (.seq (.region false [] [
 oM 10 8,
 oO 5 (.assign (.t 10))])
(.seq (.region false [] [
 oM 11 1,
 oM 12 0,
 oM 13 5,
 oO 14 (.iaddr 4 (.t 12) (.t 13)),
 oO 15 (.load 1 (.t 14)),
 oO 16 (.call 0 (.t 11) [(.t 15)])])
(.cond (.t 16) (.seq (.region false [] [
 oM 17 5,
 oO 4 (.assign (.t 17))])
(.ret)) (.skip)))))
(.region false [] [
 oO 18 (.bin .add 2 (.t 8) (.c (.int .i64 1))),
 oM 8 18])))))))
(.seq (.region false [] [
 oO 4 (.assign (.c (.int .i64 (-1))))])
(.ret)))⟩

def f174 : DFn := ⟨19, [.tmp 4],
    .seq (.region false [] [
 oO 4 (.assign (.c (.int .i64 0)))])
(.seq (.seq (.region false [] [
 oM 6 0,
 oO 7 (.len 31 (.t 6)),
 oO 8 (.move (.c (.int .i64 0)))])
(.block 0 (.loop (.seq (.region false [] [
 oO 9 (.bin .lss 2 (.t 8) (.t 7))])
(.seq (.cond (.t 9) (.skip) (.exit 0))
(.seq (.block 1 (.seq (.region false [] [
 oM 10 8,
 oO 5 (.assign (.t 10))])
(.seq (.region false [] [
 oM 11 1,
 oM 12 0,
 oM 13 5,
 oO 14 (.iaddr 31 (.t 12) (.t 13)),
 oO 15 (.load 32 (.t 14)),
 oO 16 (.call 0 (.t 11) [(.t 15)])])
(.cond (.t 16) (.seq (.region false [] [
 oM 17 5,
 oO 4 (.assign (.t 17))])
(.ret)) (.skip)))))
(.region false [] [
 oO 18 (.bin .add 2 (.t 8) (.c (.int .i64 1))),
 oM 8 18])))))))
(.seq (.region false [] [
 oO 4 (.assign (.c (.int .i64 (-1))))])
(.ret)))⟩

def f175 : DFn := ⟨9, [.tmp 2],
    .seq (.region false [] [
 oO 2 (.assign (.c (.imm .exact [])))])
(.seq (.region false [] [
 oM 3 0,
 oM 4 0,
 oO 5 (.len 35 (.t 4)),
 oM 6 0,
 oO 7 (.len 35 (.t 6)),
 oO 8 (.slice 35 (.t 3) none (some (.t 5)) (some (.t 7))),
 oO 2 (.assign (.t 8))])
(.ret))⟩

def f176 : DFn := ⟨18, [],
    .seq (.region false [] [
 oO 4 (.load 4 (.t 1)),
 oO 5 (.len 4 (.t 4)),
 oO 6 (.bin .sub 2 (.t 5) (.c (.int .i64 1))),
 oO 3 (.assign (.t 6))])
(.block 0 (.loop (.seq (.seq (.region false [] [
 oM 7 3,
 oO 8 (.bin .geq 2 (.t 7) (.c (.int .i64 0)))])
(.cond (.t 8) (.skip) (.exit 0)))
(.seq (.block 1 (.seq (.region false [] [
 oM 11 0,
 oO 12 (.load 4 (.t 1)),
 oM 13 3,
 oO 14 (.iaddr 4 (.t 12) (.t 13)),
 oO 15 (.load 1 (.t 14)),
 oO 16 (.call 2 (.t 11) [(.t 15)]),
 oO 17 (.un .not (.t 16))])
(.cond (.t 17) (.ret) (.skip))))
(.region false [] [
 oM 9 3,
 oO 10 (.bin .sub 2 (.t 9) (.c (.int .i64 1))),
 oO 3 (.assign (.t 10))])))))⟩

def tyTab : Nat → TI
  | 0 => ⟨.struct [(0, 10), (1, 9), (2, 14)], 3, 72, [(.imm .exact []), (.imm .exact []), (.imm .exact [])], false⟩
  | 1 => ⟨.slice 2, 1, 24, [(.imm .exact [])], false⟩
  | 2 => ⟨.int .i64, 1, 8, [(.int .i64 0)], false⟩
  | 3 => ⟨.int .i64, 1, 8, [(.int .i64 0)], false⟩
  | 4 => ⟨.slice 1, 1, 24, [(.imm .exact [])], false⟩
  | 6 => ⟨.slice 2, 1, 24, [(.imm .exact [])], false⟩
  | 7 => ⟨.bool, 1, 1, [(.bool false)], false⟩
  | 8 => ⟨.slice 11, 1, 24, [(.imm .exact [])], false⟩
  | 9 => ⟨.slice 6, 1, 24, [(.imm .exact [])], false⟩
  | 10 => ⟨.slice 20, 1, 24, [(.imm .exact [])], false⟩
  | 11 => ⟨.struct [(0, 2), (1, 2)], 2, 16, [(.int .i64 0), (.int .i64 0)], true⟩
  | 13 => ⟨.int .u8, 1, 1, [(.int .u8 0)], false⟩
  | 14 => ⟨.slice 15, 1, 24, [(.imm .exact [])], false⟩
  | 15 => ⟨.struct [(0, 2), (1, 2), (2, 6), (3, 16)], 4, 64, [(.int .i64 0), (.int .i64 0), (.imm .exact []), (.imm .exact [])], false⟩
  | 16 => ⟨.slice 17, 1, 24, [(.imm .exact [])], false⟩
  | 17 => ⟨.struct [(0, 2), (1, 2), (2, 2), (3, 18)], 4, 48, [(.int .i64 0), (.int .i64 0), (.int .i64 0), (.imm .exact [])], false⟩
  | 18 => ⟨.slice 19, 1, 24, [(.imm .exact [])], false⟩
  | 19 => ⟨.struct [(0, 20), (3, 2)], 4, 32, [(.bool false), (.int .i64 0), (.int .i64 0), (.int .i64 0)], true⟩
  | 20 => ⟨.struct [(0, 7), (1, 2), (2, 2)], 3, 24, [(.bool false), (.int .i64 0), (.int .i64 0)], true⟩
  | 21 => ⟨.map 20 7, 1, 8, [(.map none)], false⟩
  | 22 => ⟨.arr 4 2, 4, 32, [(.int .i64 0), (.int .i64 0), (.int .i64 0), (.int .i64 0)], true⟩
  | 23 => ⟨.arr 2 6, 2, 48, [(.imm .exact []), (.imm .exact [])], false⟩
  | 24 => ⟨.slice 23, 1, 24, [(.imm .exact [])], false⟩
  | 26 => ⟨.map 20 2, 1, 8, [(.map none)], false⟩
  | 28 => ⟨.struct [(0, 4), (1, 6), (2, 6), (3, 31)], 4, 96, [(.imm .exact []), (.imm .exact []), (.imm .exact []), (.imm .exact [])], false⟩
  | 29 => ⟨.struct [(0, 6), (1, 6), (2, 31)], 3, 72, [(.imm .exact []), (.imm .exact []), (.imm .exact [])], false⟩
  | 30 => ⟨.slice 13, 1, 24, [(.imm .exact [])], false⟩
  | 31 => ⟨.slice 32, 1, 24, [(.imm .exact [])], false⟩
  | 32 => ⟨.struct [(0, 1), (1, 2), (2, 9)], 3, 56, [(.imm .exact []), (.int .i64 0), (.imm .exact [])], false⟩
  | 33 => ⟨.func, 1, 8, [.nilfn], false⟩
  | 34 => ⟨.func, 1, 8, [.nilfn], false⟩
  | 35 => ⟨.slice 1, 1, 24, [(.imm .exact [])], false⟩
  | _ => ⟨.other, 0, 0, [], false⟩

def fnTab : Nat → Option DFn
  | 2 => some f2
  | 3 => some f3
  | 4 => some f4
  | 5 => some f5
  | 7 => some f7
  | 8 => some f8
  | 11 => some f11
  | 14 => some f14
  | 15 => some f15
  | 18 => some f18
  | 19 => some f19
  | 22 => some f22
  | 23 => some f23
  | 24 => some f24
  | 26 => some f26
  | 30 => some f30
  | 57 => some f57
  | 61 => some f61
  | 62 => some f62
  | 63 => some f63
  | 64 => some f64
  | 65 => some f65
  | 66 => some f66
  | 67 => some f67
  | 68 => some f68
  | 69 => some f69
  | 70 => some f70
  | 71 => some f71
  | 72 => some f72
  | 73 => some f73
  | 74 => some f74
  | 75 => some f75
  | 76 => some f76
  | 78 => some f78
  | 79 => some f79
  | 80 => some f80
  | 81 => some f81
  | 82 => some f82
  | 83 => some f83
  | 84 => some f84
  | 85 => some f85
  | 87 => some f87
  | 102 => some f102
  | 103 => some f103
  | 104 => some f104
  | 105 => some f105
  | 106 => some f106
  | 107 => some f107
  | 108 => some f108
  | 109 => some f109
  | 110 => some f110
  | 111 => some f111
  | 122 => some f122
  | 123 => some f123
  | 127 => some f127
  | 128 => some f128
  | 129 => some f129
  | 130 => some f130
  | 131 => some f131
  | 132 => some f132
  | 133 => some f133
  | 134 => some f134
  | 135 => some f135
  | 136 => some f136
  | 137 => some f137
  | 138 => some f138
  | 139 => some f139
  | 140 => some f140
  | 141 => some f141
  | 142 => some f142
  | 143 => some f143
  | 144 => some f144
  | 145 => some f145
  | 146 => some f146
  | 147 => some f147
  | 148 => some f148
  | 149 => some f149
  | 150 => some f150
  | 151 => some f151
  | 152 => some f152
  | 153 => some f153
  | 154 => some f154
  | 155 => some f155
  | 156 => some f156
  | 157 => some f157
  | 158 => some f158
  | 159 => some f159
  | 160 => some f160
  | 161 => some f161
  | 162 => some f162
  | 163 => some f163
  | 164 => some f164
  | 165 => some f165
  | 166 => some f166
  | 167 => some f167
  | 168 => some f168
  | 169 => some f169
  | 170 => some f170
  | 171 => some f171
  | 172 => some f172
  | 173 => some f173
  | 174 => some f174
  | 175 => some f175
  | 176 => some f176
  | _ => none

def keepTab : Nat → Bool
  | 166 => true
  | 168 => true
  | 175 => true
  | _ => false

def E : Env := ⟨tyTab, fnTab, keepTab⟩

end Dv
