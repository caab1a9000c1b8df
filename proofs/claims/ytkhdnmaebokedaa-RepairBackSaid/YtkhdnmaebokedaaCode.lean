/- Texts that a proof of this claim uses, joined: Dv.Code. -/
import Derived.Test.YtkhdnmaebokedaaDva
set_option linter.all false
/- The code of the functions in the short form, as printed by program from the translation; YtLink.lean ties each to the given program. -/
namespace Dv
open Go (IntKind BinOp UnOp)

abbrev oO (n : Nat) (x : DOp) : DOpr := ⟨some n, x, none⟩
abbrev oE (x : DOp) : DOpr := ⟨none, x, none⟩
abbrev oM (n k : Nat) : DOpr := ⟨some n, .move (.t k), none⟩
def f2 : DFn := ⟨77, [.tmp 2],
    .seq (.region false [] [
 oO 1 (.box 0 (.t 0)),
 oO 2 (.assign (.c (.bool false)))])
(.seq (.seq (.region false [] [
 oO 7 (.faddr 0 (.t 1) 0),
 oO 8 (.load 10 (.t 7)),
 oO 9 (.len 10 (.t 8)),
 oO 10 (.bin .gtr 2 (.t 9) (.c (.int .i64 12))),
 oM 11 10,
⟨(some 12), .faddr 0 (.t 1) 1, (some (11, false))⟩,
⟨(some 13), .load 9 (.t 12), (some (11, false))⟩,
⟨(some 14), .len 9 (.t 13), (some (11, false))⟩,
⟨(some 15), .bin .gtr 2 (.t 14) (.c (.int .i64 4)), (some (11, false))⟩,
 oO 16 (.pick (.t 11) (.c (.bool true)) (.t 15)),
 oM 17 16,
⟨(some 18), .faddr 0 (.t 1) 2, (some (17, false))⟩,
⟨(some 19), .load 14 (.t 18), (some (17, false))⟩,
⟨(some 20), .len 14 (.t 19), (some (17, false))⟩,
⟨(some 21), .bin .gtr 2 (.t 20) (.c (.int .i64 6)), (some (17, false))⟩,
 oO 22 (.pick (.t 17) (.c (.bool true)) (.t 21))])
(.cond (.t 22) (.seq (.region false [] [
 oO 2 (.assign (.c (.bool false)))])
(.ret)) (.skip)))
(.seq (.seq (.region false [] [
 oO 3 (.assign (.c (.int .i64 0)))])
(.block 0 (.loop (.seq (.seq (.region false [] [
 oM 23 3,
 oO 24 (.faddr 0 (.t 1) 1),
 oO 25 (.load 9 (.t 24)),
 oO 26 (.len 9 (.t 25)),
 oO 27 (.bin .lss 2 (.t 23) (.t 26))])
(.cond (.t 27) (.skip) (.exit 0)))
(.seq (.block 1 (.seq (.region false [] [
 oO 30 (.faddr 0 (.t 1) 1),
 oO 31 (.load 9 (.t 30)),
 oM 32 3,
 oO 33 (.iaddr 9 (.t 31) (.t 32)),
 oO 34 (.load 6 (.t 33)),
 oO 35 (.len 6 (.t 34)),
 oO 36 (.bin .gtr 2 (.t 35) (.c (.int .i64 16)))])
(.cond (.t 36) (.seq (.region false [] [
 oO 2 (.assign (.c (.bool false)))])
(.ret)) (.skip))))
(.region false [] [
 oM 28 3,
 oO 29 (.bin .add 2 (.t 28) (.c (.int .i64 1))),
 oO 3 (.assign (.t 29))]))))))
(.seq (.seq (.region false [] [
 oO 4 (.assign (.c (.int .i64 0)))])
(.block 2 (.loop (.seq (.seq (.region false [] [
 oM 37 4,
 oO 38 (.faddr 0 (.t 1) 2),
 oO 39 (.load 14 (.t 38)),
 oO 40 (.len 14 (.t 39)),
 oO 41 (.bin .lss 2 (.t 37) (.t 40))])
(.cond (.t 41) (.skip) (.exit 2)))
(.seq (.block 3 (.seq (.region false [] [
 oO 44 (.faddr 0 (.t 1) 2),
 oO 45 (.load 14 (.t 44)),
 oM 46 4,
 oO 47 (.iaddr 14 (.t 45) (.t 46)),
 oO 48 (.load 15 (.t 47)),
 oO 5 (.alloc 15),
 oE (.store 15 (.t 5) (.t 48))])
(.seq (.seq (.region false [] [
 oO 49 (.faddr 15 (.t 5) 2),
 oO 50 (.load 6 (.t 49)),
 oO 51 (.len 6 (.t 50)),
 oO 52 (.bin .gtr 2 (.t 51) (.c (.int .i64 8))),
 oM 53 52,
⟨(some 54), .faddr 15 (.t 5) 3, (some (53, false))⟩,
⟨(some 55), .load 16 (.t 54), (some (53, false))⟩,
⟨(some 56), .len 16 (.t 55), (some (53, false))⟩,
⟨(some 57), .bin .gtr 2 (.t 56) (.c (.int .i64 8)), (some (53, false))⟩,
 oO 58 (.pick (.t 53) (.c (.bool true)) (.t 57))])
(.cond (.t 58) (.seq (.region false [] [
 oO 2 (.assign (.c (.bool false)))])
(.ret)) (.skip)))
(.seq (.region false [] [
 oO 6 (.assign (.c (.int .i64 0)))])
(.block 4 (.loop (.seq (.seq (.region false [] [
 oM 59 6,
 oO 60 (.faddr 15 (.t 5) 3),
 oO 61 (.load 16 (.t 60)),
 oO 62 (.len 16 (.t 61)),
 oO 63 (.bin .lss 2 (.t 59) (.t 62))])
(.cond (.t 63) (.skip) (.exit 4)))
(.seq (.block 5 (.seq (.region false [] [
 oO 66 (.faddr 15 (.t 5) 3),
 oO 67 (.load 16 (.t 66)),
 oM 68 6,
 oO 69 (.iaddr 16 (.t 67) (.t 68)),
 oO 70 (.faddr 17 (.t 69) 3),
 oO 71 (.load 18 (.t 70)),
 oO 72 (.len 18 (.t 71)),
 oO 73 (.bin .gtr 2 (.t 72) (.c (.int .i64 12)))])
(.cond (.t 73) (.seq (.region false [] [
 oO 2 (.assign (.c (.bool false)))])
(.ret)) (.skip))))
(.region false [] [
 oM 64 6,
 oO 65 (.bin .add 2 (.t 64) (.c (.int .i64 1))),
 oO 6 (.assign (.t 65))])))))))))
(.region false [] [
 oM 42 4,
 oO 43 (.bin .add 2 (.t 42) (.c (.int .i64 1))),
 oO 4 (.assign (.t 43))]))))))
(.seq (.region false [] [
 oO 74 (.load 0 (.t 1)),
 oO 75 (.call 0 (.f 61) [(.t 74), (.c (.int .i64 2000))]),
 oO 76 (.bin .lss 2 (.t 75) (.c (.int .i64 2000))),
 oO 2 (.assign (.t 76))])
(.ret)))))⟩

def f3 : DFn := ⟨89, [.cell 4 6, .tmp 5],
    .seq (.region false [] [
 oO 2 (.box 0 (.t 0)),
 oO 4 (.alloc 6),
 oO 5 (.assign (.c (.int .i64 0)))])
(.seq (.seq (.region false [] [
 oO 14 (.load 0 (.t 2)),
 oM 15 1,
 oO 16 (.call 0 (.f 62) [(.t 14), (.t 15)]),
 oO 5 (.assign (.t 16))])
(.seq (.region false [] [
 oM 17 5,
 oO 18 (.bin .neq 3 (.t 17) (.c (.int .i64 0)))])
(.cond (.t 18) (.seq (.region false [] [
 oM 19 5,
 oE (.store 6 (.t 4) (.c (.imm .exact []))),
 oO 5 (.assign (.t 19))])
(.ret)) (.skip))))
(.seq (.region false [] [
 oO 20 (.mkslice true 6 (.c (.int .i64 4)) (.c (.int .i64 4))),
 oE (.store 6 (.t 4) (.t 20))])
(.seq (.seq (.region false [] [
 oO 21 (.faddr 0 (.t 2) 1),
 oO 22 (.load 9 (.t 21)),
 oO 23 (.len 9 (.t 22)),
 oO 24 (.move (.c (.int .i64 0)))])
(.block 0 (.loop (.seq (.region false [] [
 oO 25 (.bin .lss 2 (.t 24) (.t 23))])
(.seq (.cond (.t 25) (.skip) (.exit 0))
(.seq (.block 1 (.seq (.region false [] [
 oM 26 24,
 oO 27 (.iaddr 9 (.t 22) (.t 24)),
 oO 28 (.load 6 (.t 27)),
 oO 6 (.assign (.t 26)),
 oO 7 (.assign (.t 28))])
(.seq (.region false [] [
 oO 30 (.load 0 (.t 2)),
 oM 31 1,
 oM 32 6,
 oO 33 (.call 0 (.f 14) [(.t 30), (.t 31), (.t 32)]),
 oM 29 33,
 oO 34 (.extract (.t 29) 0),
 oO 35 (.extract (.t 29) 1),
 oO 8 (.assign (.t 34)),
 oO 9 (.assign (.t 35))])
(.seq (.region false [] [
 oM 36 8,
 oO 37 (.len 6 (.t 36)),
 oO 38 (.move (.c (.int .i64 0)))])
(.block 2 (.loop (.seq (.region false [] [
 oO 39 (.bin .lss 2 (.t 38) (.t 37))])
(.seq (.cond (.t 39) (.skip) (.exit 2))
(.seq (.block 3 (.seq (.region false [] [
 oM 40 38,
 oO 41 (.iaddr 6 (.t 36) (.t 38)),
 oO 42 (.load 2 (.t 41)),
 oO 10 (.assign (.t 40)),
 oO 11 (.assign (.t 42))])
(.region true [] [
 oO 43 (.load 6 (.t 4)),
 oO 44 (.iaddr 6 (.t 43) (.c (.int .i64 0))),
 oO 45 (.load 2 (.t 44)),
 oM 46 11,
 oM 47 7,
 oM 48 10,
 oO 49 (.iaddr 6 (.t 47) (.t 48)),
 oO 50 (.load 2 (.t 49)),
 oO 51 (.bin .sub 2 (.t 46) (.t 50)),
 oO 52 (.maxi [(.t 51), (.c (.int .i64 0))]),
 oO 53 (.bin .add 2 (.t 45) (.t 52)),
 oO 54 (.iaddr 6 (.t 43) (.c (.int .i64 0))),
 oE (.store 2 (.t 54) (.t 53))])))
(.region false [] [
 oO 55 (.bin .add 2 (.t 38) (.c (.int .i64 1))),
 oM 38 55]))))))))))
(.region false [] [
 oO 56 (.bin .add 2 (.t 24) (.c (.int .i64 1))),
 oM 24 56])))))))
(.seq (.seq (.region false [] [
 oO 57 (.load 0 (.t 2)),
 oM 58 1,
 oO 59 (.call 0 (.f 63) [(.t 57), (.t 58)])])
(.block 4 (.rfunc (.t 59) [60, 61] (.seq (.region false [] [
 oO 12 (.assign (.t 60))])
(.region false [] [
 oO 13 (.alloc 17),
 oE (.store 17 (.t 13) (.t 61))])) (.block 5 (.seq (.region true [] [
 oO 62 (.load 6 (.t 4)),
 oO 63 (.load 6 (.t 4)),
 oO 64 (.iaddr 6 (.t 63) (.c (.int .i64 1))),
 oO 65 (.load 2 (.t 64)),
 oO 66 (.faddr 17 (.t 13) 0),
 oO 67 (.load 2 (.t 66)),
 oO 68 (.maxi [(.t 65), (.t 67)]),
 oO 69 (.iaddr 6 (.t 62) (.c (.int .i64 1))),
 oE (.store 2 (.t 69) (.t 68))])
(.seq (.region true [] [
 oO 70 (.load 6 (.t 4)),
 oO 71 (.iaddr 6 (.t 70) (.c (.int .i64 2))),
 oO 72 (.load 2 (.t 71)),
 oO 73 (.faddr 17 (.t 13) 1),
 oO 74 (.load 2 (.t 73)),
 oM 75 12,
 oO 76 (.bin .mul 2 (.t 74) (.t 75)),
 oO 77 (.bin .add 2 (.t 72) (.t 76)),
 oO 78 (.iaddr 6 (.t 70) (.c (.int .i64 2))),
 oE (.store 2 (.t 78) (.t 77))])
(.region true [] [
 oO 79 (.load 6 (.t 4)),
 oO 80 (.iaddr 6 (.t 79) (.c (.int .i64 3))),
 oO 81 (.load 2 (.t 80)),
 oO 82 (.faddr 17 (.t 13) 2),
 oO 83 (.load 2 (.t 82)),
 oM 84 12,
 oO 85 (.bin .mul 2 (.t 83) (.t 84)),
 oO 86 (.bin .add 2 (.t 81) (.t 85)),
 oO 87 (.iaddr 6 (.t 79) (.c (.int .i64 3))),
 oE (.store 2 (.t 87) (.t 86))])))))))
(.seq (.region false [] [
 oO 88 (.load 6 (.t 4)),
 oE (.store 6 (.t 4) (.t 88)),
 oO 5 (.assign (.c (.int .i64 0)))])
(.ret))))))⟩

def f7 : DFn := ⟨43, [.tmp 4, .tmp 5],
    .seq (.region false [] [
 oO 2 (.box 0 (.t 0)),
 oO 4 (.assign (.c (.imm .exact []))),
 oO 5 (.assign (.c (.int .i64 0)))])
(.seq (.seq (.region false [] [
 oO 8 (.load 0 (.t 2)),
 oM 9 1,
 oO 10 (.call 0 (.f 62) [(.t 8), (.t 9)]),
 oO 5 (.assign (.t 10))])
(.seq (.region false [] [
 oM 11 5,
 oO 12 (.bin .neq 3 (.t 11) (.c (.int .i64 0)))])
(.cond (.t 12) (.seq (.region false [] [
 oM 13 5,
 oO 4 (.assign (.c (.imm .exact []))),
 oO 5 (.assign (.t 13))])
(.ret)) (.skip))))
(.seq (.region false [] [
 oM 14 1,
 oO 15 (.len 1 (.t 14)),
 oO 6 (.assign (.t 15))])
(.seq (.seq (.region false [] [
 oM 16 6,
 oO 17 (.faddr 0 (.t 2) 2),
 oO 18 (.load 14 (.t 17)),
 oO 19 (.len 14 (.t 18)),
 oO 20 (.bin .eql 2 (.t 16) (.t 19))])
(.cond (.t 20) (.seq (.region false [] [
 oO 4 (.assign (.c (.imm .exact []))),
 oO 5 (.assign (.c (.int .i64 280)))])
(.ret)) (.skip)))
(.seq (.seq (.region false [] [
 oO 21 (.faddr 0 (.t 2) 2),
 oO 22 (.load 14 (.t 21)),
 oM 23 6,
 oO 24 (.iaddr 14 (.t 22) (.t 23)),
 oO 25 (.faddr 15 (.t 24) 3),
 oO 26 (.load 16 (.t 25)),
 oO 27 (.len 16 (.t 26)),
 oO 28 (.move (.c (.int .i64 0)))])
(.block 0 (.loop (.seq (.region false [] [
 oO 29 (.bin .lss 2 (.t 28) (.t 27))])
(.seq (.cond (.t 29) (.skip) (.exit 0))
(.seq (.block 1 (.seq (.region false [] [
 oM 30 28,
 oO 7 (.assign (.t 30))])
(.region false [] [
 oM 31 4,
 oM 32 1,
 oM 33 6,
 oM 34 6,
 oO 35 (.slice 1 (.t 32) none (some (.t 33)) (some (.t 34))),
 oM 36 7,
 oO 37 (.bslice false 1 1 [(0, (.t 36))]),
 oO 38 (.append 0 1 1 (.t 35) (.t 37)),
 oO 39 (.bslice false 4 1 [(0, (.t 38))]),
 oO 40 (.append 0 4 4 (.t 31) (.t 39)),
 oO 4 (.assign (.t 40))])))
(.region false [] [
 oO 41 (.bin .add 2 (.t 28) (.c (.int .i64 1))),
 oM 28 41])))))))
(.seq (.region false [] [
 oM 42 4,
 oO 4 (.assign (.t 42)),
 oO 5 (.assign (.c (.int .i64 0)))])
(.ret))))))⟩

def f9 : DFn := ⟨20, [.tmp 4, .tmp 5],
    .seq (.region false [] [
 oO 2 (.box 0 (.t 0)),
 oO 4 (.assign (.c (.imm .exact []))),
 oO 5 (.assign (.c (.int .i64 0)))])
(.seq (.seq (.region false [] [
 oO 6 (.load 0 (.t 2)),
 oM 7 1,
 oO 8 (.call 0 (.f 62) [(.t 6), (.t 7)]),
 oO 5 (.assign (.t 8))])
(.seq (.region false [] [
 oM 9 5,
 oO 10 (.bin .neq 3 (.t 9) (.c (.int .i64 0)))])
(.cond (.t 10) (.seq (.region false [] [
 oM 11 5,
 oO 4 (.assign (.c (.imm .exact []))),
 oO 5 (.assign (.t 11))])
(.ret)) (.skip))))
(.seq (.region false [] [
 oO 12 (.faddr 0 (.t 2) 2),
 oO 13 (.load 14 (.t 12)),
 oO 14 (.len 14 (.t 13)),
 oO 15 (.mkslice true 6 (.t 14) (.t 14)),
 oO 4 (.assign (.t 15))])
(.seq (.region false [] [
 oM 16 4,
 oM 17 1,
 oO 18 (.copy 6 1 (.t 16) (.t 17))])
(.seq (.region false [] [
 oM 19 4,
 oO 4 (.assign (.t 19)),
 oO 5 (.assign (.c (.int .i64 0)))])
(.ret)))))⟩

def f14 : DFn := ⟨27, [.tmp 6, .tmp 7],
    .seq (.region false [] [
 oO 3 (.box 0 (.t 0)),
 oO 6 (.assign (.c (.imm .exact []))),
 oO 7 (.assign (.c (.int .i64 0)))])
(.seq (.seq (.region false [] [
 oO 8 (.load 0 (.t 3)),
 oM 9 1,
 oO 10 (.call 0 (.f 66) [(.t 8), (.t 9)]),
 oO 7 (.assign (.t 10))])
(.seq (.region false [] [
 oM 11 7,
 oO 12 (.bin .neq 3 (.t 11) (.c (.int .i64 0)))])
(.cond (.t 12) (.seq (.region false [] [
 oM 13 7,
 oO 6 (.assign (.c (.imm .exact []))),
 oO 7 (.assign (.t 13))])
(.ret)) (.skip))))
(.seq (.seq (.region false [] [
 oM 14 2,
 oO 15 (.faddr 0 (.t 3) 1),
 oO 16 (.load 9 (.t 15)),
 oO 17 (.len 9 (.t 16)),
 oO 18 (.bin .sub 2 (.t 17) (.c (.int .i64 1))),
 oO 19 (.call 0 (.f 67) [(.t 14), (.c (.int .i64 0)), (.t 18)]),
 oO 20 (.un .not (.t 19))])
(.cond (.t 20) (.seq (.region false [] [
 oO 6 (.assign (.c (.imm .exact []))),
 oO 7 (.assign (.c (.int .i64 270)))])
(.ret)) (.skip)))
(.seq (.region false [] [
 oO 21 (.load 0 (.t 3)),
 oM 22 1,
 oO 23 (.call 0 (.f 68) [(.t 21), (.t 22)]),
 oM 24 2,
 oO 25 (.iaddr 9 (.t 23) (.t 24)),
 oO 26 (.load 6 (.t 25)),
 oO 6 (.assign (.t 26)),
 oO 7 (.assign (.c (.int .i64 0)))])
(.ret))))⟩

def f15 : DFn := ⟨173, [.tmp 2],
    .seq (.region false [] [
 oO 1 (.box 0 (.t 0)),
 oO 2 (.assign (.c (.int .i64 0)))])
(.seq (.seq (.region false [] [
 oO 15 (.faddr 0 (.t 1) 0),
 oO 16 (.load 10 (.t 15)),
 oO 17 (.len 10 (.t 16)),
 oO 18 (.bin .gtr 2 (.t 17) (.c (.int .i64 4096))),
 oM 19 18,
⟨(some 20), .faddr 0 (.t 1) 1, (some (19, false))⟩,
⟨(some 21), .load 9 (.t 20), (some (19, false))⟩,
⟨(some 22), .len 9 (.t 21), (some (19, false))⟩,
⟨(some 23), .call 0 (.f 67) [(.t 22), (.c (.int .i64 1)), (.c (.int .i64 32))], (some (19, false))⟩,
⟨(some 24), .un .not (.t 23), (some (19, false))⟩,
 oO 25 (.pick (.t 19) (.c (.bool true)) (.t 24)),
 oM 26 25,
⟨(some 27), .faddr 0 (.t 1) 2, (some (26, false))⟩,
⟨(some 28), .load 14 (.t 27), (some (26, false))⟩,
⟨(some 29), .len 14 (.t 28), (some (26, false))⟩,
⟨(some 30), .bin .gtr 2 (.t 29) (.c (.int .i64 64)), (some (26, false))⟩,
 oO 31 (.pick (.t 26) (.c (.bool true)) (.t 30)),
 oM 32 31,
⟨(some 33), .faddr 0 (.t 1) 0, (some (32, false))⟩,
⟨(some 34), .load 10 (.t 33), (some (32, false))⟩,
⟨(some 35), .call 0 (.f 69) [(.t 34), (.f 70)], (some (32, false))⟩,
⟨(some 36), .un .not (.t 35), (some (32, false))⟩,
 oO 37 (.pick (.t 32) (.c (.bool true)) (.t 36))])
(.cond (.t 37) (.seq (.region false [] [
 oO 2 (.assign (.c (.int .i64 270)))])
(.ret)) (.skip)))
(.seq (.region false [] [
 oO 38 (.mkmap 21),
 oO 3 (.assign (.t 38))])
(.seq (.seq (.region false [] [
 oO 39 (.faddr 0 (.t 1) 0),
 oO 40 (.load 10 (.t 39)),
 oO 41 (.len 10 (.t 40)),
 oO 42 (.move (.c (.int .i64 0)))])
(.block 0 (.loop (.seq (.region false [] [
 oO 43 (.bin .lss 2 (.t 42) (.t 41))])
(.seq (.cond (.t 43) (.skip) (.exit 0))
(.seq (.block 1 (.seq (.region false [] [
 oO 44 (.iaddr 10 (.t 40) (.t 42)),
 oO 45 (.load 20 (.t 44)),
 oO 5 (.alloc 20),
 oE (.store 20 (.t 5) (.t 45))])
(.seq (.seq (.region false [] [
 oO 46 (.faddr 20 (.t 5) 1),
 oO 47 (.load 2 (.t 46)),
 oO 48 (.bin .lss 2 (.t 47) (.c (.int .i64 0))),
 oM 49 48,
⟨(some 50), .faddr 20 (.t 5) 2, (some (49, false))⟩,
⟨(some 51), .load 2 (.t 50), (some (49, false))⟩,
⟨(some 52), .bin .lss 2 (.t 51) (.c (.int .i64 0)), (some (49, false))⟩,
 oO 53 (.pick (.t 49) (.c (.bool true)) (.t 52))])
(.cond (.t 53) (.seq (.region false [] [
 oO 2 (.assign (.c (.int .i64 270)))])
(.ret)) (.skip)))
(.region false [] [
 oM 54 3,
 oO 55 (.load 20 (.t 5)),
 oE (.mapset 21 (.t 54) (.t 55) (.c (.bool true)))]))))
(.region false [] [
 oO 56 (.bin .add 2 (.t 42) (.c (.int .i64 1))),
 oM 42 56])))))))
(.seq (.seq (.region false [] [
 oO 57 (.faddr 0 (.t 1) 1),
 oO 58 (.load 9 (.t 57)),
 oO 59 (.len 9 (.t 58)),
 oO 60 (.move (.c (.int .i64 0)))])
(.block 2 (.loop (.seq (.region false [] [
 oO 61 (.bin .lss 2 (.t 60) (.t 59))])
(.seq (.cond (.t 61) (.skip) (.exit 2))
(.seq (.block 3 (.seq (.region false [] [
 oO 62 (.iaddr 9 (.t 58) (.t 60)),
 oO 63 (.load 6 (.t 62)),
 oO 7 (.assign (.t 63))])
(.seq (.region false [] [
 oM 64 7,
 oO 65 (.len 6 (.t 64)),
 oO 66 (.faddr 0 (.t 1) 0),
 oO 67 (.load 10 (.t 66)),
 oO 68 (.len 10 (.t 67)),
 oO 69 (.bin .neq 2 (.t 65) (.t 68)),
 oM 70 69,
⟨(some 71), .move (.t 7), (some (70, false))⟩,
⟨(some 72), .call 0 (.f 71) [(.t 71), (.f 72)], (some (70, false))⟩,
 oO 73 (.pick (.t 70) (.c (.bool true)) (.t 72))])
(.cond (.t 73) (.seq (.region false [] [
 oO 2 (.assign (.c (.int .i64 270)))])
(.ret)) (.skip)))))
(.region false [] [
 oO 74 (.bin .add 2 (.t 60) (.c (.int .i64 1))),
 oM 60 74])))))))
(.seq (.seq (.region false [] [
 oO 75 (.faddr 0 (.t 1) 2),
 oO 76 (.load 14 (.t 75)),
 oO 77 (.len 14 (.t 76)),
 oO 78 (.move (.c (.int .i64 0)))])
(.block 4 (.loop (.seq (.region false [] [
 oO 79 (.bin .lss 2 (.t 78) (.t 77))])
(.seq (.cond (.t 79) (.skip) (.exit 4))
(.seq (.block 5 (.seq (.region false [] [
 oO 80 (.iaddr 14 (.t 76) (.t 78)),
 oO 81 (.load 15 (.t 80)),
 oO 9 (.alloc 15),
 oE (.store 15 (.t 9) (.t 81))])
(.seq (.seq (.region true [] [
 oO 82 (.faddr 15 (.t 9) 2),
 oO 83 (.load 6 (.t 82)),
 oO 84 (.len 6 (.t 83)),
 oO 85 (.bin .eql 2 (.t 84) (.c (.int .i64 0))),
 oM 86 85,
⟨(some 87), .faddr 15 (.t 9) 3, (some (86, false))⟩,
⟨(some 88), .load 16 (.t 87), (some (86, false))⟩,
⟨(some 89), .len 16 (.t 88), (some (86, false))⟩,
⟨(some 90), .call 0 (.f 67) [(.t 89), (.c (.int .i64 1)), (.c (.int .i64 96))], (some (86, false))⟩,
⟨(some 91), .un .not (.t 90), (some (86, false))⟩,
 oO 92 (.pick (.t 86) (.c (.bool true)) (.t 91)),
 oM 93 92,
⟨(some 94), .faddr 15 (.t 9) 2, (some (93, false))⟩,
⟨(some 95), .load 6 (.t 94), (some (93, false))⟩,
⟨(some 96), .call 0 (.f 73) [(.t 95), (.f 74)], (some (93, false))⟩,
⟨(some 97), .un .not (.t 96), (some (93, false))⟩,
 oO 98 (.pick (.t 93) (.c (.bool true)) (.t 97)),
 oM 99 98,
⟨(some 100), .faddr 15 (.t 9) 2, (some (99, false))⟩,
⟨(some 101), .load 6 (.t 100), (some (99, false))⟩,
⟨(some 102), .iaddr 6 (.t 101) (.c (.int .i64 0)), (some (99, false))⟩,
⟨(some 103), .load 2 (.t 102), (some (99, false))⟩,
⟨(some 104), .bin .lss 2 (.t 103) (.c (.int .i64 0)), (some (99, false))⟩,
 oO 105 (.pick (.t 99) (.c (.bool true)) (.t 104)),
 oM 106 105,
⟨(some 107), .faddr 15 (.t 9) 2, (some (106, false))⟩,
⟨(some 108), .load 6 (.t 107), (some (106, false))⟩,
⟨(some 109), .faddr 15 (.t 9) 2, (some (106, false))⟩,
⟨(some 110), .load 6 (.t 109), (some (106, false))⟩,
⟨(some 111), .len 6 (.t 110), (some (106, false))⟩,
⟨(some 112), .bin .sub 2 (.t 111) (.c (.int .i64 1)), (some (106, false))⟩,
⟨(some 113), .iaddr 6 (.t 108) (.t 112), (some (106, false))⟩,
⟨(some 114), .load 2 (.t 113), (some (106, false))⟩,
⟨(some 115), .faddr 0 (.t 1) 1, (some (106, false))⟩,
⟨(some 116), .load 9 (.t 115), (some (106, false))⟩,
⟨(some 117), .len 9 (.t 116), (some (106, false))⟩,
⟨(some 118), .bin .geq 2 (.t 114) (.t 117), (some (106, false))⟩,
 oO 119 (.pick (.t 106) (.c (.bool true)) (.t 118))])
(.cond (.t 119) (.seq (.region false [] [
 oO 2 (.assign (.c (.int .i64 270)))])
(.ret)) (.skip)))
(.seq (.region false [] [
 oO 120 (.faddr 15 (.t 9) 3),
 oO 121 (.load 16 (.t 120)),
 oO 122 (.len 16 (.t 121)),
 oO 123 (.move (.c (.int .i64 0)))])
(.block 6 (.loop (.seq (.region false [] [
 oO 124 (.bin .lss 2 (.t 123) (.t 122))])
(.seq (.cond (.t 124) (.skip) (.exit 6))
(.seq (.block 7 (.seq (.region false [] [
 oO 125 (.iaddr 16 (.t 121) (.t 123)),
 oO 126 (.load 17 (.t 125)),
 oO 11 (.alloc 17),
 oE (.store 17 (.t 11) (.t 126))])
(.seq (.region false [] [
 oO 12 (.assign (.c (.int .i64 1048576)))])
(.seq (.seq (.region false [] [
 oO 127 (.faddr 17 (.t 11) 0),
 oO 128 (.load 2 (.t 127)),
 oM 129 12,
 oO 130 (.call 0 (.f 67) [(.t 128), (.c (.int .i64 0)), (.t 129)]),
 oO 131 (.un .not (.t 130)),
 oM 132 131,
⟨(some 133), .faddr 17 (.t 11) 1, (some (132, false))⟩,
⟨(some 134), .load 2 (.t 133), (some (132, false))⟩,
⟨(some 135), .move (.t 12), (some (132, false))⟩,
⟨(some 136), .call 0 (.f 67) [(.t 134), (.c (.int .i64 0)), (.t 135)], (some (132, false))⟩,
⟨(some 137), .un .not (.t 136), (some (132, false))⟩,
 oO 138 (.pick (.t 132) (.c (.bool true)) (.t 137)),
 oM 139 138,
⟨(some 140), .faddr 17 (.t 11) 2, (some (139, false))⟩,
⟨(some 141), .load 2 (.t 140), (some (139, false))⟩,
⟨(some 142), .move (.t 12), (some (139, false))⟩,
⟨(some 143), .call 0 (.f 67) [(.t 141), (.c (.int .i64 0)), (.t 142)], (some (139, false))⟩,
⟨(some 144), .un .not (.t 143), (some (139, false))⟩,
 oO 145 (.pick (.t 139) (.c (.bool true)) (.t 144)),
 oM 146 145,
⟨(some 147), .faddr 17 (.t 11) 3, (some (146, false))⟩,
⟨(some 148), .load 18 (.t 147), (some (146, false))⟩,
⟨(some 149), .call 0 (.f 75) [(.t 148), (.f 76)], (some (146, false))⟩,
⟨(some 150), .un .not (.t 149), (some (146, false))⟩,
 oO 151 (.pick (.t 146) (.c (.bool true)) (.t 150))])
(.cond (.t 151) (.seq (.region false [] [
 oO 2 (.assign (.c (.int .i64 270)))])
(.ret)) (.skip)))
(.seq (.region false [] [
 oO 152 (.faddr 17 (.t 11) 3),
 oO 153 (.load 18 (.t 152)),
 oO 154 (.len 18 (.t 153)),
 oO 155 (.move (.c (.int .i64 0)))])
(.block 8 (.loop (.seq (.region false [] [
 oO 156 (.bin .lss 2 (.t 155) (.t 154))])
(.seq (.cond (.t 156) (.skip) (.exit 8))
(.seq (.block 9 (.seq (.region false [] [
 oO 157 (.iaddr 18 (.t 153) (.t 155)),
 oO 158 (.load 19 (.t 157)),
 oO 14 (.alloc 19),
 oE (.store 19 (.t 14) (.t 158))])
(.seq (.region false [] [
 oM 159 3,
 oO 160 (.faddr 19 (.t 14) 0),
 oO 161 (.load 20 (.t 160)),
 oO 162 (.lookup 21 (.t 159) (.t 161) false),
 oO 163 (.un .not (.t 162)),
 oM 164 163,
⟨(some 165), .faddr 19 (.t 14) 1, (some (164, false))⟩,
⟨(some 166), .load 2 (.t 165), (some (164, false))⟩,
⟨(some 167), .call 0 (.f 67) [(.t 166), (.c (.int .i64 1)), (.c (.int .i64 8))], (some (164, false))⟩,
⟨(some 168), .un .not (.t 167), (some (164, false))⟩,
 oO 169 (.pick (.t 164) (.c (.bool true)) (.t 168))])
(.cond (.t 169) (.seq (.region false [] [
 oO 2 (.assign (.c (.int .i64 270)))])
(.ret)) (.skip)))))
(.region false [] [
 oO 170 (.bin .add 2 (.t 155) (.c (.int .i64 1))),
 oM 155 170])))))))))))
(.region false [] [
 oO 171 (.bin .add 2 (.t 123) (.c (.int .i64 1))),
 oM 123 171]))))))))))
(.region false [] [
 oO 172 (.bin .add 2 (.t 78) (.c (.int .i64 1))),
 oM 78 172])))))))
(.seq (.region false [] [
 oO 2 (.assign (.c (.int .i64 0)))])
(.ret)))))))⟩

def f20 : DFn := ⟨26, [.tmp 4],
    .seq (.region false [] [
 oO 4 (.assign (.c (.bool false)))])
(.seq (.seq (.region false [] [
 oM 6 0,
 oO 7 (.len 6 (.t 6)),
 oM 8 1,
 oO 9 (.len 6 (.t 8)),
 oO 10 (.bin .neq 2 (.t 7) (.t 9))])
(.cond (.t 10) (.seq (.region false [] [
 oO 4 (.assign (.c (.bool false)))])
(.ret)) (.skip)))
(.seq (.seq (.region false [] [
 oO 5 (.assign (.c (.int .i64 0)))])
(.block 0 (.loop (.seq (.seq (.region false [] [
 oM 11 5,
 oM 12 0,
 oO 13 (.len 6 (.t 12)),
 oO 14 (.bin .lss 2 (.t 11) (.t 13))])
(.cond (.t 14) (.skip) (.exit 0)))
(.seq (.block 1 (.seq (.region true [] [
 oM 17 0,
 oM 18 5,
 oO 19 (.iaddr 6 (.t 17) (.t 18)),
 oO 20 (.load 2 (.t 19)),
 oM 21 1,
 oM 22 5,
 oO 23 (.iaddr 6 (.t 21) (.t 22)),
 oO 24 (.load 2 (.t 23)),
 oO 25 (.bin .neq 2 (.t 20) (.t 24))])
(.cond (.t 25) (.seq (.region false [] [
 oO 4 (.assign (.c (.bool false)))])
(.ret)) (.skip))))
(.region false [] [
 oM 15 5,
 oO 16 (.bin .add 2 (.t 15) (.c (.int .i64 1))),
 oO 5 (.assign (.t 16))]))))))
(.seq (.region false [] [
 oO 4 (.assign (.c (.bool true)))])
(.ret))))⟩

def f22 : DFn := ⟨76, [.tmp 4, .tmp 5],
    .seq (.region false [] [
 oO 2 (.box 0 (.t 0)),
 oO 4 (.assign (.c (.imm .exact []))),
 oO 5 (.assign (.c (.int .i64 0)))])
(.seq (.seq (.region false [] [
 oO 13 (.load 0 (.t 2)),
 oM 14 1,
 oO 15 (.call 0 (.f 83) [(.t 13), (.t 14)]),
 oO 5 (.assign (.t 15))])
(.seq (.region false [] [
 oM 16 5,
 oO 17 (.bin .neq 3 (.t 16) (.c (.int .i64 0)))])
(.cond (.t 17) (.seq (.region false [] [
 oM 18 5,
 oO 4 (.assign (.c (.imm .exact []))),
 oO 5 (.assign (.t 18))])
(.ret)) (.skip))))
(.seq (.region false [] [
 oO 6 (.alloc 22)])
(.seq (.seq (.region false [] [
 oO 19 (.load 0 (.t 2)),
 oM 20 1,
 oO 21 (.call 0 (.f 84) [(.t 19), (.t 20)])])
(.block 0 (.rfunc (.t 21) [22, 23] (.region false [] [
 oO 8 (.assign (.t 23))]) (.block 1 (.region false [] [
 oO 24 (.iaddr 22 (.t 6) (.c (.int .i64 0))),
 oO 25 (.load 2 (.t 24)),
 oM 26 8,
 oO 27 (.bin .add 2 (.t 25) (.t 26)),
 oO 28 (.iaddr 22 (.t 6) (.c (.int .i64 0))),
 oE (.store 2 (.t 28) (.t 27))])))))
(.seq (.seq (.region false [] [
 oM 29 1,
 oO 30 (.len 6 (.t 29)),
 oO 31 (.move (.c (.int .i64 0)))])
(.block 2 (.loop (.seq (.region false [] [
 oO 32 (.bin .lss 2 (.t 31) (.t 30))])
(.seq (.cond (.t 32) (.skip) (.exit 2))
(.seq (.block 3 (.seq (.region false [] [
 oM 33 31,
 oO 34 (.iaddr 6 (.t 29) (.t 31)),
 oO 35 (.load 2 (.t 34)),
 oO 9 (.assign (.t 33)),
 oO 10 (.assign (.t 35))])
(.seq (.region true [(10, 17), (14, 17), (15, 17)] [
 oO 36 (.faddr 0 (.t 2) 2),
 oO 37 (.load 14 (.t 36)),
 oM 38 9,
 oO 39 (.iaddr 14 (.t 37) (.t 38)),
 oO 40 (.faddr 15 (.t 39) 3),
 oO 41 (.load 16 (.t 40)),
 oM 42 10,
 oO 43 (.iaddr 16 (.t 41) (.t 42)),
 oO 44 (.load 17 (.t 43)),
 oO 45 (.faddr 0 (.t 2) 2),
 oO 46 (.load 14 (.t 45)),
 oM 47 9,
 oO 48 (.iaddr 14 (.t 46) (.t 47)),
 oO 49 (.faddr 15 (.t 48) 2),
 oO 50 (.load 6 (.t 49)),
 oO 51 (.len 6 (.t 50)),
 oO 11 (.alloc 17),
 oE (.store 17 (.t 11) (.t 44)),
 oO 12 (.assign (.t 51))])
(.seq (.region false [] [
 oO 52 (.iaddr 22 (.t 6) (.c (.int .i64 1))),
 oO 53 (.load 2 (.t 52)),
 oO 54 (.faddr 17 (.t 11) 0),
 oO 55 (.load 2 (.t 54)),
 oO 56 (.maxi [(.t 53), (.t 55)]),
 oO 57 (.iaddr 22 (.t 6) (.c (.int .i64 1))),
 oE (.store 2 (.t 57) (.t 56))])
(.seq (.region false [] [
 oO 58 (.iaddr 22 (.t 6) (.c (.int .i64 2))),
 oO 59 (.load 2 (.t 58)),
 oO 60 (.faddr 17 (.t 11) 1),
 oO 61 (.load 2 (.t 60)),
 oM 62 12,
 oO 63 (.bin .mul 2 (.t 61) (.t 62)),
 oO 64 (.bin .add 2 (.t 59) (.t 63)),
 oO 65 (.iaddr 22 (.t 6) (.c (.int .i64 2))),
 oE (.store 2 (.t 65) (.t 64))])
(.region false [] [
 oO 66 (.iaddr 22 (.t 6) (.c (.int .i64 3))),
 oO 67 (.load 2 (.t 66)),
 oO 68 (.faddr 17 (.t 11) 2),
 oO 69 (.load 2 (.t 68)),
 oM 70 12,
 oO 71 (.bin .mul 2 (.t 69) (.t 70)),
 oO 72 (.bin .add 2 (.t 67) (.t 71)),
 oO 73 (.iaddr 22 (.t 6) (.c (.int .i64 3))),
 oE (.store 2 (.t 73) (.t 72))]))))))
(.region false [] [
 oO 74 (.bin .add 2 (.t 31) (.c (.int .i64 1))),
 oM 31 74])))))))
(.seq (.region false [] [
 oO 75 (.slice 22 (.t 6) none none none),
 oO 4 (.assign (.t 75)),
 oO 5 (.assign (.c (.int .i64 0)))])
(.ret))))))⟩

def f24 : DFn := ⟨62, [.tmp 6, .tmp 7],
    .seq (.region false [] [
 oO 3 (.box 0 (.t 0)),
 oO 6 (.assign (.c (.bool false))),
 oO 7 (.assign (.c (.int .i64 0)))])
(.seq (.region false [] [
 oO 15 (.load 0 (.t 3)),
 oM 16 1,
 oO 17 (.call 0 (.f 22) [(.t 15), (.t 16)]),
 oM 14 17,
 oO 18 (.extract (.t 14) 0),
 oO 19 (.extract (.t 14) 1),
 oO 8 (.assign (.t 18)),
 oO 7 (.assign (.t 19))])
(.seq (.seq (.region false [] [
 oM 20 7,
 oO 21 (.bin .neq 3 (.t 20) (.c (.int .i64 0)))])
(.cond (.t 21) (.seq (.region false [] [
 oM 22 7,
 oO 6 (.assign (.c (.bool false))),
 oO 7 (.assign (.t 22))])
(.ret)) (.skip)))
(.seq (.region false [] [
 oO 24 (.load 0 (.t 3)),
 oM 25 2,
 oO 26 (.call 0 (.f 22) [(.t 24), (.t 25)]),
 oM 23 26,
 oO 27 (.extract (.t 23) 0),
 oO 28 (.extract (.t 23) 1),
 oO 9 (.assign (.t 27)),
 oO 7 (.assign (.t 28))])
(.seq (.seq (.region false [] [
 oM 29 7,
 oO 30 (.bin .neq 3 (.t 29) (.c (.int .i64 0)))])
(.cond (.t 30) (.seq (.region false [] [
 oM 31 7,
 oO 6 (.assign (.c (.bool false))),
 oO 7 (.assign (.t 31))])
(.ret)) (.skip)))
(.seq (.seq (.region false [] [
 oM 32 8,
 oM 33 9,
 oO 34 (.build 23 [(0, (.t 32)), (1, (.t 33))]),
 oM 35 1,
 oM 36 2,
 oO 37 (.build 23 [(0, (.t 35)), (1, (.t 36))]),
 oO 38 (.bslice false 24 2 [(0, (.t 34)), (1, (.t 37))]),
 oO 39 (.len 24 (.t 38)),
 oO 40 (.move (.c (.int .i64 0)))])
(.block 0 (.loop (.seq (.region false [] [
 oO 41 (.bin .lss 2 (.t 40) (.t 39))])
(.seq (.cond (.t 41) (.skip) (.exit 0))
(.seq (.block 1 (.seq (.region false [] [
 oO 42 (.iaddr 24 (.t 38) (.t 40)),
 oO 43 (.load 23 (.t 42)),
 oO 11 (.alloc 23),
 oE (.store 23 (.t 11) (.t 43))])
(.seq (.region false [] [
 oO 45 (.iaddr 23 (.t 11) (.c (.int .i64 0))),
 oO 46 (.load 6 (.t 45)),
 oO 47 (.iaddr 23 (.t 11) (.c (.int .i64 1))),
 oO 48 (.load 6 (.t 47)),
 oO 49 (.call 0 (.f 30) [(.t 46), (.t 48)]),
 oM 44 49,
 oO 50 (.extract (.t 44) 0),
 oO 51 (.extract (.t 44) 1),
 oO 12 (.assign (.t 50)),
 oO 13 (.assign (.t 51))])
(.seq (.region false [] [
 oM 52 13,
 oO 53 (.bin .neq 3 (.t 52) (.c (.int .i64 0))),
 oM 54 53,
⟨(some 55), .move (.t 12), (some (54, false))⟩,
⟨(some 56), .bin .neq 2 (.t 55) (.c (.int .i64 0)), (some (54, false))⟩,
 oO 57 (.pick (.t 54) (.c (.bool true)) (.t 56))])
(.cond (.t 57) (.seq (.region false [] [
 oM 58 12,
 oO 59 (.bin .lss 2 (.t 58) (.c (.int .i64 0))),
 oM 60 13,
 oO 6 (.assign (.t 59)),
 oO 7 (.assign (.t 60))])
(.ret)) (.skip))))))
(.region false [] [
 oO 61 (.bin .add 2 (.t 40) (.c (.int .i64 1))),
 oM 40 61])))))))
(.seq (.region false [] [
 oO 6 (.assign (.c (.bool false))),
 oO 7 (.assign (.c (.int .i64 0)))])
(.ret)))))))⟩

def f30 : DFn := ⟨14, [.tmp 4, .tmp 5],
    .seq (.region false [] [
 oO 4 (.assign (.c (.int .i64 0))),
 oO 5 (.assign (.c (.int .i64 0)))])
(.seq (.seq (.region false [] [
 oM 6 0,
 oO 7 (.len 6 (.t 6)),
 oM 8 1,
 oO 9 (.len 6 (.t 8)),
 oO 10 (.bin .neq 2 (.t 7) (.t 9))])
(.cond (.t 10) (.seq (.region false [] [
 oO 4 (.assign (.c (.int .i64 0))),
 oO 5 (.assign (.c (.int .i64 60)))])
(.ret)) (.skip)))
(.seq (.region false [] [
 oM 11 0,
 oM 12 1,
 oO 13 (.call 0 (.f 87) [(.t 11), (.t 12)]),
 oO 4 (.assign (.t 13)),
 oO 5 (.assign (.c (.int .i64 0)))])
(.ret)))⟩

def f37 : DFn := ⟨30, [.tmp 8, .tmp 9, .tmp 10],
    .seq (.region false [] [
 oO 4 (.box 0 (.t 0)),
 oO 8 (.assign (.c (.int .i64 0))),
 oO 9 (.assign (.c (.bool false))),
 oO 10 (.assign (.c (.int .i64 0)))])
(.seq (.seq (.region false [] [
 oO 12 (.load 0 (.t 4)),
 oM 13 1,
 oM 14 3,
 oO 15 (.call 0 (.f 89) [(.t 12), (.t 13), (.t 14)]),
 oO 11 (.assign (.t 15))])
(.seq (.region false [] [
 oM 16 11,
 oO 17 (.bin .neq 3 (.t 16) (.c (.int .i64 0)))])
(.cond (.t 17) (.seq (.region false [] [
 oM 18 11,
 oO 8 (.assign (.c (.int .i64 0))),
 oO 9 (.assign (.c (.bool false))),
 oO 10 (.assign (.t 18))])
(.ret)) (.skip))))
(.seq (.region false [] [
 oO 20 (.load 0 (.t 4)),
 oM 21 1,
 oM 22 2,
 oM 23 3,
 oO 24 (.build 25 [(0, (.t 20)), (1, (.t 21)), (2, (.t 22)), (3, (.t 23))]),
 oO 25 (.call 0 (.f 90) [(.t 24), (.c (.bool true))]),
 oM 19 25,
 oO 26 (.extract (.t 19) 0),
 oO 27 (.extract (.t 19) 1),
 oO 8 (.assign (.t 26)),
 oO 9 (.assign (.t 27))])
(.seq (.region false [] [
 oM 28 8,
 oM 29 9,
 oO 8 (.assign (.t 28)),
 oO 9 (.assign (.t 29)),
 oO 10 (.assign (.c (.int .i64 0)))])
(.ret))))⟩

def f39 : DFn := ⟨35, [.tmp 8, .tmp 9],
    .seq (.region false [] [
 oO 4 (.box 0 (.t 0)),
 oO 8 (.assign (.c (.bool false))),
 oO 9 (.assign (.c (.int .i64 0)))])
(.seq (.seq (.region false [] [
 oO 13 (.load 0 (.t 4)),
 oM 14 1,
 oM 15 3,
 oO 16 (.call 0 (.f 89) [(.t 13), (.t 14), (.t 15)]),
 oO 10 (.assign (.t 16))])
(.seq (.region false [] [
 oM 17 10,
 oO 18 (.bin .neq 3 (.t 17) (.c (.int .i64 0)))])
(.cond (.t 18) (.seq (.region false [] [
 oM 19 10,
 oO 8 (.assign (.c (.bool false))),
 oO 9 (.assign (.t 19))])
(.ret)) (.skip))))
(.seq (.region false [] [
 oO 21 (.load 0 (.t 4)),
 oM 22 1,
 oM 23 2,
 oM 24 3,
 oO 25 (.build 25 [(0, (.t 21)), (1, (.t 22)), (2, (.t 23)), (3, (.t 24))]),
 oO 26 (.call 0 (.f 90) [(.t 25), (.c (.bool false))]),
 oM 20 26,
 oO 27 (.extract (.t 20) 0),
 oO 28 (.extract (.t 20) 1),
 oO 11 (.assign (.t 27)),
 oO 12 (.assign (.t 28))])
(.seq (.region false [] [
 oM 29 12,
 oO 30 (.un .not (.t 29)),
 oM 31 30,
⟨(some 32), .move (.t 11), (some (31, false))⟩,
⟨(some 33), .bin .gtr 2 (.t 32) (.c (.int .i64 0)), (some (31, false))⟩,
 oO 34 (.pick (.t 31) (.c (.bool true)) (.t 33)),
 oO 8 (.assign (.t 34)),
 oO 9 (.assign (.c (.int .i64 0)))])
(.ret))))⟩

def f41 : DFn := ⟨24, [.tmp 4],
    .seq (.region false [] [
 oO 2 (.box 0 (.t 0)),
 oO 4 (.assign (.c (.int .i64 0)))])
(.seq (.seq (.region false [] [
 oO 7 (.load 0 (.t 2)),
 oO 8 (.call 0 (.f 15) [(.t 7)]),
 oO 5 (.assign (.t 8))])
(.seq (.region false [] [
 oM 9 5,
 oO 10 (.bin .neq 3 (.t 9) (.c (.int .i64 0)))])
(.cond (.t 10) (.seq (.region false [] [
 oM 11 5,
 oO 4 (.assign (.t 11))])
(.ret)) (.skip))))
(.seq (.region false [] [
 oO 12 (.mkfn 93 [(.t 2)]),
 oO 6 (.assign (.t 12))])
(.seq (.seq (.region false [] [
 oM 13 1,
 oO 14 (.len 9 (.t 13)),
 oO 15 (.faddr 0 (.t 2) 1),
 oO 16 (.load 9 (.t 15)),
 oO 17 (.len 9 (.t 16)),
 oO 18 (.bin .neq 2 (.t 14) (.t 17)),
 oM 19 18,
⟨(some 20), .move (.t 1), (some (19, false))⟩,
⟨(some 21), .move (.t 6), (some (19, false))⟩,
⟨(some 22), .call 1 (.f 94) [(.t 20), (.t 21)], (some (19, false))⟩,
 oO 23 (.pick (.t 19) (.c (.bool true)) (.t 22))])
(.cond (.t 23) (.seq (.region false [] [
 oO 4 (.assign (.c (.int .i64 290)))])
(.ret)) (.skip)))
(.seq (.region false [] [
 oO 4 (.assign (.c (.int .i64 0)))])
(.ret)))))⟩

def f61 : DFn := ⟨32, [.tmp 4],
    .seq (.region false [] [
 oO 2 (.box 0 (.t 0)),
 oO 4 (.assign (.c (.int .i64 0)))])
(.seq (.region false [] [
 oO 5 (.assign (.c (.int .i64 1)))])
(.seq (.seq (.region false [] [
 oO 6 (.assign (.c (.int .i64 0)))])
(.block 0 (.loop (.seq (.seq (.region false [] [
 oM 7 6,
 oO 8 (.faddr 0 (.t 2) 2),
 oO 9 (.load 14 (.t 8)),
 oO 10 (.len 14 (.t 9)),
 oO 11 (.bin .lss 2 (.t 7) (.t 10)),
 oM 12 11,
⟨(some 13), .move (.t 5), (some (12, true))⟩,
⟨(some 14), .move (.t 1), (some (12, true))⟩,
⟨(some 15), .bin .lss 2 (.t 13) (.t 14), (some (12, true))⟩,
 oO 16 (.pick (.t 12) (.t 15) (.c (.bool false)))])
(.cond (.t 16) (.skip) (.exit 0)))
(.seq (.block 1 (.region false [] [
 oM 19 5,
 oO 20 (.faddr 0 (.t 2) 2),
 oO 21 (.load 14 (.t 20)),
 oM 22 6,
 oO 23 (.iaddr 14 (.t 21) (.t 22)),
 oO 24 (.faddr 15 (.t 23) 3),
 oO 25 (.load 16 (.t 24)),
 oO 26 (.len 16 (.t 25)),
 oO 27 (.maxi [(.c (.int .i64 1)), (.t 26)]),
 oO 28 (.bin .mul 2 (.t 19) (.t 27)),
 oO 5 (.assign (.t 28))]))
(.region false [] [
 oM 17 6,
 oO 18 (.bin .add 2 (.t 17) (.c (.int .i64 1))),
 oO 6 (.assign (.t 18))]))))))
(.seq (.region false [] [
 oM 29 5,
 oM 30 1,
 oO 31 (.mini [(.t 29), (.t 30)]),
 oO 4 (.assign (.t 31))])
(.ret))))⟩

def f62 : DFn := ⟨39, [.tmp 4],
    .seq (.region false [] [
 oO 2 (.box 0 (.t 0)),
 oO 4 (.assign (.c (.int .i64 0)))])
(.seq (.seq (.region false [] [
 oO 7 (.load 0 (.t 2)),
 oO 8 (.call 0 (.f 15) [(.t 7)]),
 oO 4 (.assign (.t 8))])
(.seq (.region false [] [
 oM 9 4,
 oO 10 (.bin .neq 3 (.t 9) (.c (.int .i64 0)))])
(.cond (.t 10) (.seq (.region false [] [
 oM 11 4,
 oO 4 (.assign (.t 11))])
(.ret)) (.skip))))
(.seq (.seq (.region false [] [
 oM 12 1,
 oO 13 (.len 1 (.t 12)),
 oO 14 (.faddr 0 (.t 2) 2),
 oO 15 (.load 14 (.t 14)),
 oO 16 (.len 14 (.t 15)),
 oO 17 (.bin .gtr 2 (.t 13) (.t 16))])
(.cond (.t 17) (.seq (.region false [] [
 oO 4 (.assign (.c (.int .i64 280)))])
(.ret)) (.skip)))
(.seq (.seq (.region false [] [
 oM 18 1,
 oO 19 (.len 1 (.t 18)),
 oO 20 (.move (.c (.int .i64 0)))])
(.block 0 (.loop (.seq (.region false [] [
 oO 21 (.bin .lss 2 (.t 20) (.t 19))])
(.seq (.cond (.t 21) (.skip) (.exit 0))
(.seq (.block 1 (.seq (.region false [] [
 oM 22 20,
 oO 23 (.iaddr 1 (.t 18) (.t 20)),
 oO 24 (.load 2 (.t 23)),
 oO 5 (.assign (.t 22)),
 oO 6 (.assign (.t 24))])
(.seq (.region false [] [
 oM 25 6,
 oO 26 (.bin .lss 2 (.t 25) (.c (.int .i64 0))),
 oM 27 26,
⟨(some 28), .move (.t 6), (some (27, false))⟩,
⟨(some 29), .faddr 0 (.t 2) 2, (some (27, false))⟩,
⟨(some 30), .load 14 (.t 29), (some (27, false))⟩,
⟨(some 31), .move (.t 5), (some (27, false))⟩,
⟨(some 32), .iaddr 14 (.t 30) (.t 31), (some (27, false))⟩,
⟨(some 33), .faddr 15 (.t 32) 3, (some (27, false))⟩,
⟨(some 34), .load 16 (.t 33), (some (27, false))⟩,
⟨(some 35), .len 16 (.t 34), (some (27, false))⟩,
⟨(some 36), .bin .geq 2 (.t 28) (.t 35), (some (27, false))⟩,
 oO 37 (.pick (.t 27) (.c (.bool true)) (.t 36))])
(.cond (.t 37) (.seq (.region false [] [
 oO 4 (.assign (.c (.int .i64 280)))])
(.ret)) (.skip)))))
(.region false [] [
 oO 38 (.bin .add 2 (.t 20) (.c (.int .i64 1))),
 oM 20 38])))))))
(.seq (.region false [] [
 oO 4 (.assign (.c (.int .i64 0)))])
(.ret)))))⟩

def f63 : DFn := ⟨6, [.tmp 4],
    .seq (.region false [] [
 oO 2 (.box 0 (.t 0)),
 oO 3 (.box 1 (.t 1)),
 oO 4 (.assign (.c .nilfn))])
(.seq (.region false [] [
 oO 5 (.mkfn 102 [(.t 2), (.t 3)]),
 oO 4 (.assign (.t 5))])
(.ret))⟩

def f66 : DFn := ⟨38, [.tmp 4],
    .seq (.region false [] [
 oO 2 (.box 0 (.t 0)),
 oO 4 (.assign (.c (.int .i64 0)))])
(.seq (.seq (.region false [] [
 oO 8 (.load 0 (.t 2)),
 oO 9 (.call 0 (.f 15) [(.t 8)]),
 oO 5 (.assign (.t 9))])
(.seq (.region false [] [
 oM 10 5,
 oO 11 (.bin .neq 3 (.t 10) (.c (.int .i64 0)))])
(.cond (.t 11) (.seq (.region false [] [
 oM 12 5,
 oO 4 (.assign (.t 12))])
(.ret)) (.skip))))
(.seq (.seq (.region false [] [
 oM 13 1,
 oO 14 (.len 6 (.t 13)),
 oO 15 (.faddr 0 (.t 2) 2),
 oO 16 (.load 14 (.t 15)),
 oO 17 (.len 14 (.t 16)),
 oO 18 (.bin .gtr 2 (.t 14) (.t 17))])
(.cond (.t 18) (.seq (.region false [] [
 oO 4 (.assign (.c (.int .i64 270)))])
(.ret)) (.skip)))
(.seq (.seq (.region false [] [
 oM 19 1,
 oO 20 (.len 6 (.t 19)),
 oO 21 (.move (.c (.int .i64 0)))])
(.block 0 (.loop (.seq (.region false [] [
 oO 22 (.bin .lss 2 (.t 21) (.t 20))])
(.seq (.cond (.t 22) (.skip) (.exit 0))
(.seq (.block 1 (.seq (.region false [] [
 oM 23 21,
 oO 24 (.iaddr 6 (.t 19) (.t 21)),
 oO 25 (.load 2 (.t 24)),
 oO 6 (.assign (.t 23)),
 oO 7 (.assign (.t 25))])
(.seq (.region false [] [
 oM 26 7,
 oO 27 (.faddr 0 (.t 2) 2),
 oO 28 (.load 14 (.t 27)),
 oM 29 6,
 oO 30 (.iaddr 14 (.t 28) (.t 29)),
 oO 31 (.faddr 15 (.t 30) 3),
 oO 32 (.load 16 (.t 31)),
 oO 33 (.len 16 (.t 32)),
 oO 34 (.bin .sub 2 (.t 33) (.c (.int .i64 1))),
 oO 35 (.call 0 (.f 67) [(.t 26), (.c (.int .i64 0)), (.t 34)]),
 oO 36 (.un .not (.t 35))])
(.cond (.t 36) (.seq (.region false [] [
 oO 4 (.assign (.c (.int .i64 270)))])
(.ret)) (.skip)))))
(.region false [] [
 oO 37 (.bin .add 2 (.t 21) (.c (.int .i64 1))),
 oM 21 37])))))))
(.seq (.region false [] [
 oO 4 (.assign (.c (.int .i64 0)))])
(.ret)))))⟩

def f67 : DFn := ⟨15, [.tmp 6],
    .seq (.region false [] [
 oO 6 (.assign (.c (.bool false)))])
(.seq (.region false [] [
 oM 7 1,
 oM 8 0,
 oO 9 (.bin .leq 2 (.t 7) (.t 8)),
 oM 10 9,
⟨(some 11), .move (.t 0), (some (10, true))⟩,
⟨(some 12), .move (.t 2), (some (10, true))⟩,
⟨(some 13), .bin .leq 2 (.t 11) (.t 12), (some (10, true))⟩,
 oO 14 (.pick (.t 10) (.t 13) (.c (.bool false))),
 oO 6 (.assign (.t 14))])
(.ret))⟩

def f68 : DFn := ⟨62, [.tmp 4],
    .seq (.region false [] [
 oO 2 (.box 0 (.t 0)),
 oO 4 (.assign (.c (.imm .exact [])))])
(.seq (.region false [] [
 oO 12 (.mkmap 26),
 oO 5 (.alloc 26),
 oE (.store 26 (.t 5) (.t 12))])
(.seq (.seq (.region false [] [
 oO 13 (.faddr 0 (.t 2) 0),
 oO 14 (.load 10 (.t 13)),
 oO 15 (.len 10 (.t 14)),
 oO 16 (.move (.c (.int .i64 0)))])
(.block 0 (.loop (.seq (.region false [] [
 oO 17 (.bin .lss 2 (.t 16) (.t 15))])
(.seq (.cond (.t 17) (.skip) (.exit 0))
(.seq (.block 1 (.seq (.region false [] [
 oM 18 16,
 oO 19 (.iaddr 10 (.t 14) (.t 16)),
 oO 20 (.load 20 (.t 19)),
 oO 7 (.alloc 20),
 oO 6 (.assign (.t 18)),
 oE (.store 20 (.t 7) (.t 20))])
(.region false [] [
 oO 21 (.load 26 (.t 5)),
 oO 22 (.load 20 (.t 7)),
 oM 23 6,
 oE (.mapset 26 (.t 21) (.t 22) (.t 23))])))
(.region false [] [
 oO 24 (.bin .add 2 (.t 16) (.c (.int .i64 1))),
 oM 16 24])))))))
(.seq (.region false [] [
 oO 25 (.faddr 0 (.t 2) 1),
 oO 26 (.load 9 (.t 25)),
 oO 27 (.len 9 (.t 26)),
 oO 28 (.mkslice true 9 (.t 27) (.t 27)),
 oO 8 (.alloc 9),
 oE (.store 9 (.t 8) (.t 28))])
(.seq (.seq (.region false [] [
 oO 29 (.load 9 (.t 8)),
 oO 30 (.len 9 (.t 29)),
 oO 31 (.move (.c (.int .i64 0)))])
(.block 2 (.loop (.seq (.region false [] [
 oO 32 (.bin .lss 2 (.t 31) (.t 30))])
(.seq (.cond (.t 32) (.skip) (.exit 2))
(.seq (.block 3 (.seq (.region false [] [
 oM 33 31,
 oO 9 (.assign (.t 33))])
(.region true [] [
 oO 34 (.load 9 (.t 8)),
 oM 35 9,
 oO 36 (.faddr 0 (.t 2) 0),
 oO 37 (.load 10 (.t 36)),
 oO 38 (.len 10 (.t 37)),
 oO 39 (.mkslice true 6 (.t 38) (.t 38)),
 oO 40 (.iaddr 9 (.t 34) (.t 35)),
 oE (.store 6 (.t 40) (.t 39))])))
(.region false [] [
 oO 41 (.bin .add 2 (.t 31) (.c (.int .i64 1))),
 oM 31 41])))))))
(.seq (.seq (.region false [] [
 oO 42 (.load 0 (.t 2)),
 oM 43 1,
 oO 44 (.call 0 (.f 104) [(.t 42), (.t 43)])])
(.block 4 (.rfunc (.t 44) [45, 46] (.seq (.region false [] [
 oO 10 (.assign (.t 45))])
(.region false [] [
 oO 11 (.alloc 19),
 oE (.store 19 (.t 11) (.t 46))])) (.block 5 (.region true [] [
 oO 47 (.load 9 (.t 8)),
 oM 48 10,
 oO 49 (.iaddr 9 (.t 47) (.t 48)),
 oO 50 (.load 6 (.t 49)),
 oO 51 (.load 26 (.t 5)),
 oO 52 (.faddr 19 (.t 11) 0),
 oO 53 (.load 20 (.t 52)),
 oO 54 (.lookup 26 (.t 51) (.t 53) false),
 oO 55 (.iaddr 6 (.t 50) (.t 54)),
 oO 56 (.load 2 (.t 55)),
 oO 57 (.faddr 19 (.t 11) 1),
 oO 58 (.load 2 (.t 57)),
 oO 59 (.bin .add 2 (.t 56) (.t 58)),
 oO 60 (.iaddr 6 (.t 50) (.t 54)),
 oE (.store 2 (.t 60) (.t 59))])))))
(.seq (.region false [] [
 oO 61 (.load 9 (.t 8)),
 oO 4 (.assign (.t 61))])
(.ret)))))))⟩

def f69 : DFn := ⟨24, [.tmp 4],
    .seq (.region false [] [
 oO 4 (.assign (.c (.bool false)))])
(.seq (.seq (.region false [] [
 oO 5 (.assign (.c (.int .i64 1)))])
(.block 0 (.loop (.seq (.seq (.region false [] [
 oM 6 5,
 oM 7 0,
 oO 8 (.len 10 (.t 7)),
 oO 9 (.bin .lss 2 (.t 6) (.t 8))])
(.cond (.t 9) (.skip) (.exit 0)))
(.seq (.block 1 (.seq (.region true [] [
 oM 12 1,
 oM 13 0,
 oM 14 5,
 oO 15 (.bin .sub 2 (.t 14) (.c (.int .i64 1))),
 oO 16 (.iaddr 10 (.t 13) (.t 15)),
 oO 17 (.load 20 (.t 16)),
 oM 18 0,
 oM 19 5,
 oO 20 (.iaddr 10 (.t 18) (.t 19)),
 oO 21 (.load 20 (.t 20)),
 oO 22 (.call 0 (.t 12) [(.t 17), (.t 21)]),
 oO 23 (.bin .geq 2 (.t 22) (.c (.int .i64 0)))])
(.cond (.t 23) (.seq (.region false [] [
 oO 4 (.assign (.c (.bool false)))])
(.ret)) (.skip))))
(.region false [] [
 oM 10 5,
 oO 11 (.bin .add 2 (.t 10) (.c (.int .i64 1))),
 oO 5 (.assign (.t 11))]))))))
(.seq (.region false [] [
 oO 4 (.assign (.c (.bool true)))])
(.ret)))⟩

def f70 : DFn := ⟨24, [.tmp 4],
    .seq (.region false [] [
 oO 2 (.box 20 (.t 0)),
 oO 3 (.box 20 (.t 1)),
 oO 4 (.assign (.c (.int .i64 0)))])
(.seq (.seq (.region false [] [
 oO 5 (.faddr 20 (.t 2) 0),
 oO 6 (.load 7 (.t 5)),
 oO 7 (.faddr 20 (.t 3) 0),
 oO 8 (.load 7 (.t 7)),
 oO 9 (.bin .neq 7 (.t 6) (.t 8))])
(.cond (.t 9) (.seq (.seq (.region false [] [
 oO 10 (.faddr 20 (.t 3) 0),
 oO 11 (.load 7 (.t 10))])
(.cond (.t 11) (.seq (.region false [] [
 oO 4 (.assign (.c (.int .i64 (-1))))])
(.ret)) (.skip)))
(.seq (.region false [] [
 oO 4 (.assign (.c (.int .i64 1)))])
(.ret))) (.skip)))
(.seq (.region true [] [
 oO 12 (.faddr 20 (.t 2) 1),
 oO 13 (.load 2 (.t 12)),
 oO 14 (.faddr 20 (.t 3) 1),
 oO 15 (.load 2 (.t 14)),
 oO 16 (.call 0 (.f 74) [(.t 13), (.t 15)]),
 oO 17 (.faddr 20 (.t 2) 2),
 oO 18 (.load 2 (.t 17)),
 oO 19 (.faddr 20 (.t 3) 2),
 oO 20 (.load 2 (.t 19)),
 oO 21 (.call 0 (.f 74) [(.t 18), (.t 20)]),
 oO 22 (.bslice false 6 2 [(0, (.t 16)), (1, (.t 21))]),
 oO 23 (.call 0 (.f 105) [(.t 22)]),
 oO 4 (.assign (.t 23))])
(.ret)))⟩

def f71 : DFn := ⟨9, [.tmp 4],
    .seq (.region false [] [
 oO 4 (.assign (.c (.bool false)))])
(.seq (.region false [] [
 oM 5 0,
 oM 6 1,
 oO 7 (.call 0 (.f 106) [(.t 5), (.t 6)]),
 oO 8 (.bin .geq 2 (.t 7) (.c (.int .i64 0))),
 oO 4 (.assign (.t 8))])
(.ret))⟩

def f72 : DFn := ⟨6, [.tmp 2],
    .seq (.region false [] [
 oO 2 (.assign (.c (.bool false)))])
(.seq (.region false [] [
 oM 3 0,
 oO 4 (.call 0 (.f 67) [(.t 3), (.c (.int .i64 0)), (.c (.int .i64 4096))]),
 oO 5 (.un .not (.t 4)),
 oO 2 (.assign (.t 5))])
(.ret))⟩

def f73 : DFn := ⟨24, [.tmp 4],
    .seq (.region false [] [
 oO 4 (.assign (.c (.bool false)))])
(.seq (.seq (.region false [] [
 oO 5 (.assign (.c (.int .i64 1)))])
(.block 0 (.loop (.seq (.seq (.region false [] [
 oM 6 5,
 oM 7 0,
 oO 8 (.len 6 (.t 7)),
 oO 9 (.bin .lss 2 (.t 6) (.t 8))])
(.cond (.t 9) (.skip) (.exit 0)))
(.seq (.block 1 (.seq (.region true [] [
 oM 12 1,
 oM 13 0,
 oM 14 5,
 oO 15 (.bin .sub 2 (.t 14) (.c (.int .i64 1))),
 oO 16 (.iaddr 6 (.t 13) (.t 15)),
 oO 17 (.load 2 (.t 16)),
 oM 18 0,
 oM 19 5,
 oO 20 (.iaddr 6 (.t 18) (.t 19)),
 oO 21 (.load 2 (.t 20)),
 oO 22 (.call 0 (.t 12) [(.t 17), (.t 21)]),
 oO 23 (.bin .geq 2 (.t 22) (.c (.int .i64 0)))])
(.cond (.t 23) (.seq (.region false [] [
 oO 4 (.assign (.c (.bool false)))])
(.ret)) (.skip))))
(.region false [] [
 oM 10 5,
 oO 11 (.bin .add 2 (.t 10) (.c (.int .i64 1))),
 oO 5 (.assign (.t 11))]))))))
(.seq (.region false [] [
 oO 4 (.assign (.c (.bool true)))])
(.ret)))⟩

def f74 : DFn := ⟨20, [.tmp 4],
    .seq (.region false [] [
 oO 4 (.assign (.c (.int .i64 0)))])
(.seq (.region false [] [
 oM 7 0,
 oO 8 (.call 0 (.f 107) [(.t 7)]),
 oO 5 (.assign (.t 8))])
(.seq (.region false [] [
 oM 9 1,
 oO 10 (.call 0 (.f 107) [(.t 9)]),
 oO 6 (.assign (.t 10))])
(.seq (.seq (.region false [] [
 oM 11 5])
(.cond (.t 11) (.seq (.seq (.region false [] [
 oM 12 6])
(.cond (.t 12) (.seq (.region false [] [
 oO 4 (.assign (.c (.int .i64 0)))])
(.ret)) (.skip)))
(.seq (.region false [] [
 oO 4 (.assign (.c (.int .i64 (-1))))])
(.ret))) (.skip)))
(.seq (.seq (.region false [] [
 oM 13 6])
(.cond (.t 13) (.seq (.region false [] [
 oO 4 (.assign (.c (.int .i64 1)))])
(.ret)) (.skip)))
(.seq (.seq (.region false [] [
 oM 14 0,
 oM 15 1,
 oO 16 (.bin .lss 2 (.t 14) (.t 15))])
(.cond (.t 16) (.seq (.region false [] [
 oO 4 (.assign (.c (.int .i64 (-1))))])
(.ret)) (.skip)))
(.seq (.seq (.region false [] [
 oM 17 0,
 oM 18 1,
 oO 19 (.bin .gtr 2 (.t 17) (.t 18))])
(.cond (.t 19) (.seq (.region false [] [
 oO 4 (.assign (.c (.int .i64 1)))])
(.ret)) (.skip)))
(.seq (.region false [] [
 oO 4 (.assign (.c (.int .i64 0)))])
(.ret))))))))⟩

def f75 : DFn := ⟨24, [.tmp 4],
    .seq (.region false [] [
 oO 4 (.assign (.c (.bool false)))])
(.seq (.seq (.region false [] [
 oO 5 (.assign (.c (.int .i64 1)))])
(.block 0 (.loop (.seq (.seq (.region false [] [
 oM 6 5,
 oM 7 0,
 oO 8 (.len 18 (.t 7)),
 oO 9 (.bin .lss 2 (.t 6) (.t 8))])
(.cond (.t 9) (.skip) (.exit 0)))
(.seq (.block 1 (.seq (.region true [] [
 oM 12 1,
 oM 13 0,
 oM 14 5,
 oO 15 (.bin .sub 2 (.t 14) (.c (.int .i64 1))),
 oO 16 (.iaddr 18 (.t 13) (.t 15)),
 oO 17 (.load 19 (.t 16)),
 oM 18 0,
 oM 19 5,
 oO 20 (.iaddr 18 (.t 18) (.t 19)),
 oO 21 (.load 19 (.t 20)),
 oO 22 (.call 0 (.t 12) [(.t 17), (.t 21)]),
 oO 23 (.bin .geq 2 (.t 22) (.c (.int .i64 0)))])
(.cond (.t 23) (.seq (.region false [] [
 oO 4 (.assign (.c (.bool false)))])
(.ret)) (.skip))))
(.region false [] [
 oM 10 5,
 oO 11 (.bin .add 2 (.t 10) (.c (.int .i64 1))),
 oO 5 (.assign (.t 11))]))))))
(.seq (.region false [] [
 oO 4 (.assign (.c (.bool true)))])
(.ret)))⟩

def f76 : DFn := ⟨10, [.tmp 4],
    .seq (.region false [] [
 oO 2 (.box 19 (.t 0)),
 oO 3 (.box 19 (.t 1)),
 oO 4 (.assign (.c (.int .i64 0)))])
(.seq (.region false [] [
 oO 5 (.faddr 19 (.t 2) 0),
 oO 6 (.load 20 (.t 5)),
 oO 7 (.faddr 19 (.t 3) 0),
 oO 8 (.load 20 (.t 7)),
 oO 9 (.call 0 (.f 70) [(.t 6), (.t 8)]),
 oO 4 (.assign (.t 9))])
(.ret))⟩

def f83 : DFn := ⟨18, [.tmp 4],
    .seq (.region false [] [
 oO 2 (.box 0 (.t 0)),
 oO 4 (.assign (.c (.int .i64 0)))])
(.seq (.seq (.region false [] [
 oO 6 (.load 0 (.t 2)),
 oM 7 1,
 oO 8 (.call 0 (.f 66) [(.t 6), (.t 7)]),
 oO 5 (.assign (.t 8))])
(.seq (.region false [] [
 oM 9 5,
 oO 10 (.bin .neq 3 (.t 9) (.c (.int .i64 0)))])
(.cond (.t 10) (.seq (.region false [] [
 oM 11 5,
 oO 4 (.assign (.t 11))])
(.ret)) (.skip))))
(.seq (.seq (.region false [] [
 oM 12 1,
 oO 13 (.len 6 (.t 12)),
 oO 14 (.faddr 0 (.t 2) 2),
 oO 15 (.load 14 (.t 14)),
 oO 16 (.len 14 (.t 15)),
 oO 17 (.bin .neq 2 (.t 13) (.t 16))])
(.cond (.t 17) (.seq (.region false [] [
 oO 4 (.assign (.c (.int .i64 270)))])
(.ret)) (.skip)))
(.seq (.region false [] [
 oO 4 (.assign (.c (.int .i64 0)))])
(.ret))))⟩

def f84 : DFn := ⟨6, [.tmp 4],
    .seq (.region false [] [
 oO 2 (.box 0 (.t 0)),
 oO 3 (.box 6 (.t 1)),
 oO 4 (.assign (.c .nilfn))])
(.seq (.region false [] [
 oO 5 (.mkfn 110 [(.t 2), (.t 3)]),
 oO 4 (.assign (.t 5))])
(.ret))⟩

def f87 : DFn := ⟨36, [.tmp 4],
    .seq (.region false [] [
 oO 4 (.assign (.c (.int .i64 0)))])
(.seq (.seq (.region false [] [
 oM 9 0,
 oO 10 (.len 6 (.t 9)),
 oO 11 (.move (.c (.int .i64 0)))])
(.block 0 (.loop (.seq (.region false [] [
 oO 12 (.bin .lss 2 (.t 11) (.t 10))])
(.seq (.cond (.t 12) (.skip) (.exit 0))
(.seq (.block 1 (.seq (.region false [] [
 oM 13 11,
 oO 14 (.iaddr 6 (.t 9) (.t 11)),
 oO 15 (.load 2 (.t 14)),
 oO 5 (.assign (.t 13)),
 oO 6 (.assign (.t 15))])
(.seq (.seq (.region false [] [
 oM 16 5,
 oM 17 1,
 oO 18 (.len 6 (.t 17)),
 oO 19 (.bin .geq 2 (.t 16) (.t 18))])
(.cond (.t 19) (.seq (.region false [] [
 oO 4 (.assign (.c (.int .i64 1)))])
(.ret)) (.skip)))
(.seq (.region false [] [
 oM 20 1,
 oM 21 5,
 oO 22 (.iaddr 6 (.t 20) (.t 21)),
 oO 23 (.load 2 (.t 22)),
 oO 7 (.assign (.t 23))])
(.seq (.region false [] [
 oM 24 6,
 oM 25 7,
 oO 26 (.call 0 (.f 74) [(.t 24), (.t 25)]),
 oO 8 (.assign (.t 26))])
(.seq (.region false [] [
 oM 27 8,
 oO 28 (.bin .neq 2 (.t 27) (.c (.int .i64 0)))])
(.cond (.t 28) (.seq (.region false [] [
 oM 29 8,
 oO 4 (.assign (.t 29))])
(.ret)) (.skip))))))))
(.region false [] [
 oO 30 (.bin .add 2 (.t 11) (.c (.int .i64 1))),
 oM 11 30])))))))
(.seq (.seq (.region false [] [
 oM 31 0,
 oO 32 (.len 6 (.t 31)),
 oM 33 1,
 oO 34 (.len 6 (.t 33)),
 oO 35 (.bin .lss 2 (.t 32) (.t 34))])
(.cond (.t 35) (.seq (.region false [] [
 oO 4 (.assign (.c (.int .i64 (-1))))])
(.ret)) (.skip)))
(.seq (.region false [] [
 oO 4 (.assign (.c (.int .i64 0)))])
(.ret))))⟩

def f89 : DFn := ⟨43, [.tmp 6],
    .seq (.region false [] [
 oO 3 (.box 0 (.t 0)),
 oO 6 (.assign (.c (.int .i64 0)))])
(.seq (.seq (.region false [] [
 oO 10 (.load 0 (.t 3)),
 oM 11 2,
 oO 12 (.call 0 (.f 41) [(.t 10), (.t 11)]),
 oO 7 (.assign (.t 12))])
(.seq (.region false [] [
 oM 13 7,
 oO 14 (.bin .neq 3 (.t 13) (.c (.int .i64 0)))])
(.cond (.t 14) (.seq (.region false [] [
 oM 15 7,
 oO 6 (.assign (.t 15))])
(.ret)) (.skip))))
(.seq (.seq (.region false [] [
 oM 16 1,
 oO 17 (.len 1 (.t 16)),
 oO 18 (.faddr 0 (.t 3) 2),
 oO 19 (.load 14 (.t 18)),
 oO 20 (.len 14 (.t 19)),
 oO 21 (.bin .gtr 2 (.t 17) (.t 20))])
(.cond (.t 21) (.seq (.region false [] [
 oO 6 (.assign (.c (.int .i64 290)))])
(.ret)) (.skip)))
(.seq (.seq (.region false [] [
 oM 22 1,
 oO 23 (.len 1 (.t 22)),
 oO 24 (.move (.c (.int .i64 0)))])
(.block 0 (.loop (.seq (.region false [] [
 oO 25 (.bin .lss 2 (.t 24) (.t 23))])
(.seq (.cond (.t 25) (.skip) (.exit 0))
(.seq (.block 1 (.seq (.region false [] [
 oM 26 24,
 oO 27 (.iaddr 1 (.t 22) (.t 24)),
 oO 28 (.load 2 (.t 27)),
 oO 8 (.assign (.t 26)),
 oO 9 (.assign (.t 28))])
(.seq (.region false [] [
 oM 29 9,
 oO 30 (.bin .lss 2 (.t 29) (.c (.int .i64 0))),
 oM 31 30,
⟨(some 32), .move (.t 9), (some (31, false))⟩,
⟨(some 33), .faddr 0 (.t 3) 2, (some (31, false))⟩,
⟨(some 34), .load 14 (.t 33), (some (31, false))⟩,
⟨(some 35), .move (.t 8), (some (31, false))⟩,
⟨(some 36), .iaddr 14 (.t 34) (.t 35), (some (31, false))⟩,
⟨(some 37), .faddr 15 (.t 36) 3, (some (31, false))⟩,
⟨(some 38), .load 16 (.t 37), (some (31, false))⟩,
⟨(some 39), .len 16 (.t 38), (some (31, false))⟩,
⟨(some 40), .bin .geq 2 (.t 32) (.t 39), (some (31, false))⟩,
 oO 41 (.pick (.t 31) (.c (.bool true)) (.t 40))])
(.cond (.t 41) (.seq (.region false [] [
 oO 6 (.assign (.c (.int .i64 290)))])
(.ret)) (.skip)))))
(.region false [] [
 oO 42 (.bin .add 2 (.t 24) (.c (.int .i64 1))),
 oM 24 42])))))))
(.seq (.region false [] [
 oO 6 (.assign (.c (.int .i64 0)))])
(.ret)))))⟩

def f90 : DFn := ⟨66, [.tmp 4, .tmp 5],
    .seq (.region false [] [
 oO 2 (.box 25 (.t 0)),
 oO 4 (.assign (.c (.int .i64 0))),
 oO 5 (.assign (.c (.bool false)))])
(.seq (.seq (.region false [] [
 oO 14 (.faddr 25 (.t 2) 3),
 oO 15 (.load 9 (.t 14)),
 oO 16 (.len 9 (.t 15)),
 oO 17 (.move (.c (.int .i64 0)))])
(.block 0 (.loop (.seq (.region false [] [
 oO 18 (.bin .lss 2 (.t 17) (.t 16))])
(.seq (.cond (.t 18) (.skip) (.exit 0))
(.seq (.block 1 (.seq (.region false [] [
 oM 19 17,
 oO 20 (.iaddr 9 (.t 15) (.t 17)),
 oO 21 (.load 6 (.t 20)),
 oO 6 (.assign (.t 19)),
 oO 7 (.assign (.t 21))])
(.seq (.region false [] [
 oM 22 7,
 oO 23 (.len 6 (.t 22)),
 oO 24 (.move (.c (.int .i64 0)))])
(.block 2 (.loop (.seq (.region false [] [
 oO 25 (.bin .lss 2 (.t 24) (.t 23))])
(.seq (.cond (.t 25) (.skip) (.exit 2))
(.seq (.block 3 (.seq (.region false [] [
 oM 26 24,
 oO 27 (.iaddr 6 (.t 22) (.t 24)),
 oO 28 (.load 2 (.t 27)),
 oO 8 (.assign (.t 26)),
 oO 9 (.assign (.t 28))])
(.region false [] [
 oM 29 4,
 oM 30 9,
 oO 31 (.faddr 25 (.t 2) 0),
 oO 32 (.faddr 0 (.t 31) 1),
 oO 33 (.load 9 (.t 32)),
 oM 34 6,
 oO 35 (.iaddr 9 (.t 33) (.t 34)),
 oO 36 (.load 6 (.t 35)),
 oM 37 8,
 oO 38 (.iaddr 6 (.t 36) (.t 37)),
 oO 39 (.load 2 (.t 38)),
 oO 40 (.bin .mul 2 (.t 30) (.t 39)),
 oO 41 (.bin .sub 2 (.t 29) (.t 40)),
 oO 4 (.assign (.t 41))])))
(.region false [] [
 oO 42 (.bin .add 2 (.t 24) (.c (.int .i64 1))),
 oM 24 42])))))))))
(.region false [] [
 oO 43 (.bin .add 2 (.t 17) (.c (.int .i64 1))),
 oM 17 43])))))))
(.seq (.seq (.region false [] [
 oO 44 (.faddr 25 (.t 2) 0),
 oO 45 (.faddr 0 (.t 44) 2),
 oO 46 (.load 14 (.t 45)),
 oO 47 (.len 14 (.t 46)),
 oO 48 (.move (.c (.int .i64 0)))])
(.block 4 (.loop (.seq (.region false [] [
 oO 49 (.bin .lss 2 (.t 48) (.t 47))])
(.seq (.cond (.t 49) (.skip) (.exit 4))
(.seq (.block 5 (.seq (.region false [] [
 oM 50 48,
 oO 10 (.assign (.t 50))])
(.seq (.region false [] [
 oO 52 (.load 25 (.t 2)),
 oM 53 10,
 oM 54 1,
 oO 55 (.call 0 (.f 97) [(.t 52), (.t 53), (.t 54)]),
 oM 51 55,
 oO 56 (.extract (.t 51) 0),
 oO 57 (.extract (.t 51) 1),
 oO 58 (.extract (.t 51) 2),
 oO 11 (.alloc 17),
 oE (.store 17 (.t 11) (.t 56)),
 oO 12 (.assign (.t 57)),
 oO 13 (.assign (.t 58))])
(.seq (.seq (.region false [] [
 oM 59 13,
 oO 60 (.un .not (.t 59))])
(.cond (.t 60) (.seq (.region false [] [
 oO 4 (.assign (.c (.int .i64 0))),
 oO 5 (.assign (.c (.bool false)))])
(.ret)) (.skip)))
(.region false [] [
 oM 61 4,
 oM 62 12,
 oO 63 (.bin .add 2 (.t 61) (.t 62)),
 oO 4 (.assign (.t 63))])))))
(.region false [] [
 oO 64 (.bin .add 2 (.t 48) (.c (.int .i64 1))),
 oM 48 64])))))))
(.seq (.region false [] [
 oM 65 4,
 oO 4 (.assign (.t 65)),
 oO 5 (.assign (.c (.bool true)))])
(.ret))))⟩

def f93 : DFn := ⟨14, [.tmp 3],
    .seq (.region false [] [
 oO 3 (.assign (.c (.bool false)))])
(.seq (.region false [] [
 oM 4 0,
 oO 5 (.len 6 (.t 4)),
 oO 6 (.faddr 0 (.t 1) 0),
 oO 7 (.load 10 (.t 6)),
 oO 8 (.len 10 (.t 7)),
 oO 9 (.bin .neq 2 (.t 5) (.t 8)),
 oM 10 9,
⟨(some 11), .move (.t 0), (some (10, false))⟩,
⟨(some 12), .call 0 (.f 71) [(.t 11), (.f 112)], (some (10, false))⟩,
 oO 13 (.pick (.t 10) (.c (.bool true)) (.t 12)),
 oO 3 (.assign (.t 13))])
(.ret))⟩

def f94 : DFn := ⟨9, [.tmp 4],
    .seq (.region false [] [
 oO 4 (.assign (.c (.bool false)))])
(.seq (.region false [] [
 oM 5 0,
 oM 6 1,
 oO 7 (.call 0 (.f 113) [(.t 5), (.t 6)]),
 oO 8 (.bin .geq 2 (.t 7) (.c (.int .i64 0))),
 oO 4 (.assign (.t 8))])
(.ret))⟩

def f96 : DFn := ⟨8, [.tmp 2],
    .seq (.region false [] [ oO 2 (.assign (.c (.imm .exact [])))]) (.seq (.region false [] [
 oO 5 (.bslice false 6 0 []),
 oM 6 0,
 oO 7 (.append 1 6 6 (.t 5) (.t 6)),
 oO 2 (.assign (.t 7))]) .ret)⟩

def f97 : DFn := ⟨24, [.cell 6 17, .tmp 7, .tmp 8],
    .seq (.region false [] [
 oO 3 (.box 25 (.t 0)),
 oO 5 (.box 7 (.t 2)),
 oO 6 (.alloc 17),
 oO 7 (.assign (.c (.int .i64 0))),
 oO 8 (.assign (.c (.bool false)))])
(.seq (.region false [] [
 oO 10 (.faddr 25 (.t 3) 0),
 oO 11 (.faddr 0 (.t 10) 2),
 oO 12 (.load 14 (.t 11)),
 oM 13 1,
 oO 14 (.iaddr 14 (.t 12) (.t 13)),
 oO 15 (.load 15 (.t 14)),
 oO 9 (.alloc 15),
 oE (.store 15 (.t 9) (.t 15))])
(.seq (.region false [] [
 oO 16 (.load 25 (.t 3)),
 oM 17 1,
 oO 18 (.call 0 (.f 114) [(.t 16), (.t 17)]),
 oO 19 (.mkfn 115 [(.t 5), (.t 9), (.t 3)]),
 oO 20 (.call 1 (.f 116) [(.t 18), (.t 19)]),
 oO 21 (.extract (.t 20) 0),
 oO 22 (.extract (.t 20) 1),
 oO 23 (.extract (.t 20) 2),
 oE (.store 17 (.t 6) (.t 21)),
 oO 7 (.assign (.t 22)),
 oO 8 (.assign (.t 23))])
(.ret)))⟩

def f98 : DFn := ⟨16, [.tmp 4],
    .seq (.region false [] [
 oO 2 (.box 25 (.t 0)),
 oO 3 (.box 20 (.t 1)),
 oO 4 (.assign (.c (.int .i64 0)))])
(.seq (.region false [] [
 oO 8 (.faddr 25 (.t 2) 0),
 oO 9 (.faddr 0 (.t 8) 0),
 oO 10 (.load 10 (.t 9)),
 oO 11 (.load 20 (.t 3)),
 oO 12 (.call 0 (.f 117) [(.t 10), (.t 11), (.f 118)]),
 oM 7 12,
 oO 13 (.extract (.t 7) 0),
 oO 14 (.extract (.t 7) 1),
 oO 5 (.assign (.t 13)),
 oO 6 (.assign (.t 14))])
(.seq (.region false [] [
 oM 15 5,
 oO 4 (.assign (.t 15))])
(.ret)))⟩

def f102 : DFn := ⟨43, [],
    .seq (.region false [] [
 oO 7 (.faddr 0 (.t 1) 2),
 oO 8 (.load 14 (.t 7)),
 oO 9 (.len 14 (.t 8)),
 oO 10 (.move (.c (.int .i64 0)))])
(.block 0 (.loop (.seq (.region false [] [
 oO 11 (.bin .lss 2 (.t 10) (.t 9))])
(.seq (.cond (.t 11) (.skip) (.exit 0))
(.seq (.block 1 (.seq (.region false [] [
 oM 12 10,
 oO 13 (.iaddr 14 (.t 8) (.t 10)),
 oO 14 (.load 15 (.t 13)),
 oO 5 (.alloc 15),
 oO 4 (.assign (.t 12)),
 oE (.store 15 (.t 5) (.t 14))])
(.seq (.region true [] [
 oO 15 (.faddr 15 (.t 5) 3),
 oO 16 (.load 16 (.t 15)),
 oO 17 (.iaddr 16 (.t 16) (.c (.int .i64 0))),
 oO 18 (.load 17 (.t 17)),
 oO 19 (.faddr 15 (.t 5) 3),
 oO 20 (.load 16 (.t 19)),
 oO 21 (.slice 16 (.t 20) (some (.c (.int .i64 1))) none none),
 oO 22 (.call 0 (.f 122) [(.t 18), (.t 21)]),
 oO 6 (.alloc 17),
 oE (.store 17 (.t 6) (.t 22))])
(.seq (.seq (.region false [] [
 oM 23 4,
 oO 24 (.load 1 (.t 2)),
 oO 25 (.len 1 (.t 24)),
 oO 26 (.bin .lss 2 (.t 23) (.t 25))])
(.cond (.t 26) (.region true [] [
 oO 27 (.faddr 15 (.t 5) 3),
 oO 28 (.load 16 (.t 27)),
 oO 29 (.load 1 (.t 2)),
 oM 30 4,
 oO 31 (.iaddr 1 (.t 29) (.t 30)),
 oO 32 (.load 2 (.t 31)),
 oO 33 (.iaddr 16 (.t 28) (.t 32)),
 oO 34 (.load 17 (.t 33)),
 oE (.store 17 (.t 6) (.t 34))]) (.skip)))
(.seq (.region false [] [
 oM 35 0,
 oO 36 (.faddr 15 (.t 5) 2),
 oO 37 (.load 6 (.t 36)),
 oO 38 (.len 6 (.t 37)),
 oO 39 (.load 17 (.t 6)),
 oO 40 (.call 2 (.t 35) [(.t 38), (.t 39)]),
 oO 41 (.un .not (.t 40))])
(.cond (.t 41) (.ret) (.skip)))))))
(.region false [] [
 oO 42 (.bin .add 2 (.t 10) (.c (.int .i64 1))),
 oM 10 42]))))))⟩

def f104 : DFn := ⟨6, [.tmp 4],
    .seq (.region false [] [
 oO 2 (.box 0 (.t 0)),
 oO 3 (.box 6 (.t 1)),
 oO 4 (.assign (.c .nilfn))])
(.seq (.region false [] [
 oO 5 (.mkfn 123 [(.t 3), (.t 2)]),
 oO 4 (.assign (.t 5))])
(.ret))⟩

def f105 : DFn := ⟨18, [.tmp 2],
    .seq (.region false [] [
 oO 2 (.assign (.c (.int .i64 0)))])
(.seq (.region false [] [
 oO 3 (.assign (.c (.int .i64 0)))])
(.seq (.seq (.region false [] [
 oM 6 0,
 oO 7 (.len 6 (.t 6)),
 oO 8 (.move (.c (.int .i64 0)))])
(.block 0 (.loop (.seq (.region false [] [
 oO 9 (.bin .lss 2 (.t 8) (.t 7))])
(.seq (.cond (.t 9) (.skip) (.exit 0))
(.seq (.block 1 (.seq (.region false [] [
 oO 10 (.iaddr 6 (.t 6) (.t 8)),
 oO 11 (.load 2 (.t 10)),
 oO 5 (.assign (.t 11))])
(.seq (.region false [] [
 oM 12 5,
 oM 13 3,
 oO 14 (.bin .neq 2 (.t 12) (.t 13))])
(.cond (.t 14) (.seq (.region false [] [
 oM 15 5,
 oO 2 (.assign (.t 15))])
(.ret)) (.skip)))))
(.region false [] [
 oO 16 (.bin .add 2 (.t 8) (.c (.int .i64 1))),
 oM 8 16])))))))
(.seq (.region false [] [
 oM 17 3,
 oO 2 (.assign (.t 17))])
(.ret))))⟩

def f106 : DFn := ⟨19, [.tmp 4],
    .seq (.region false [] [
 oO 4 (.assign (.c (.int .i64 0)))])
(.seq (.seq (.region false [] [
 oM 6 0,
 oO 7 (.len 6 (.t 6)),
 oO 8 (.move (.c (.int .i64 0)))])
(.block 0 (.loop (.seq (.region false [] [
 oO 9 (.bin .lss 2 (.t 8) (.t 7))])
(.seq (.cond (.t 9) (.skip) (.exit 0))
(.seq (.block 1 (.seq (.region false [] [
 oM 10 8,
 oO 5 (.assign (.t 10))])
(.seq (.region false [] [
 oM 11 1,
 oM 12 0,
 oM 13 5,
 oO 14 (.iaddr 6 (.t 12) (.t 13)),
 oO 15 (.load 2 (.t 14)),
 oO 16 (.call 0 (.t 11) [(.t 15)])])
(.cond (.t 16) (.seq (.region false [] [
 oM 17 5,
 oO 4 (.assign (.t 17))])
(.ret)) (.skip)))))
(.region false [] [
 oO 18 (.bin .add 2 (.t 8) (.c (.int .i64 1))),
 oM 8 18])))))))
(.seq (.region false [] [
 oO 4 (.assign (.c (.int .i64 (-1))))])
(.ret)))⟩

def f107 : DFn := ⟨6, [.tmp 2],
    .seq (.region false [] [
 oO 2 (.assign (.c (.bool false)))])
(.seq (.region false [] [
 oM 3 0,
 oM 4 0,
 oO 5 (.bin .neq 2 (.t 3) (.t 4)),
 oO 2 (.assign (.t 5))])
(.ret))⟩

def f110 : DFn := ⟨48, [],
    .seq (.region false [] [
 oO 9 (.load 0 (.t 1)),
 oO 10 (.load 6 (.t 2)),
 oO 11 (.call 0 (.f 68) [(.t 9), (.t 10)]),
 oO 12 (.len 9 (.t 11)),
 oO 13 (.move (.c (.int .i64 0)))])
(.block 0 (.loop (.seq (.region false [] [
 oO 14 (.bin .lss 2 (.t 13) (.t 12))])
(.seq (.cond (.t 14) (.skip) (.exit 0))
(.seq (.block 1 (.seq (.region false [] [
 oM 15 13,
 oO 16 (.iaddr 9 (.t 11) (.t 13)),
 oO 17 (.load 6 (.t 16)),
 oO 4 (.assign (.t 15)),
 oO 5 (.assign (.t 17))])
(.seq (.region false [] [
 oM 18 5,
 oO 19 (.len 6 (.t 18)),
 oO 20 (.move (.c (.int .i64 0)))])
(.block 2 (.loop (.seq (.region false [] [
 oO 21 (.bin .lss 2 (.t 20) (.t 19))])
(.seq (.cond (.t 21) (.skip) (.exit 2))
(.seq (.block 3 (.seq (.region false [] [
 oM 22 20,
 oO 23 (.iaddr 6 (.t 18) (.t 20)),
 oO 24 (.load 2 (.t 23)),
 oO 6 (.assign (.t 22)),
 oO 7 (.assign (.t 24))])
(.seq (.region false [] [
 oM 25 7,
 oO 26 (.faddr 0 (.t 1) 1),
 oO 27 (.load 9 (.t 26)),
 oM 28 4,
 oO 29 (.iaddr 9 (.t 27) (.t 28)),
 oO 30 (.load 6 (.t 29)),
 oM 31 6,
 oO 32 (.iaddr 6 (.t 30) (.t 31)),
 oO 33 (.load 2 (.t 32)),
 oO 34 (.bin .sub 2 (.t 25) (.t 33)),
 oO 8 (.assign (.t 34))])
(.seq (.region false [] [
 oM 35 8,
 oO 36 (.bin .gtr 2 (.t 35) (.c (.int .i64 0))),
 oM 37 36,
⟨(some 38), .move (.t 0), (some (37, true))⟩,
⟨(some 39), .move (.t 4), (some (37, true))⟩,
⟨(some 40), .move (.t 6), (some (37, true))⟩,
⟨(some 41), .build 11 [(0, (.t 39)), (1, (.t 40))], (some (37, true))⟩,
⟨(some 42), .move (.t 8), (some (37, true))⟩,
⟨(some 43), .call 2 (.t 38) [(.t 41), (.t 42)], (some (37, true))⟩,
⟨(some 44), .un .not (.t 43), (some (37, true))⟩,
 oO 45 (.pick (.t 37) (.t 44) (.c (.bool false)))])
(.cond (.t 45) (.ret) (.skip))))))
(.region false [] [
 oO 46 (.bin .add 2 (.t 20) (.c (.int .i64 1))),
 oM 20 46])))))))))
(.region false [] [
 oO 47 (.bin .add 2 (.t 13) (.c (.int .i64 1))),
 oM 13 47]))))))⟩

def f112 : DFn := ⟨9, [.tmp 2],
    .seq (.region false [] [
 oO 2 (.assign (.c (.bool false)))])
(.seq (.region false [] [
 oM 3 0,
 oO 4 (.bin .lss 2 (.t 3) (.c (.int .i64 0))),
 oM 5 4,
⟨(some 6), .move (.t 0), (some (5, false))⟩,
⟨(some 7), .bin .gtr 2 (.t 6) (.c (.int .i64 65536)), (some (5, false))⟩,
 oO 8 (.pick (.t 5) (.c (.bool true)) (.t 7)),
 oO 2 (.assign (.t 8))])
(.ret))⟩

def f113 : DFn := ⟨19, [.tmp 4],
    .seq (.region false [] [
 oO 4 (.assign (.c (.int .i64 0)))])
(.seq (.seq (.region false [] [
 oM 6 0,
 oO 7 (.len 9 (.t 6)),
 oO 8 (.move (.c (.int .i64 0)))])
(.block 0 (.loop (.seq (.region false [] [
 oO 9 (.bin .lss 2 (.t 8) (.t 7))])
(.seq (.cond (.t 9) (.skip) (.exit 0))
(.seq (.block 1 (.seq (.region false [] [
 oM 10 8,
 oO 5 (.assign (.t 10))])
(.seq (.region false [] [
 oM 11 1,
 oM 12 0,
 oM 13 5,
 oO 14 (.iaddr 9 (.t 12) (.t 13)),
 oO 15 (.load 6 (.t 14)),
 oO 16 (.call 0 (.t 11) [(.t 15)])])
(.cond (.t 16) (.seq (.region false [] [
 oM 17 5,
 oO 4 (.assign (.t 17))])
(.ret)) (.skip)))))
(.region false [] [
 oO 18 (.bin .add 2 (.t 8) (.c (.int .i64 1))),
 oM 8 18])))))))
(.seq (.region false [] [
 oO 4 (.assign (.c (.int .i64 (-1))))])
(.ret)))⟩

def f114 : DFn := ⟨6, [.tmp 4],
    .seq (.region false [] [
 oO 2 (.box 25 (.t 0)),
 oO 3 (.box 2 (.t 1)),
 oO 4 (.assign (.c .nilfn))])
(.seq (.region false [] [
 oO 5 (.mkfn 124 [(.t 2), (.t 3)]),
 oO 4 (.assign (.t 5))])
(.ret))⟩

def f115 : DFn := ⟨52, [.tmp 5],
    .seq (.region false [] [
 oO 4 (.box 17 (.t 0)),
 oO 5 (.assign (.c (.int .i64 0)))])
(.seq (.seq (.region false [] [
 oO 11 (.load 7 (.t 1))])
(.cond (.t 11) (.region false [] [
 oO 12 (.faddr 17 (.t 4) 1),
 oO 13 (.load 2 (.t 12)),
 oO 14 (.faddr 15 (.t 2) 2),
 oO 15 (.load 6 (.t 14)),
 oO 16 (.len 6 (.t 15)),
 oO 17 (.bin .mul 2 (.t 13) (.t 16)),
 oO 5 (.assign (.t 17))]) (.skip)))
(.seq (.seq (.region false [] [
 oO 18 (.faddr 17 (.t 4) 3),
 oO 19 (.load 18 (.t 18)),
 oO 20 (.len 18 (.t 19)),
 oO 21 (.move (.c (.int .i64 0)))])
(.block 0 (.loop (.seq (.region false [] [
 oO 22 (.bin .lss 2 (.t 21) (.t 20))])
(.seq (.cond (.t 22) (.skip) (.exit 0))
(.seq (.block 1 (.seq (.region false [] [
 oO 23 (.iaddr 18 (.t 19) (.t 21)),
 oO 24 (.load 19 (.t 23)),
 oO 7 (.alloc 19),
 oE (.store 19 (.t 7) (.t 24))])
(.seq (.region false [] [
 oO 25 (.load 25 (.t 3)),
 oO 26 (.faddr 19 (.t 7) 0),
 oO 27 (.load 20 (.t 26)),
 oO 28 (.call 0 (.f 98) [(.t 25), (.t 27)]),
 oO 8 (.assign (.t 28))])
(.seq (.region false [] [
 oO 29 (.faddr 15 (.t 2) 2),
 oO 30 (.load 6 (.t 29)),
 oO 31 (.len 6 (.t 30)),
 oO 32 (.move (.c (.int .i64 0)))])
(.block 2 (.loop (.seq (.region false [] [
 oO 33 (.bin .lss 2 (.t 32) (.t 31))])
(.seq (.cond (.t 33) (.skip) (.exit 2))
(.seq (.block 3 (.seq (.region false [] [
 oO 34 (.iaddr 6 (.t 30) (.t 32)),
 oO 35 (.load 2 (.t 34)),
 oO 10 (.assign (.t 35))])
(.region true [] [
 oM 36 5,
 oO 37 (.faddr 25 (.t 3) 3),
 oO 38 (.load 9 (.t 37)),
 oM 39 10,
 oO 40 (.iaddr 9 (.t 38) (.t 39)),
 oO 41 (.load 6 (.t 40)),
 oM 42 8,
 oO 43 (.iaddr 6 (.t 41) (.t 42)),
 oO 44 (.load 2 (.t 43)),
 oO 45 (.faddr 19 (.t 7) 1),
 oO 46 (.load 2 (.t 45)),
 oO 47 (.bin .mul 2 (.t 44) (.t 46)),
 oO 48 (.bin .add 2 (.t 36) (.t 47)),
 oO 5 (.assign (.t 48))])))
(.region false [] [
 oO 49 (.bin .add 2 (.t 32) (.c (.int .i64 1))),
 oM 32 49]))))))))))
(.region false [] [
 oO 50 (.bin .add 2 (.t 21) (.c (.int .i64 1))),
 oM 21 50])))))))
(.seq (.region false [] [
 oM 51 5,
 oO 5 (.assign (.t 51))])
(.ret))))⟩

def f116 : DFn := ⟨26, [.cell 4 17, .cell 5 2, .cell 6 7],
    .seq (.region false [] [
 oO 3 (.box 27 (.t 1)),
 oO 4 (.alloc 17),
 oO 5 (.alloc 2),
 oO 6 (.alloc 7)])
(.seq (.seq (.region false [] [
 oM 9 0])
(.block 0 (.rfunc (.t 9) [10] (.region false [] [
 oO 7 (.alloc 17),
 oE (.store 17 (.t 7) (.t 10))]) (.block 1 (.seq (.region false [] [
 oO 11 (.load 27 (.t 3)),
 oO 12 (.load 17 (.t 7)),
 oO 13 (.call 0 (.t 11) [(.t 12)]),
 oO 8 (.assign (.t 13))])
(.seq (.region false [] [
 oO 14 (.load 7 (.t 6)),
 oO 15 (.un .not (.t 14)),
 oM 16 15,
⟨(some 17), .move (.t 8), (some (16, false))⟩,
⟨(some 18), .load 2 (.t 5), (some (16, false))⟩,
⟨(some 19), .bin .lss 2 (.t 17) (.t 18), (some (16, false))⟩,
 oO 20 (.pick (.t 16) (.c (.bool true)) (.t 19))])
(.cond (.t 20) (.region false [] [
 oO 21 (.load 17 (.t 7)),
 oM 22 8,
 oE (.store 17 (.t 4) (.t 21)),
 oE (.store 2 (.t 5) (.t 22)),
 oE (.store 7 (.t 6) (.c (.bool true)))]) (.skip))))))))
(.seq (.region true [(1, 3), (2, 3), (2, 4)] [
 oO 23 (.load 17 (.t 4)),
 oO 24 (.load 2 (.t 5)),
 oO 25 (.load 7 (.t 6)),
 oE (.store 17 (.t 4) (.t 23)),
 oE (.store 2 (.t 5) (.t 24)),
 oE (.store 7 (.t 6) (.t 25))])
(.ret)))⟩

def f117 : DFn := ⟨49, [.tmp 6, .tmp 7],
    .seq (.region false [] [
 oO 4 (.box 20 (.t 1)),
 oO 6 (.assign (.c (.int .i64 0))),
 oO 7 (.assign (.c (.bool false)))])
(.seq (.region false [] [
 oM 12 0,
 oO 13 (.len 10 (.t 12)),
 oO 8 (.assign (.t 13))])
(.seq (.region false [] [
 oM 14 8,
 oO 9 (.assign (.c (.int .i64 0))),
 oO 10 (.assign (.t 14))])
(.seq (.block 0 (.loop (.seq (.seq (.region false [] [
 oM 15 9,
 oM 16 10,
 oO 17 (.bin .lss 2 (.t 15) (.t 16))])
(.cond (.t 17) (.skip) (.exit 0)))
(.block 1 (.seq (.region false [] [
 oM 18 9,
 oM 19 10,
 oO 20 (.bin .add 2 (.t 18) (.t 19)),
 oO 21 (.conv 2 12 (.t 20)),
 oO 22 (.bin .shr 12 (.t 21) (.c (.int .u64 1))),
 oO 23 (.conv 12 2 (.t 22)),
 oO 11 (.assign (.t 23))])
(.seq (.region true [] [
 oM 24 2,
 oM 25 0,
 oM 26 11,
 oO 27 (.iaddr 10 (.t 25) (.t 26)),
 oO 28 (.load 20 (.t 27)),
 oO 29 (.load 20 (.t 4)),
 oO 30 (.call 0 (.t 24) [(.t 28), (.t 29)]),
 oO 31 (.bin .lss 2 (.t 30) (.c (.int .i64 0)))])
(.cond (.t 31) (.region false [] [
 oM 32 11,
 oO 33 (.bin .add 2 (.t 32) (.c (.int .i64 1))),
 oO 9 (.assign (.t 33))]) (.region false [] [
 oM 34 11,
 oO 10 (.assign (.t 34))]))))))))
(.seq (.region true [] [
 oM 35 9,
 oM 36 9,
 oM 37 8,
 oO 38 (.bin .lss 2 (.t 36) (.t 37)),
 oM 39 38,
⟨(some 40), .move (.t 2), (some (39, true))⟩,
⟨(some 41), .move (.t 0), (some (39, true))⟩,
⟨(some 42), .move (.t 9), (some (39, true))⟩,
⟨(some 43), .iaddr 10 (.t 41) (.t 42), (some (39, true))⟩,
⟨(some 44), .load 20 (.t 43), (some (39, true))⟩,
⟨(some 45), .load 20 (.t 4), (some (39, true))⟩,
⟨(some 46), .call 0 (.t 40) [(.t 44), (.t 45)], (some (39, true))⟩,
⟨(some 47), .bin .eql 2 (.t 46) (.c (.int .i64 0)), (some (39, true))⟩,
 oO 48 (.pick (.t 39) (.t 47) (.c (.bool false))),
 oO 6 (.assign (.t 35)),
 oO 7 (.assign (.t 48))])
(.ret)))))⟩

def f118 : DFn := ⟨25, [.tmp 4],
    .seq (.region false [] [
 oO 2 (.box 20 (.t 0)),
 oO 3 (.box 20 (.t 1)),
 oO 4 (.assign (.c (.int .i64 0)))])
(.seq (.region false [] [
 oO 5 (.assign (.f 125))])
(.seq (.region true [] [
 oM 6 5,
 oO 7 (.load 20 (.t 2)),
 oO 8 (.call 0 (.t 6) [(.t 7)]),
 oM 9 5,
 oO 10 (.load 20 (.t 3)),
 oO 11 (.call 0 (.t 9) [(.t 10)]),
 oO 12 (.call 0 (.f 74) [(.t 8), (.t 11)]),
 oO 13 (.faddr 20 (.t 2) 1),
 oO 14 (.load 2 (.t 13)),
 oO 15 (.faddr 20 (.t 3) 1),
 oO 16 (.load 2 (.t 15)),
 oO 17 (.call 0 (.f 74) [(.t 14), (.t 16)]),
 oO 18 (.faddr 20 (.t 2) 2),
 oO 19 (.load 2 (.t 18)),
 oO 20 (.faddr 20 (.t 3) 2),
 oO 21 (.load 2 (.t 20)),
 oO 22 (.call 0 (.f 74) [(.t 19), (.t 21)]),
 oO 23 (.bslice false 6 3 [(0, (.t 12)), (1, (.t 17)), (2, (.t 22))]),
 oO 24 (.call 0 (.f 105) [(.t 23)]),
 oO 4 (.assign (.t 24))])
(.ret)))⟩

def f122 : DFn := ⟨33, [.cell 4 17],
    .seq (.region false [] [
 oO 2 (.box 17 (.t 0)),
 oO 4 (.alloc 17)])
(.seq (.seq (.region false [] [
 oM 7 1,
 oO 8 (.len 16 (.t 7)),
 oO 9 (.move (.c (.int .i64 0)))])
(.block 0 (.loop (.seq (.region false [] [
 oO 10 (.bin .lss 2 (.t 9) (.t 8))])
(.seq (.cond (.t 10) (.skip) (.exit 0))
(.seq (.block 1 (.seq (.region false [] [
 oO 11 (.iaddr 16 (.t 7) (.t 9)),
 oO 12 (.load 17 (.t 11)),
 oO 6 (.alloc 17),
 oE (.store 17 (.t 6) (.t 12))])
(.seq (.region false [] [
 oO 13 (.faddr 17 (.t 2) 0),
 oO 14 (.load 2 (.t 13)),
 oO 15 (.faddr 17 (.t 6) 0),
 oO 16 (.load 2 (.t 15)),
 oO 17 (.mini [(.t 14), (.t 16)]),
 oO 18 (.faddr 17 (.t 2) 0),
 oE (.store 2 (.t 18) (.t 17))])
(.seq (.region false [] [
 oO 19 (.faddr 17 (.t 2) 1),
 oO 20 (.load 2 (.t 19)),
 oO 21 (.faddr 17 (.t 6) 1),
 oO 22 (.load 2 (.t 21)),
 oO 23 (.mini [(.t 20), (.t 22)]),
 oO 24 (.faddr 17 (.t 2) 1),
 oE (.store 2 (.t 24) (.t 23))])
(.region false [] [
 oO 25 (.faddr 17 (.t 2) 2),
 oO 26 (.load 2 (.t 25)),
 oO 27 (.faddr 17 (.t 6) 2),
 oO 28 (.load 2 (.t 27)),
 oO 29 (.mini [(.t 26), (.t 28)]),
 oO 30 (.faddr 17 (.t 2) 2),
 oE (.store 2 (.t 30) (.t 29))])))))
(.region false [] [
 oO 31 (.bin .add 2 (.t 9) (.c (.int .i64 1))),
 oM 9 31])))))))
(.seq (.region false [] [
 oO 32 (.load 17 (.t 2)),
 oE (.store 17 (.t 4) (.t 32))])
(.ret)))⟩

def f123 : DFn := ⟨51, [],
    .seq (.region false [] [
 oO 10 (.load 6 (.t 1)),
 oO 11 (.len 6 (.t 10)),
 oO 12 (.move (.c (.int .i64 0)))])
(.block 0 (.loop (.seq (.region false [] [
 oO 13 (.bin .lss 2 (.t 12) (.t 11))])
(.seq (.cond (.t 13) (.skip) (.exit 0))
(.seq (.block 1 (.seq (.region false [] [
 oM 14 12,
 oO 15 (.iaddr 6 (.t 10) (.t 12)),
 oO 16 (.load 2 (.t 15)),
 oO 4 (.assign (.t 14)),
 oO 5 (.assign (.t 16))])
(.seq (.region false [] [
 oO 17 (.faddr 0 (.t 2) 2),
 oO 18 (.load 14 (.t 17)),
 oM 19 4,
 oO 20 (.iaddr 14 (.t 18) (.t 19)),
 oO 21 (.faddr 15 (.t 20) 2),
 oO 22 (.load 6 (.t 21)),
 oO 23 (.len 6 (.t 22)),
 oO 24 (.move (.c (.int .i64 0)))])
(.block 2 (.loop (.seq (.region false [] [
 oO 25 (.bin .lss 2 (.t 24) (.t 23))])
(.seq (.cond (.t 25) (.skip) (.exit 2))
(.seq (.block 3 (.seq (.region false [] [
 oO 26 (.iaddr 6 (.t 22) (.t 24)),
 oO 27 (.load 2 (.t 26)),
 oO 7 (.assign (.t 27))])
(.seq (.region false [] [
 oO 28 (.faddr 0 (.t 2) 2),
 oO 29 (.load 14 (.t 28)),
 oM 30 4,
 oO 31 (.iaddr 14 (.t 29) (.t 30)),
 oO 32 (.faddr 15 (.t 31) 3),
 oO 33 (.load 16 (.t 32)),
 oM 34 5,
 oO 35 (.iaddr 16 (.t 33) (.t 34)),
 oO 36 (.faddr 17 (.t 35) 3),
 oO 37 (.load 18 (.t 36)),
 oO 38 (.len 18 (.t 37)),
 oO 39 (.move (.c (.int .i64 0)))])
(.block 4 (.loop (.seq (.region false [] [
 oO 40 (.bin .lss 2 (.t 39) (.t 38))])
(.seq (.cond (.t 40) (.skip) (.exit 4))
(.seq (.block 5 (.seq (.region false [] [
 oO 41 (.iaddr 18 (.t 37) (.t 39)),
 oO 42 (.load 19 (.t 41)),
 oO 9 (.alloc 19),
 oE (.store 19 (.t 9) (.t 42))])
(.seq (.region false [] [
 oM 43 0,
 oM 44 7,
 oO 45 (.load 19 (.t 9)),
 oO 46 (.call 2 (.t 43) [(.t 44), (.t 45)]),
 oO 47 (.un .not (.t 46))])
(.cond (.t 47) (.ret) (.skip)))))
(.region false [] [
 oO 48 (.bin .add 2 (.t 39) (.c (.int .i64 1))),
 oM 39 48])))))))))
(.region false [] [
 oO 49 (.bin .add 2 (.t 24) (.c (.int .i64 1))),
 oM 24 49])))))))))
(.region false [] [
 oO 50 (.bin .add 2 (.t 12) (.c (.int .i64 1))),
 oM 12 50]))))))⟩

def f124 : DFn := ⟨47, [],
    .seq (.region false [] [
 oO 6 (.faddr 25 (.t 1) 0),
 oO 7 (.faddr 0 (.t 6) 2),
 oO 8 (.load 14 (.t 7)),
 oO 9 (.load 2 (.t 2)),
 oO 10 (.iaddr 14 (.t 8) (.t 9)),
 oO 11 (.faddr 15 (.t 10) 3),
 oO 12 (.load 16 (.t 11)),
 oO 13 (.len 16 (.t 12)),
 oO 14 (.move (.c (.int .i64 0)))])
(.block 0 (.loop (.seq (.region false [] [
 oO 15 (.bin .lss 2 (.t 14) (.t 13))])
(.seq (.cond (.t 15) (.skip) (.exit 0))
(.seq (.block 1 (.seq (.region false [] [
 oM 16 14,
 oO 17 (.iaddr 16 (.t 12) (.t 14)),
 oO 18 (.load 17 (.t 17)),
 oO 5 (.alloc 17),
 oO 4 (.assign (.t 16)),
 oE (.store 17 (.t 5) (.t 18))])
(.seq (.region false [] [
 oO 19 (.faddr 17 (.t 5) 0),
 oO 20 (.load 2 (.t 19)),
 oO 21 (.faddr 25 (.t 1) 2),
 oO 22 (.load 2 (.t 21)),
 oO 23 (.bin .leq 2 (.t 20) (.t 22)),
 oM 24 23,
⟨(some 25), .load 2 (.t 2), (some (24, true))⟩,
⟨(some 26), .faddr 25 (.t 1) 1, (some (24, true))⟩,
⟨(some 27), .load 1 (.t 26), (some (24, true))⟩,
⟨(some 28), .len 1 (.t 27), (some (24, true))⟩,
⟨(some 29), .bin .geq 2 (.t 25) (.t 28), (some (24, true))⟩,
⟨(some 30), .move (.t 29), (some (24, true))⟩,
⟨(some 31), .faddr 25 (.t 1) 1, (some (30, false))⟩,
⟨(some 32), .load 1 (.t 31), (some (30, false))⟩,
⟨(some 33), .load 2 (.t 2), (some (30, false))⟩,
⟨(some 34), .iaddr 1 (.t 32) (.t 33), (some (30, false))⟩,
⟨(some 35), .load 2 (.t 34), (some (30, false))⟩,
⟨(some 36), .move (.t 4), (some (30, false))⟩,
⟨(some 37), .bin .eql 2 (.t 35) (.t 36), (some (30, false))⟩,
⟨(some 38), .pick (.t 30) (.c (.bool true)) (.t 37), (some (24, true))⟩,
 oO 39 (.pick (.t 24) (.t 38) (.c (.bool false))),
 oM 40 39,
⟨(some 41), .move (.t 0), (some (40, true))⟩,
⟨(some 42), .load 17 (.t 5), (some (40, true))⟩,
⟨(some 43), .call 2 (.t 41) [(.t 42)], (some (40, true))⟩,
⟨(some 44), .un .not (.t 43), (some (40, true))⟩,
 oO 45 (.pick (.t 40) (.t 44) (.c (.bool false)))])
(.cond (.t 45) (.ret) (.skip)))))
(.region false [] [
 oO 46 (.bin .add 2 (.t 14) (.c (.int .i64 1))),
 oM 14 46]))))))⟩

def f125 : DFn := ⟨5, [.tmp 2],
    .seq (.region false [] [
 oO 1 (.box 20 (.t 0)),
 oO 2 (.assign (.c (.int .i64 0)))])
(.seq (.seq (.region false [] [
 oO 3 (.faddr 20 (.t 1) 0),
 oO 4 (.load 7 (.t 3))])
(.cond (.t 4) (.seq (.region false [] [
 oO 2 (.assign (.c (.int .i64 1)))])
(.ret)) (.skip)))
(.seq (.region false [] [
 oO 2 (.assign (.c (.int .i64 0)))])
(.ret)))⟩

def f129 : DFn := ⟨10, [.tmp 2],
    .seq (.region false [] [
 oO 1 (.box 0 (.t 0)),
 oO 2 (.assign (.c (.bool false)))])
(.seq (.region false [] [
 oO 3 (.load 0 (.t 1)),
 oO 4 (.call 0 (.f 2) [(.t 3)]),
 oM 5 4,
⟨(some 6), .load 0 (.t 1), (some (5, true))⟩,
⟨(some 7), .call 0 (.f 61) [(.t 6), (.c (.int .i64 400))], (some (5, true))⟩,
⟨(some 8), .bin .leq 2 (.t 7) (.c (.int .i64 300)), (some (5, true))⟩,
 oO 9 (.pick (.t 5) (.t 8) (.c (.bool false))),
 oO 2 (.assign (.t 9))])
(.ret))⟩

def f159 : DFn := ⟨9, [.tmp 4],
    .seq (.region false [] [
 oO 4 (.assign (.c (.bool false)))])
(.seq (.region false [] [
 oM 5 0,
 oM 6 1,
 oO 7 (.call 0 (.f 173) [(.t 5), (.t 6)]),
 oO 8 (.bin .geq 2 (.t 7) (.c (.int .i64 0))),
 oO 4 (.assign (.t 8))])
(.ret))⟩

def f162 : DFn := ⟨26, [.tmp 4],
    .seq (.region false [] [
 oO 4 (.assign (.c (.bool false)))])
(.seq (.seq (.region false [] [
 oM 6 0,
 oO 7 (.len 6 (.t 6)),
 oM 8 1,
 oO 9 (.len 6 (.t 8)),
 oO 10 (.bin .neq 2 (.t 7) (.t 9))])
(.cond (.t 10) (.seq (.region false [] [
 oO 4 (.assign (.c (.bool false)))])
(.ret)) (.skip)))
(.seq (.seq (.region false [] [
 oM 11 0,
 oO 12 (.len 6 (.t 11)),
 oO 13 (.move (.c (.int .i64 0)))])
(.block 0 (.loop (.seq (.region false [] [
 oO 14 (.bin .lss 2 (.t 13) (.t 12))])
(.seq (.cond (.t 14) (.skip) (.exit 0))
(.seq (.block 1 (.seq (.region false [] [
 oM 15 13,
 oO 5 (.assign (.t 15))])
(.seq (.region true [] [
 oM 16 0,
 oM 17 5,
 oO 18 (.iaddr 6 (.t 16) (.t 17)),
 oO 19 (.load 2 (.t 18)),
 oM 20 1,
 oM 21 5,
 oO 22 (.iaddr 6 (.t 20) (.t 21)),
 oO 23 (.load 2 (.t 22)),
 oO 24 (.bin .neq 2 (.t 19) (.t 23))])
(.cond (.t 24) (.seq (.region false [] [
 oO 4 (.assign (.c (.bool false)))])
(.ret)) (.skip)))))
(.region false [] [
 oO 25 (.bin .add 2 (.t 13) (.c (.int .i64 1))),
 oM 13 25])))))))
(.seq (.region false [] [
 oO 4 (.assign (.c (.bool true)))])
(.ret))))⟩

def f173 : DFn := ⟨19, [.tmp 4],
    .seq (.region false [] [
 oO 4 (.assign (.c (.int .i64 0)))])
(.seq (.seq (.region false [] [
 oM 6 0,
 oO 7 (.len 4 (.t 6)),
 oO 8 (.move (.c (.int .i64 0)))])
(.block 0 (.loop (.seq (.region false [] [
 oO 9 (.bin .lss 2 (.t 8) (.t 7))])
(.seq (.cond (.t 9) (.skip) (.exit 0))
(.seq (.block 1 (.seq (.region false [] [
 oM 10 8,
 oO 5 (.assign (.t 10))])
(.seq (.region false [] [
 oM 11 1,
 oM 12 0,
 oM 13 5,
 oO 14 (.iaddr 4 (.t 12) (.t 13)),
 oO 15 (.load 1 (.t 14)),
 oO 16 (.call 0 (.t 11) [(.t 15)])])
(.cond (.t 16) (.seq (.region false [] [
 oM 17 5,
 oO 4 (.assign (.t 17))])
(.ret)) (.skip)))))
(.region false [] [
 oO 18 (.bin .add 2 (.t 8) (.c (.int .i64 1))),
 oM 8 18])))))))
(.seq (.region false [] [
 oO 4 (.assign (.c (.int .i64 (-1))))])
(.ret)))⟩

def f211 : DFn := ⟨102, [.tmp 10],
    .seq (.region false [] [
 oO 5 (.box 0 (.t 0)),
 oO 6 (.box 29 (.t 1)),
 oO 8 (.box 15 (.t 3)),
 oO 10 (.assign (.c (.bool false)))])
(.seq (.seq (.region false [] [
 oO 19 (.call 0 (.f 212) []),
 oO 20 (.un .not (.t 19))])
(.cond (.t 20) (.seq (.region false [] [
 oO 10 (.assign (.c (.bool false)))])
(.ret)) (.skip)))
(.seq (.seq (.region false [] [
 oO 21 (.load 0 (.t 5)),
 oO 22 (.call 0 (.f 129) [(.t 21)]),
 oO 23 (.un .not (.t 22)),
 oM 24 23,
⟨(some 25), .load 29 (.t 6), (some (24, false))⟩,
⟨(some 26), .call 0 (.f 213) [(.t 25)], (some (24, false))⟩,
⟨(some 27), .un .not (.t 26), (some (24, false))⟩,
 oO 28 (.pick (.t 24) (.c (.bool true)) (.t 27)),
 oM 29 28,
⟨(some 30), .move (.t 4), (some (29, false))⟩,
⟨(some 31), .len 6 (.t 30), (some (29, false))⟩,
⟨(some 32), .bin .gtr 2 (.t 31) (.c (.int .i64 20)), (some (29, false))⟩,
 oO 33 (.pick (.t 29) (.c (.bool true)) (.t 32))])
(.cond (.t 33) (.seq (.region false [] [
 oO 10 (.assign (.c (.bool true)))])
(.ret)) (.skip)))
(.seq (.region false [] [
 oO 35 (.load 0 (.t 5)),
 oM 36 2,
 oO 37 (.load 15 (.t 8)),
 oO 38 (.call 0 (.f 214) [(.t 35), (.t 36), (.t 37)]),
 oM 34 38,
 oO 39 (.extract (.t 34) 0),
 oO 40 (.extract (.t 34) 1),
 oO 11 (.alloc 0),
 oE (.store 0 (.t 11) (.t 39)),
 oO 12 (.assign (.t 40))])
(.seq (.seq (.region false [] [
 oM 41 12,
 oO 42 (.bin .neq 3 (.t 41) (.c (.int .i64 0))),
 oM 43 42,
⟨(some 44), .load 0 (.t 11), (some (43, false))⟩,
⟨(some 45), .call 0 (.f 129) [(.t 44)], (some (43, false))⟩,
⟨(some 46), .un .not (.t 45), (some (43, false))⟩,
 oO 47 (.pick (.t 43) (.c (.bool true)) (.t 46))])
(.cond (.t 47) (.seq (.region false [] [
 oM 48 12,
 oO 49 (.bin .eql 3 (.t 48) (.c (.int .i64 0))),
 oM 50 49,
⟨(some 51), .faddr 0 (.t 11) 2, (some (50, false))⟩,
⟨(some 52), .load 14 (.t 51), (some (50, false))⟩,
⟨(some 53), .len 14 (.t 52), (some (50, false))⟩,
⟨(some 54), .bin .eql 2 (.t 53) (.c (.int .i64 0)), (some (50, false))⟩,
 oO 55 (.pick (.t 50) (.c (.bool true)) (.t 54)),
 oO 10 (.assign (.t 55))])
(.ret)) (.skip)))
(.seq (.region false [] [
 oO 57 (.load 0 (.t 11)),
 oO 58 (.load 29 (.t 6)),
 oO 59 (.call 0 (.f 215) [(.t 57), (.t 58)]),
 oM 56 59,
 oO 60 (.extract (.t 56) 0),
 oO 61 (.extract (.t 56) 1),
 oO 13 (.alloc 29),
 oE (.store 29 (.t 13) (.t 60)),
 oO 14 (.assign (.t 61))])
(.seq (.region false [] [
 oO 63 (.load 0 (.t 11)),
 oO 64 (.faddr 29 (.t 13) 0),
 oO 65 (.load 6 (.t 64)),
 oO 66 (.call 0 (.f 22) [(.t 63), (.t 65)]),
 oM 62 66,
 oO 67 (.extract (.t 62) 0),
 oO 68 (.extract (.t 62) 1),
 oO 15 (.assign (.t 67)),
 oO 16 (.assign (.t 68))])
(.seq (.seq (.region false [] [
 oM 69 14,
 oO 70 (.bin .neq 3 (.t 69) (.c (.int .i64 0))),
 oM 71 70,
⟨(some 72), .move (.t 16), (some (71, false))⟩,
⟨(some 73), .bin .neq 3 (.t 72) (.c (.int .i64 0)), (some (71, false))⟩,
 oO 74 (.pick (.t 71) (.c (.bool true)) (.t 73)),
 oM 75 74,
⟨(some 76), .move (.t 15), (some (75, false))⟩,
⟨(some 77), .faddr 29 (.t 13) 1, (some (75, false))⟩,
⟨(some 78), .load 6 (.t 77), (some (75, false))⟩,
⟨(some 79), .call 0 (.f 20) [(.t 76), (.t 78)], (some (75, false))⟩,
⟨(some 80), .un .not (.t 79), (some (75, false))⟩,
 oO 81 (.pick (.t 75) (.c (.bool true)) (.t 80)),
 oM 82 81,
⟨(some 83), .load 0 (.t 11), (some (82, false))⟩,
⟨(some 84), .load 29 (.t 13), (some (82, false))⟩,
⟨(some 85), .call 0 (.f 216) [(.t 83), (.t 84)], (some (82, false))⟩,
⟨(some 86), .bin .neq 3 (.t 85) (.c (.int .i64 0)), (some (82, false))⟩,
 oO 87 (.pick (.t 82) (.c (.bool true)) (.t 86))])
(.cond (.t 87) (.seq (.region false [] [
 oO 10 (.assign (.c (.bool false)))])
(.ret)) (.skip)))
(.seq (.region false [] [
 oO 89 (.load 0 (.t 11)),
 oM 90 4,
 oO 91 (.faddr 29 (.t 13) 0),
 oO 92 (.load 6 (.t 91)),
 oO 93 (.call 0 (.f 24) [(.t 89), (.t 90), (.t 92)]),
 oM 88 93,
 oO 94 (.extract (.t 88) 0),
 oO 95 (.extract (.t 88) 1),
 oO 17 (.assign (.t 94)),
 oO 18 (.assign (.t 95))])
(.seq (.region false [] [
 oM 96 18,
 oO 97 (.bin .neq 3 (.t 96) (.c (.int .i64 0))),
 oM 98 97,
⟨(some 99), .move (.t 17), (some (98, false))⟩,
⟨(some 100), .un .not (.t 99), (some (98, false))⟩,
 oO 101 (.pick (.t 98) (.c (.bool true)) (.t 100)),
 oO 10 (.assign (.t 101))])
(.ret))))))))))⟩

def f212 : DFn := ⟨178, [.tmp 0],
    .seq (.region false [] [
 oO 0 (.assign (.c (.bool false)))])
(.seq (.region false [] [
 oO 22 (.call 0 (.f 221) []),
 oO 1 (.alloc 0),
 oE (.store 0 (.t 1) (.t 22))])
(.seq (.region false [] [
 oO 24 (.load 0 (.t 1)),
 oO 25 (.build 29 []),
 oO 26 (.call 0 (.f 215) [(.t 24), (.t 25)]),
 oM 23 26,
 oO 27 (.extract (.t 23) 0),
 oO 28 (.extract (.t 23) 1),
 oO 2 (.alloc 29),
 oE (.store 29 (.t 2) (.t 27)),
 oO 3 (.assign (.t 28))])
(.seq (.region false [] [
 oO 29 (.faddr 0 (.t 1) 2),
 oO 30 (.load 14 (.t 29)),
 oO 31 (.iaddr 14 (.t 30) (.c (.int .i64 0))),
 oO 32 (.load 15 (.t 31)),
 oO 4 (.alloc 15),
 oE (.store 15 (.t 4) (.t 32))])
(.seq (.region false [] [
 oO 33 (.build 17 [(1, (.c (.int .i64 1)))]),
 oO 34 (.bslice false 16 1 [(0, (.t 33))]),
 oO 35 (.faddr 15 (.t 4) 3),
 oE (.store 16 (.t 35) (.t 34))])
(.seq (.region false [] [
 oO 37 (.load 0 (.t 1)),
 oO 38 (.load 15 (.t 4)),
 oO 39 (.call 0 (.f 214) [(.t 37), (.c (.int .i64 0)), (.t 38)]),
 oM 36 39,
 oO 40 (.extract (.t 36) 0),
 oO 41 (.extract (.t 36) 1),
 oO 5 (.alloc 0),
 oE (.store 0 (.t 5) (.t 40)),
 oO 6 (.assign (.t 41))])
(.seq (.region false [] [
 oO 43 (.load 0 (.t 5)),
 oO 44 (.load 29 (.t 2)),
 oO 45 (.call 0 (.f 215) [(.t 43), (.t 44)]),
 oM 42 45,
 oO 46 (.extract (.t 42) 0),
 oO 47 (.extract (.t 42) 1),
 oO 7 (.alloc 29),
 oE (.store 29 (.t 7) (.t 46)),
 oO 8 (.assign (.t 47))])
(.seq (.region false [] [
 oO 49 (.load 0 (.t 1)),
 oO 50 (.load 29 (.t 2)),
 oO 51 (.call 0 (.f 222) [(.t 49), (.t 50)]),
 oM 48 51,
 oO 52 (.extract (.t 48) 0),
 oO 53 (.extract (.t 48) 1),
 oO 9 (.assign (.t 52)),
 oO 10 (.assign (.t 53))])
(.seq (.region false [] [
 oO 55 (.load 0 (.t 5)),
 oO 56 (.load 29 (.t 2)),
 oO 57 (.call 0 (.f 222) [(.t 55), (.t 56)]),
 oM 54 57,
 oO 58 (.extract (.t 54) 0),
 oO 59 (.extract (.t 54) 1),
 oO 11 (.assign (.t 58)),
 oO 12 (.assign (.t 59))])
(.seq (.region false [] [
 oO 60 (.bslice false 6 0 []),
 oO 61 (.bslice false 9 1 [(0, (.t 60))]),
 oO 62 (.build 0 [(1, (.t 61))]),
 oO 13 (.alloc 0),
 oE (.store 0 (.t 13) (.t 62))])
(.seq (.region false [] [
 oO 64 (.load 0 (.t 13)),
 oO 65 (.load 15 (.t 4)),
 oO 66 (.call 0 (.f 214) [(.t 64), (.c (.int .i64 0)), (.t 65)]),
 oM 63 66,
 oO 67 (.extract (.t 63) 0),
 oO 68 (.extract (.t 63) 1),
 oO 14 (.alloc 0),
 oE (.store 0 (.t 14) (.t 67)),
 oO 15 (.assign (.t 68))])
(.seq (.region false [] [
 oO 70 (.load 0 (.t 1)),
 oO 71 (.build 29 []),
 oO 72 (.call 0 (.f 222) [(.t 70), (.t 71)]),
 oM 69 72,
 oO 73 (.extract (.t 69) 0),
 oO 74 (.extract (.t 69) 1),
 oO 16 (.assign (.t 73)),
 oO 17 (.assign (.t 74))])
(.seq (.region false [] [
 oO 76 (.load 0 (.t 13)),
 oO 77 (.build 29 []),
 oO 78 (.call 0 (.f 215) [(.t 76), (.t 77)]),
 oM 75 78,
 oO 79 (.extract (.t 75) 0),
 oO 80 (.extract (.t 75) 1),
 oO 18 (.alloc 29),
 oE (.store 29 (.t 18) (.t 79)),
 oO 19 (.assign (.t 80))])
(.seq (.region false [] [
 oO 82 (.build 0 []),
 oO 83 (.load 29 (.t 2)),
 oO 84 (.call 0 (.f 215) [(.t 82), (.t 83)]),
 oM 81 84,
 oO 85 (.extract (.t 81) 0),
 oO 86 (.extract (.t 81) 1),
 oO 20 (.alloc 29),
 oE (.store 29 (.t 20) (.t 85)),
 oO 21 (.assign (.t 86))])
(.seq (.seq (.region false [] [
 oM 87 3,
 oO 88 (.bin .neq 3 (.t 87) (.c (.int .i64 0))),
 oM 89 88,
⟨(some 90), .move (.t 6), (some (89, false))⟩,
⟨(some 91), .bin .neq 3 (.t 90) (.c (.int .i64 0)), (some (89, false))⟩,
 oO 92 (.pick (.t 89) (.c (.bool true)) (.t 91)),
 oM 93 92,
⟨(some 94), .move (.t 8), (some (93, false))⟩,
⟨(some 95), .bin .neq 3 (.t 94) (.c (.int .i64 0)), (some (93, false))⟩,
 oO 96 (.pick (.t 93) (.c (.bool true)) (.t 95)),
 oM 97 96,
⟨(some 98), .move (.t 10), (some (97, false))⟩,
⟨(some 99), .bin .neq 3 (.t 98) (.c (.int .i64 0)), (some (97, false))⟩,
 oO 100 (.pick (.t 97) (.c (.bool true)) (.t 99)),
 oM 101 100,
⟨(some 102), .move (.t 12), (some (101, false))⟩,
⟨(some 103), .bin .neq 3 (.t 102) (.c (.int .i64 0)), (some (101, false))⟩,
 oO 104 (.pick (.t 101) (.c (.bool true)) (.t 103)),
 oM 105 104,
⟨(some 106), .move (.t 15), (some (105, false))⟩,
⟨(some 107), .bin .neq 3 (.t 106) (.c (.int .i64 330)), (some (105, false))⟩,
 oO 108 (.pick (.t 105) (.c (.bool true)) (.t 107)),
 oM 109 108,
⟨(some 110), .move (.t 17), (some (109, false))⟩,
⟨(some 111), .bin .neq 3 (.t 110) (.c (.int .i64 0)), (some (109, false))⟩,
 oO 112 (.pick (.t 109) (.c (.bool true)) (.t 111)),
 oM 113 112,
⟨(some 114), .move (.t 19), (some (113, false))⟩,
⟨(some 115), .bin .neq 3 (.t 114) (.c (.int .i64 0)), (some (113, false))⟩,
 oO 116 (.pick (.t 113) (.c (.bool true)) (.t 115)),
 oM 117 116,
⟨(some 118), .move (.t 21), (some (117, false))⟩,
⟨(some 119), .bin .neq 3 (.t 118) (.c (.int .i64 270)), (some (117, false))⟩,
 oO 120 (.pick (.t 117) (.c (.bool true)) (.t 119))])
(.cond (.t 120) (.seq (.region false [] [
 oO 0 (.assign (.c (.bool false)))])
(.ret)) (.skip)))
(.seq (.region false [] [
 oO 121 (.faddr 29 (.t 2) 0),
 oO 122 (.load 6 (.t 121)),
 oO 123 (.bslice false 6 2 [(0, (.c (.int .i64 1))), (1, (.c (.int .i64 0)))]),
 oO 124 (.call 0 (.f 20) [(.t 122), (.t 123)]),
 oM 125 124,
⟨(some 126), .faddr 29 (.t 2) 1, (some (125, true))⟩,
⟨(some 127), .load 6 (.t 126), (some (125, true))⟩,
⟨(some 128), .bslice false 6 4 [(0, (.c (.int .i64 0))), (1, (.c (.int .i64 10))), (2, (.c (.int .i64 3))), (3, (.c (.int .i64 0)))], (some (125, true))⟩,
⟨(some 129), .call 0 (.f 20) [(.t 127), (.t 128)], (some (125, true))⟩,
 oO 130 (.pick (.t 125) (.t 129) (.c (.bool false))),
 oM 131 130,
⟨(some 132), .faddr 29 (.t 7) 0, (some (131, true))⟩,
⟨(some 133), .load 6 (.t 132), (some (131, true))⟩,
⟨(some 134), .bslice false 6 2 [(0, (.c (.int .i64 0))), (1, (.c (.int .i64 0)))], (some (131, true))⟩,
⟨(some 135), .call 0 (.f 20) [(.t 133), (.t 134)], (some (131, true))⟩,
 oO 136 (.pick (.t 131) (.t 135) (.c (.bool false))),
 oM 137 136,
⟨(some 138), .move (.t 9), (some (137, true))⟩,
 oO 139 (.pick (.t 137) (.t 138) (.c (.bool false))),
 oM 140 139,
⟨(some 141), .move (.t 11), (some (140, true))⟩,
⟨(some 142), .un .not (.t 141), (some (140, true))⟩,
 oO 143 (.pick (.t 140) (.t 142) (.c (.bool false))),
 oM 144 143,
⟨(some 145), .move (.t 16), (some (144, true))⟩,
⟨(some 146), .un .not (.t 145), (some (144, true))⟩,
 oO 147 (.pick (.t 144) (.t 146) (.c (.bool false))),
 oM 148 147,
⟨(some 149), .faddr 29 (.t 18) 0, (some (148, true))⟩,
⟨(some 150), .load 6 (.t 149), (some (148, true))⟩,
⟨(some 151), .len 6 (.t 150), (some (148, true))⟩,
⟨(some 152), .bin .eql 2 (.t 151) (.c (.int .i64 0)), (some (148, true))⟩,
 oO 153 (.pick (.t 148) (.t 152) (.c (.bool false))),
 oM 154 153,
⟨(some 155), .faddr 29 (.t 18) 1, (some (154, true))⟩,
⟨(some 156), .load 6 (.t 155), (some (154, true))⟩,
⟨(some 157), .bslice false 6 4 [(0, (.c (.int .i64 0))), (1, (.c (.int .i64 0))), (2, (.c (.int .i64 0))), (3, (.c (.int .i64 0)))], (some (154, true))⟩,
⟨(some 158), .call 0 (.f 20) [(.t 156), (.t 157)], (some (154, true))⟩,
 oO 159 (.pick (.t 154) (.t 158) (.c (.bool false))),
 oM 160 159,
⟨(some 161), .load 0 (.t 1), (some (160, true))⟩,
⟨(some 162), .load 29 (.t 2), (some (160, true))⟩,
⟨(some 163), .call 0 (.f 216) [(.t 161), (.t 162)], (some (160, true))⟩,
⟨(some 164), .bin .eql 3 (.t 163) (.c (.int .i64 0)), (some (160, true))⟩,
 oO 165 (.pick (.t 160) (.t 164) (.c (.bool false))),
 oM 166 165,
⟨(some 167), .load 0 (.t 5), (some (166, true))⟩,
⟨(some 168), .load 29 (.t 7), (some (166, true))⟩,
⟨(some 169), .call 0 (.f 216) [(.t 167), (.t 168)], (some (166, true))⟩,
⟨(some 170), .bin .eql 3 (.t 169) (.c (.int .i64 0)), (some (166, true))⟩,
 oO 171 (.pick (.t 166) (.t 170) (.c (.bool false))),
 oM 172 171,
⟨(some 173), .load 0 (.t 13), (some (172, true))⟩,
⟨(some 174), .load 29 (.t 18), (some (172, true))⟩,
⟨(some 175), .call 0 (.f 216) [(.t 173), (.t 174)], (some (172, true))⟩,
⟨(some 176), .bin .eql 3 (.t 175) (.c (.int .i64 0)), (some (172, true))⟩,
 oO 177 (.pick (.t 172) (.t 176) (.c (.bool false))),
 oO 0 (.assign (.t 177))])
(.ret))))))))))))))))⟩

def f213 : DFn := ⟨34, [.tmp 2],
    .seq (.region false [] [
 oO 1 (.box 29 (.t 0)),
 oO 2 (.assign (.c (.bool false)))])
(.seq (.seq (.region false [] [
 oO 3 (.assign (.c (.int .i64 0)))])
(.block 0 (.loop (.seq (.seq (.region false [] [
 oM 4 3,
 oO 5 (.faddr 29 (.t 1) 2),
 oO 6 (.load 31 (.t 5)),
 oO 7 (.len 31 (.t 6)),
 oO 8 (.bin .lss 2 (.t 4) (.t 7))])
(.cond (.t 8) (.skip) (.exit 0)))
(.seq (.block 1 (.seq (.region false [] [
 oO 11 (.faddr 29 (.t 1) 2),
 oO 12 (.load 31 (.t 11)),
 oM 13 3,
 oO 14 (.iaddr 31 (.t 12) (.t 13)),
 oO 15 (.load 32 (.t 14)),
 oO 16 (.call 0 (.f 223) [(.t 15)]),
 oO 17 (.un .not (.t 16))])
(.cond (.t 17) (.seq (.region false [] [
 oO 2 (.assign (.c (.bool false)))])
(.ret)) (.skip))))
(.region false [] [
 oM 9 3,
 oO 10 (.bin .add 2 (.t 9) (.c (.int .i64 1))),
 oO 3 (.assign (.t 10))]))))))
(.seq (.region false [] [
 oO 18 (.faddr 29 (.t 1) 0),
 oO 19 (.load 6 (.t 18)),
 oO 20 (.len 6 (.t 19)),
 oO 21 (.bin .leq 2 (.t 20) (.c (.int .i64 20))),
 oM 22 21,
⟨(some 23), .faddr 29 (.t 1) 1, (some (22, true))⟩,
⟨(some 24), .load 6 (.t 23), (some (22, true))⟩,
⟨(some 25), .len 6 (.t 24), (some (22, true))⟩,
⟨(some 26), .bin .leq 2 (.t 25) (.c (.int .i64 20)), (some (22, true))⟩,
 oO 27 (.pick (.t 22) (.t 26) (.c (.bool false))),
 oM 28 27,
⟨(some 29), .faddr 29 (.t 1) 2, (some (28, true))⟩,
⟨(some 30), .load 31 (.t 29), (some (28, true))⟩,
⟨(some 31), .len 31 (.t 30), (some (28, true))⟩,
⟨(some 32), .bin .leq 2 (.t 31) (.c (.int .i64 400)), (some (28, true))⟩,
 oO 33 (.pick (.t 28) (.t 32) (.c (.bool false))),
 oO 2 (.assign (.t 33))])
(.ret)))⟩

def f214 : DFn := ⟨39, [.cell 6 0, .tmp 7],
    .seq (.region false [] [
 oO 3 (.box 0 (.t 0)),
 oO 5 (.box 15 (.t 2)),
 oO 6 (.alloc 0),
 oO 7 (.assign (.c (.int .i64 0)))])
(.seq (.seq (.region false [] [
 oO 11 (.load 0 (.t 3)),
 oO 12 (.call 0 (.f 15) [(.t 11)]),
 oO 8 (.assign (.t 12))])
(.seq (.region false [] [
 oM 13 8,
 oO 14 (.bin .neq 3 (.t 13) (.c (.int .i64 0)))])
(.cond (.t 14) (.seq (.region false [] [
 oO 15 (.load 0 (.t 6)),
 oM 16 8,
 oE (.store 0 (.t 6) (.t 15)),
 oO 7 (.assign (.t 16))])
(.ret)) (.skip))))
(.seq (.seq (.region false [] [
 oM 17 1,
 oO 18 (.bin .lss 2 (.t 17) (.c (.int .i64 0))),
 oM 19 18,
⟨(some 20), .move (.t 1), (some (19, false))⟩,
⟨(some 21), .faddr 0 (.t 3) 2, (some (19, false))⟩,
⟨(some 22), .load 14 (.t 21), (some (19, false))⟩,
⟨(some 23), .len 14 (.t 22), (some (19, false))⟩,
⟨(some 24), .bin .geq 2 (.t 20) (.t 23), (some (19, false))⟩,
 oO 25 (.pick (.t 19) (.c (.bool true)) (.t 24))])
(.cond (.t 25) (.seq (.region false [] [
 oO 26 (.load 0 (.t 6)),
 oE (.store 0 (.t 6) (.t 26)),
 oO 7 (.assign (.c (.int .i64 330)))])
(.ret)) (.skip)))
(.seq (.region false [] [
 oO 27 (.load 0 (.t 3)),
 oM 28 1,
 oO 29 (.load 15 (.t 5)),
 oO 30 (.bslice false 14 1 [(0, (.t 29))]),
 oO 31 (.call 0 (.f 224) [(.t 27), (.t 28), (.t 30)]),
 oO 9 (.alloc 0),
 oE (.store 0 (.t 9) (.t 31))])
(.seq (.seq (.region false [] [
 oO 32 (.load 0 (.t 9)),
 oO 33 (.call 0 (.f 15) [(.t 32)]),
 oO 10 (.assign (.t 33))])
(.seq (.region false [] [
 oM 34 10,
 oO 35 (.bin .neq 3 (.t 34) (.c (.int .i64 0)))])
(.cond (.t 35) (.seq (.region false [] [
 oO 36 (.load 0 (.t 6)),
 oM 37 10,
 oE (.store 0 (.t 6) (.t 36)),
 oO 7 (.assign (.t 37))])
(.ret)) (.skip))))
(.seq (.region false [] [
 oO 38 (.load 0 (.t 9)),
 oE (.store 0 (.t 6) (.t 38)),
 oO 7 (.assign (.c (.int .i64 0)))])
(.ret))))))⟩

def f215 : DFn := ⟨40, [.cell 4 29, .tmp 5],
    .seq (.region false [] [
 oO 2 (.box 0 (.t 0)),
 oO 3 (.box 29 (.t 1)),
 oO 4 (.alloc 29),
 oO 5 (.assign (.c (.int .i64 0)))])
(.seq (.region false [] [
 oO 9 (.load 0 (.t 2)),
 oO 10 (.load 29 (.t 3)),
 oO 11 (.call 0 (.f 222) [(.t 9), (.t 10)]),
 oM 8 11,
 oO 12 (.extract (.t 8) 0),
 oO 13 (.extract (.t 8) 1),
 oO 6 (.assign (.t 12)),
 oO 5 (.assign (.t 13))])
(.seq (.seq (.region false [] [
 oM 14 5,
 oO 15 (.bin .neq 3 (.t 14) (.c (.int .i64 0)))])
(.cond (.t 15) (.seq (.region false [] [
 oO 16 (.load 29 (.t 4)),
 oM 17 5,
 oE (.store 29 (.t 4) (.t 16)),
 oO 5 (.assign (.t 17))])
(.ret)) (.skip)))
(.seq (.seq (.region false [] [
 oM 18 6])
(.cond (.t 18) (.seq (.region false [] [
 oO 19 (.load 29 (.t 3)),
 oE (.store 29 (.t 4) (.t 19)),
 oO 5 (.assign (.c (.int .i64 0)))])
(.ret)) (.skip)))
(.seq (.region false [] [
 oO 20 (.load 0 (.t 2)),
 oO 21 (.build 41 [(0, (.t 20))]),
 oO 22 (.box 41 (.t 21)),
 oO 7 (.alloc 42),
 oE (.store 42 (.t 7) (.t 22))])
(.seq (.region false [] [
 oO 23 (.load 42 (.t 7)),
 oO 24 (.mkfn 225 [(.t 2), (.t 7)]),
 oO 25 (.nilc (.t 23)),
 oO 26 (.faddr 41 (.t 25) 3),
 oE (.store 43 (.t 26) (.t 24))])
(.seq (.region true [] [
 oO 27 (.load 42 (.t 7)),
 oO 28 (.nilc (.t 27)),
 oO 29 (.faddr 41 (.t 28) 3),
 oO 30 (.load 43 (.t 29)),
 oO 31 (.faddr 29 (.t 3) 0),
 oO 32 (.load 6 (.t 31)),
 oO 33 (.call 2 (.t 30) [(.t 32)])])
(.seq (.region false [] [
 oO 34 (.load 42 (.t 7)),
 oO 35 (.call 2 (.f 226) [(.t 34), (.c (.imm .exact []))])])
(.seq (.region false [] [
 oO 36 (.load 42 (.t 7)),
 oO 37 (.nilc (.t 36)),
 oO 38 (.faddr 41 (.t 37) 1),
 oO 39 (.load 29 (.t 38)),
 oE (.store 29 (.t 4) (.t 39)),
 oO 5 (.assign (.c (.int .i64 0)))])
(.ret)))))))))⟩

def f216 : DFn := ⟨64, [.cell 4 3],
    .seq (.region false [] [
 oO 2 (.box 0 (.t 0)),
 oO 3 (.box 29 (.t 1)),
 oO 4 (.alloc 3)])
(.seq (.region false [] [
 oO 12 (.mkfn 227 [(.t 4)])])
(.seq (.region false [] [
 oO 14 (.load 0 (.t 2)),
 oO 15 (.faddr 29 (.t 3) 0),
 oO 16 (.load 6 (.t 15)),
 oO 17 (.call 0 (.f 22) [(.t 14), (.t 16)]),
 oM 13 17,
 oO 18 (.extract (.t 13) 0),
 oO 19 (.extract (.t 13) 1),
 oO 5 (.assign (.t 18)),
 oE (.store 3 (.t 4) (.t 19))])
(.seq (.seq (.region false [] [
 oO 20 (.load 3 (.t 4)),
 oO 21 (.call 5 (.f 228) [(.t 20)])])
(.ifp (.t 21) (.seq (.region false [] [ oO 21 (.extract (.t 21) 1),
 oO 21 (.field 44 (.t 21) 0),
 oE (.store 3 (.t 4) (.t 21))]) .ret) (.region false [] [
      ])))
(.seq (.seq (.region false [] [
 oM 22 5,
 oO 23 (.faddr 29 (.t 3) 1),
 oO 24 (.load 6 (.t 23)),
 oO 25 (.call 0 (.f 162) [(.t 22), (.t 24)]),
 oO 26 (.call 5 (.f 229) [(.t 25), (.c (.int .i64 310))])])
(.ifp (.t 26) (.seq (.region false [] [ oO 26 (.extract (.t 26) 1),
 oO 26 (.field 44 (.t 26) 0),
 oE (.store 3 (.t 4) (.t 26))]) .ret) (.region false [] [
      ])))
(.seq (.region false [] [
 oO 6 (.assign (.c (.imm .exact [])))])
(.seq (.seq (.region false [] [
 oO 27 (.faddr 29 (.t 3) 2),
 oO 28 (.load 31 (.t 27)),
 oO 29 (.len 31 (.t 28)),
 oO 30 (.move (.c (.int .i64 0)))])
(.block 0 (.loop (.seq (.region false [] [
 oO 31 (.bin .lss 2 (.t 30) (.t 29))])
(.seq (.cond (.t 31) (.skip) (.exit 0))
(.seq (.block 1 (.seq (.region false [] [
 oO 32 (.iaddr 31 (.t 28) (.t 30)),
 oO 33 (.load 32 (.t 32)),
 oO 8 (.alloc 32),
 oE (.store 32 (.t 8) (.t 33))])
(.region false [] [
 oM 34 6,
 oO 35 (.faddr 32 (.t 8) 0),
 oO 36 (.load 1 (.t 35)),
 oO 37 (.bslice false 4 1 [(0, (.t 36))]),
 oO 38 (.append 0 4 4 (.t 34) (.t 37)),
 oO 6 (.assign (.t 38))])))
(.region false [] [
 oO 39 (.bin .add 2 (.t 30) (.c (.int .i64 1))),
 oM 30 39])))))))
(.seq (.region false [] [
 oO 41 (.load 0 (.t 2)),
 oM 42 6,
 oO 43 (.call 0 (.f 230) [(.t 41), (.t 42)]),
 oM 40 43,
 oO 44 (.extract (.t 40) 0),
 oO 45 (.extract (.t 40) 1),
 oO 9 (.assign (.t 44)),
 oE (.store 3 (.t 4) (.t 45))])
(.seq (.seq (.region false [] [
 oO 46 (.load 3 (.t 4)),
 oO 47 (.call 5 (.f 228) [(.t 46)])])
(.ifp (.t 47) (.seq (.region false [] [ oO 47 (.extract (.t 47) 1),
 oO 47 (.field 44 (.t 47) 0),
 oE (.store 3 (.t 4) (.t 47))]) .ret) (.region false [] [
      ])))
(.seq (.seq (.region false [] [
 oM 48 9,
 oO 49 (.call 5 (.f 229) [(.t 48), (.c (.int .i64 310))])])
(.ifp (.t 49) (.seq (.region false [] [ oO 49 (.extract (.t 49) 1),
 oO 49 (.field 44 (.t 49) 0),
 oE (.store 3 (.t 4) (.t 49))]) .ret) (.region false [] [
      ])))
(.seq (.seq (.region false [] [
 oO 50 (.faddr 29 (.t 3) 2),
 oO 51 (.load 31 (.t 50)),
 oO 52 (.len 31 (.t 51)),
 oO 53 (.move (.c (.int .i64 0)))])
(.block 2 (.loop (.seq (.region false [] [
 oO 54 (.bin .lss 2 (.t 53) (.t 52))])
(.seq (.cond (.t 54) (.skip) (.exit 2))
(.seq (.block 3 (.seq (.region false [] [
 oO 55 (.iaddr 31 (.t 51) (.t 53)),
 oO 56 (.load 32 (.t 55)),
 oO 11 (.alloc 32),
 oE (.store 32 (.t 11) (.t 56))])
(.seq (.region false [] [
 oO 57 (.load 0 (.t 2)),
 oO 58 (.faddr 29 (.t 3) 0),
 oO 59 (.load 6 (.t 58)),
 oO 60 (.load 32 (.t 11)),
 oO 61 (.call 0 (.f 231) [(.t 57), (.t 59), (.t 60)]),
 oO 62 (.call 5 (.f 228) [(.t 61)])])
(.ifp (.t 62) (.seq (.region false [] [ oO 62 (.extract (.t 62) 1),
 oO 62 (.field 44 (.t 62) 0),
 oE (.store 3 (.t 4) (.t 62))]) .ret) (.region false [] [
      ])))))
(.region false [] [
 oO 63 (.bin .add 2 (.t 53) (.c (.int .i64 1))),
 oM 53 63])))))))
(.seq (.region false [] [
 oE (.store 3 (.t 4) (.c (.int .i64 0)))])
(.ret))))))))))))⟩

def f217 : DFn := ⟨93, [.tmp 6],
    .seq (.region false [] [
 oO 3 (.box 0 (.t 0)),
 oO 5 (.box 15 (.t 2)),
 oO 6 (.assign (.c (.bool false)))])
(.seq (.seq (.region false [] [
 oO 11 (.call 0 (.f 212) []),
 oO 12 (.un .not (.t 11))])
(.cond (.t 12) (.seq (.region false [] [
 oO 6 (.assign (.c (.bool false)))])
(.ret)) (.skip)))
(.seq (.seq (.region false [] [
 oO 13 (.load 0 (.t 3)),
 oO 14 (.call 0 (.f 2) [(.t 13)]),
 oO 15 (.un .not (.t 14)),
 oM 16 15,
⟨(some 17), .load 15 (.t 5), (some (16, false))⟩,
⟨(some 18), .bslice false 14 1 [(0, (.t 17))], (some (16, false))⟩,
⟨(some 19), .build 0 [(2, (.t 18))], (some (16, false))⟩,
⟨(some 20), .call 0 (.f 2) [(.t 19)], (some (16, false))⟩,
⟨(some 21), .un .not (.t 20), (some (16, false))⟩,
 oO 22 (.pick (.t 16) (.c (.bool true)) (.t 21))])
(.cond (.t 22) (.seq (.region false [] [
 oO 6 (.assign (.c (.bool true)))])
(.ret)) (.skip)))
(.seq (.region false [] [
 oO 24 (.load 0 (.t 3)),
 oM 25 1,
 oO 26 (.load 15 (.t 5)),
 oO 27 (.call 0 (.f 214) [(.t 24), (.t 25), (.t 26)]),
 oM 23 27,
 oO 28 (.extract (.t 23) 0),
 oO 29 (.extract (.t 23) 1),
 oO 7 (.alloc 0),
 oE (.store 0 (.t 7) (.t 28)),
 oO 8 (.assign (.t 29))])
(.seq (.seq (.region false [] [
 oM 30 8,
 oO 31 (.bin .neq 3 (.t 30) (.c (.int .i64 0)))])
(.cond (.t 31) (.seq (.region false [] [
 oO 32 (.faddr 0 (.t 7) 2),
 oO 33 (.load 14 (.t 32)),
 oO 34 (.len 14 (.t 33)),
 oO 35 (.bin .eql 2 (.t 34) (.c (.int .i64 0))),
 oM 36 35,
⟨(some 37), .faddr 0 (.t 7) 0, (some (36, true))⟩,
⟨(some 38), .load 10 (.t 37), (some (36, true))⟩,
⟨(some 39), .len 10 (.t 38), (some (36, true))⟩,
⟨(some 40), .bin .eql 2 (.t 39) (.c (.int .i64 0)), (some (36, true))⟩,
 oO 41 (.pick (.t 36) (.t 40) (.c (.bool false))),
 oO 6 (.assign (.t 41))])
(.ret)) (.skip)))
(.seq (.seq (.region true [] [
 oM 42 1,
 oO 43 (.bin .lss 2 (.t 42) (.c (.int .i64 0))),
 oM 44 43,
⟨(some 45), .move (.t 1), (some (44, false))⟩,
⟨(some 46), .faddr 0 (.t 3) 2, (some (44, false))⟩,
⟨(some 47), .load 14 (.t 46), (some (44, false))⟩,
⟨(some 48), .len 14 (.t 47), (some (44, false))⟩,
⟨(some 49), .bin .geq 2 (.t 45) (.t 48), (some (44, false))⟩,
 oO 50 (.pick (.t 44) (.c (.bool true)) (.t 49)),
 oM 51 50,
⟨(some 52), .load 0 (.t 7), (some (51, false))⟩,
⟨(some 53), .call 0 (.f 15) [(.t 52)], (some (51, false))⟩,
⟨(some 54), .bin .neq 3 (.t 53) (.c (.int .i64 0)), (some (51, false))⟩,
 oO 55 (.pick (.t 51) (.c (.bool true)) (.t 54)),
 oM 56 55,
⟨(some 57), .faddr 0 (.t 7) 2, (some (56, false))⟩,
⟨(some 58), .load 14 (.t 57), (some (56, false))⟩,
⟨(some 59), .len 14 (.t 58), (some (56, false))⟩,
⟨(some 60), .faddr 0 (.t 3) 2, (some (56, false))⟩,
⟨(some 61), .load 14 (.t 60), (some (56, false))⟩,
⟨(some 62), .len 14 (.t 61), (some (56, false))⟩,
⟨(some 63), .bin .neq 2 (.t 59) (.t 62), (some (56, false))⟩,
 oO 64 (.pick (.t 56) (.c (.bool true)) (.t 63)),
 oM 65 64,
⟨(some 66), .faddr 0 (.t 7) 2, (some (65, false))⟩,
⟨(some 67), .load 14 (.t 66), (some (65, false))⟩,
⟨(some 68), .move (.t 1), (some (65, false))⟩,
⟨(some 69), .iaddr 14 (.t 67) (.t 68), (some (65, false))⟩,
⟨(some 70), .load 15 (.t 69), (some (65, false))⟩,
⟨(some 71), .load 15 (.t 5), (some (65, false))⟩,
⟨(some 72), .call 0 (.f 218) [(.t 70), (.t 71)], (some (65, false))⟩,
⟨(some 73), .un .not (.t 72), (some (65, false))⟩,
 oO 74 (.pick (.t 65) (.c (.bool true)) (.t 73))])
(.cond (.t 74) (.seq (.region false [] [
 oO 6 (.assign (.c (.bool false)))])
(.ret)) (.skip)))
(.seq (.region true [] [
 oO 76 (.load 0 (.t 7)),
 oM 77 1,
 oO 78 (.faddr 0 (.t 3) 2),
 oO 79 (.load 14 (.t 78)),
 oM 80 1,
 oO 81 (.iaddr 14 (.t 79) (.t 80)),
 oO 82 (.load 15 (.t 81)),
 oO 83 (.call 0 (.f 214) [(.t 76), (.t 77), (.t 82)]),
 oM 75 83,
 oO 84 (.extract (.t 75) 0),
 oO 85 (.extract (.t 75) 1),
 oO 9 (.alloc 0),
 oE (.store 0 (.t 9) (.t 84)),
 oO 10 (.assign (.t 85))])
(.seq (.region false [] [
 oM 86 10,
 oO 87 (.bin .eql 3 (.t 86) (.c (.int .i64 0))),
 oM 88 87,
⟨(some 89), .load 0 (.t 9), (some (88, true))⟩,
⟨(some 90), .load 0 (.t 3), (some (88, true))⟩,
⟨(some 91), .call 0 (.f 219) [(.t 89), (.t 90)], (some (88, true))⟩,
 oO 92 (.pick (.t 88) (.t 91) (.c (.bool false))),
 oO 6 (.assign (.t 92))])
(.ret))))))))⟩

def f218 : DFn := ⟨81, [.tmp 4],
    .seq (.region false [] [
 oO 2 (.box 15 (.t 0)),
 oO 3 (.box 15 (.t 1)),
 oO 4 (.assign (.c (.bool false)))])
(.seq (.seq (.region false [] [
 oO 8 (.faddr 15 (.t 2) 0),
 oO 9 (.load 2 (.t 8)),
 oO 10 (.faddr 15 (.t 3) 0),
 oO 11 (.load 2 (.t 10)),
 oO 12 (.bin .neq 2 (.t 9) (.t 11)),
 oM 13 12,
⟨(some 14), .faddr 15 (.t 2) 1, (some (13, false))⟩,
⟨(some 15), .load 2 (.t 14), (some (13, false))⟩,
⟨(some 16), .faddr 15 (.t 3) 1, (some (13, false))⟩,
⟨(some 17), .load 2 (.t 16), (some (13, false))⟩,
⟨(some 18), .bin .neq 2 (.t 15) (.t 17), (some (13, false))⟩,
 oO 19 (.pick (.t 13) (.c (.bool true)) (.t 18)),
 oM 20 19,
⟨(some 21), .faddr 15 (.t 2) 2, (some (20, false))⟩,
⟨(some 22), .load 6 (.t 21), (some (20, false))⟩,
⟨(some 23), .faddr 15 (.t 3) 2, (some (20, false))⟩,
⟨(some 24), .load 6 (.t 23), (some (20, false))⟩,
⟨(some 25), .call 0 (.f 20) [(.t 22), (.t 24)], (some (20, false))⟩,
⟨(some 26), .un .not (.t 25), (some (20, false))⟩,
 oO 27 (.pick (.t 20) (.c (.bool true)) (.t 26)),
 oM 28 27,
⟨(some 29), .faddr 15 (.t 2) 3, (some (28, false))⟩,
⟨(some 30), .load 16 (.t 29), (some (28, false))⟩,
⟨(some 31), .len 16 (.t 30), (some (28, false))⟩,
⟨(some 32), .faddr 15 (.t 3) 3, (some (28, false))⟩,
⟨(some 33), .load 16 (.t 32), (some (28, false))⟩,
⟨(some 34), .len 16 (.t 33), (some (28, false))⟩,
⟨(some 35), .bin .neq 2 (.t 31) (.t 34), (some (28, false))⟩,
 oO 36 (.pick (.t 28) (.c (.bool true)) (.t 35))])
(.cond (.t 36) (.seq (.region false [] [
 oO 4 (.assign (.c (.bool false)))])
(.ret)) (.skip)))
(.seq (.seq (.region false [] [
 oO 5 (.assign (.c (.int .i64 0)))])
(.block 0 (.loop (.seq (.seq (.region false [] [
 oM 37 5,
 oO 38 (.faddr 15 (.t 2) 3),
 oO 39 (.load 16 (.t 38)),
 oO 40 (.len 16 (.t 39)),
 oO 41 (.bin .lss 2 (.t 37) (.t 40))])
(.cond (.t 41) (.skip) (.exit 0)))
(.seq (.block 1 (.seq (.region false [] [
 oO 44 (.faddr 15 (.t 2) 3),
 oO 45 (.load 16 (.t 44)),
 oM 46 5,
 oO 47 (.iaddr 16 (.t 45) (.t 46)),
 oO 48 (.load 17 (.t 47)),
 oO 6 (.alloc 17),
 oE (.store 17 (.t 6) (.t 48))])
(.seq (.region false [] [
 oO 49 (.faddr 15 (.t 3) 3),
 oO 50 (.load 16 (.t 49)),
 oM 51 5,
 oO 52 (.iaddr 16 (.t 50) (.t 51)),
 oO 53 (.load 17 (.t 52)),
 oO 7 (.alloc 17),
 oE (.store 17 (.t 7) (.t 53))])
(.seq (.region false [] [
 oO 54 (.faddr 17 (.t 6) 0),
 oO 55 (.load 2 (.t 54)),
 oO 56 (.faddr 17 (.t 7) 0),
 oO 57 (.load 2 (.t 56)),
 oO 58 (.bin .neq 2 (.t 55) (.t 57)),
 oM 59 58,
⟨(some 60), .faddr 17 (.t 6) 1, (some (59, false))⟩,
⟨(some 61), .load 2 (.t 60), (some (59, false))⟩,
⟨(some 62), .faddr 17 (.t 7) 1, (some (59, false))⟩,
⟨(some 63), .load 2 (.t 62), (some (59, false))⟩,
⟨(some 64), .bin .neq 2 (.t 61) (.t 63), (some (59, false))⟩,
 oO 65 (.pick (.t 59) (.c (.bool true)) (.t 64)),
 oM 66 65,
⟨(some 67), .faddr 17 (.t 6) 2, (some (66, false))⟩,
⟨(some 68), .load 2 (.t 67), (some (66, false))⟩,
⟨(some 69), .faddr 17 (.t 7) 2, (some (66, false))⟩,
⟨(some 70), .load 2 (.t 69), (some (66, false))⟩,
⟨(some 71), .bin .neq 2 (.t 68) (.t 70), (some (66, false))⟩,
 oO 72 (.pick (.t 66) (.c (.bool true)) (.t 71)),
 oM 73 72,
⟨(some 74), .faddr 17 (.t 6) 3, (some (73, false))⟩,
⟨(some 75), .load 18 (.t 74), (some (73, false))⟩,
⟨(some 76), .faddr 17 (.t 7) 3, (some (73, false))⟩,
⟨(some 77), .load 18 (.t 76), (some (73, false))⟩,
⟨(some 78), .call 0 (.f 232) [(.t 75), (.t 77)], (some (73, false))⟩,
⟨(some 79), .un .not (.t 78), (some (73, false))⟩,
 oO 80 (.pick (.t 73) (.c (.bool true)) (.t 79))])
(.cond (.t 80) (.seq (.region false [] [
 oO 4 (.assign (.c (.bool false)))])
(.ret)) (.skip))))))
(.region false [] [
 oM 42 5,
 oO 43 (.bin .add 2 (.t 42) (.c (.int .i64 1))),
 oO 5 (.assign (.t 43))]))))))
(.seq (.region false [] [
 oO 4 (.assign (.c (.bool true)))])
(.ret))))⟩

def f219 : DFn := ⟨89, [.tmp 4],
    .seq (.region false [] [
 oO 2 (.box 0 (.t 0)),
 oO 3 (.box 0 (.t 1)),
 oO 4 (.assign (.c (.bool false)))])
(.seq (.seq (.region false [] [
 oO 8 (.faddr 0 (.t 2) 0),
 oO 9 (.load 10 (.t 8)),
 oO 10 (.len 10 (.t 9)),
 oO 11 (.faddr 0 (.t 3) 0),
 oO 12 (.load 10 (.t 11)),
 oO 13 (.len 10 (.t 12)),
 oO 14 (.bin .neq 2 (.t 10) (.t 13)),
 oM 15 14,
⟨(some 16), .faddr 0 (.t 2) 1, (some (15, false))⟩,
⟨(some 17), .load 9 (.t 16), (some (15, false))⟩,
⟨(some 18), .len 9 (.t 17), (some (15, false))⟩,
⟨(some 19), .faddr 0 (.t 3) 1, (some (15, false))⟩,
⟨(some 20), .load 9 (.t 19), (some (15, false))⟩,
⟨(some 21), .len 9 (.t 20), (some (15, false))⟩,
⟨(some 22), .bin .neq 2 (.t 18) (.t 21), (some (15, false))⟩,
 oO 23 (.pick (.t 15) (.c (.bool true)) (.t 22)),
 oM 24 23,
⟨(some 25), .faddr 0 (.t 2) 2, (some (24, false))⟩,
⟨(some 26), .load 14 (.t 25), (some (24, false))⟩,
⟨(some 27), .len 14 (.t 26), (some (24, false))⟩,
⟨(some 28), .faddr 0 (.t 3) 2, (some (24, false))⟩,
⟨(some 29), .load 14 (.t 28), (some (24, false))⟩,
⟨(some 30), .len 14 (.t 29), (some (24, false))⟩,
⟨(some 31), .bin .neq 2 (.t 27) (.t 30), (some (24, false))⟩,
 oO 32 (.pick (.t 24) (.c (.bool true)) (.t 31))])
(.cond (.t 32) (.seq (.region false [] [
 oO 4 (.assign (.c (.bool false)))])
(.ret)) (.skip)))
(.seq (.seq (.region false [] [
 oO 5 (.assign (.c (.int .i64 0)))])
(.block 0 (.loop (.seq (.seq (.region false [] [
 oM 33 5,
 oO 34 (.faddr 0 (.t 2) 0),
 oO 35 (.load 10 (.t 34)),
 oO 36 (.len 10 (.t 35)),
 oO 37 (.bin .lss 2 (.t 33) (.t 36))])
(.cond (.t 37) (.skip) (.exit 0)))
(.seq (.block 1 (.seq (.region true [] [
 oO 40 (.faddr 0 (.t 2) 0),
 oO 41 (.load 10 (.t 40)),
 oM 42 5,
 oO 43 (.iaddr 10 (.t 41) (.t 42)),
 oO 44 (.load 20 (.t 43)),
 oO 45 (.faddr 0 (.t 3) 0),
 oO 46 (.load 10 (.t 45)),
 oM 47 5,
 oO 48 (.iaddr 10 (.t 46) (.t 47)),
 oO 49 (.load 20 (.t 48)),
 oO 50 (.bin .neq 20 (.t 44) (.t 49))])
(.cond (.t 50) (.seq (.region false [] [
 oO 4 (.assign (.c (.bool false)))])
(.ret)) (.skip))))
(.region false [] [
 oM 38 5,
 oO 39 (.bin .add 2 (.t 38) (.c (.int .i64 1))),
 oO 5 (.assign (.t 39))]))))))
(.seq (.seq (.region false [] [
 oO 6 (.assign (.c (.int .i64 0)))])
(.block 2 (.loop (.seq (.seq (.region false [] [
 oM 51 6,
 oO 52 (.faddr 0 (.t 2) 1),
 oO 53 (.load 9 (.t 52)),
 oO 54 (.len 9 (.t 53)),
 oO 55 (.bin .lss 2 (.t 51) (.t 54))])
(.cond (.t 55) (.skip) (.exit 2)))
(.seq (.block 3 (.seq (.region true [] [
 oO 58 (.faddr 0 (.t 2) 1),
 oO 59 (.load 9 (.t 58)),
 oM 60 6,
 oO 61 (.iaddr 9 (.t 59) (.t 60)),
 oO 62 (.load 6 (.t 61)),
 oO 63 (.faddr 0 (.t 3) 1),
 oO 64 (.load 9 (.t 63)),
 oM 65 6,
 oO 66 (.iaddr 9 (.t 64) (.t 65)),
 oO 67 (.load 6 (.t 66)),
 oO 68 (.call 0 (.f 20) [(.t 62), (.t 67)]),
 oO 69 (.un .not (.t 68))])
(.cond (.t 69) (.seq (.region false [] [
 oO 4 (.assign (.c (.bool false)))])
(.ret)) (.skip))))
(.region false [] [
 oM 56 6,
 oO 57 (.bin .add 2 (.t 56) (.c (.int .i64 1))),
 oO 6 (.assign (.t 57))]))))))
(.seq (.seq (.region false [] [
 oO 7 (.assign (.c (.int .i64 0)))])
(.block 4 (.loop (.seq (.seq (.region false [] [
 oM 70 7,
 oO 71 (.faddr 0 (.t 2) 2),
 oO 72 (.load 14 (.t 71)),
 oO 73 (.len 14 (.t 72)),
 oO 74 (.bin .lss 2 (.t 70) (.t 73))])
(.cond (.t 74) (.skip) (.exit 4)))
(.seq (.block 5 (.seq (.region true [] [
 oO 77 (.faddr 0 (.t 2) 2),
 oO 78 (.load 14 (.t 77)),
 oM 79 7,
 oO 80 (.iaddr 14 (.t 78) (.t 79)),
 oO 81 (.load 15 (.t 80)),
 oO 82 (.faddr 0 (.t 3) 2),
 oO 83 (.load 14 (.t 82)),
 oM 84 7,
 oO 85 (.iaddr 14 (.t 83) (.t 84)),
 oO 86 (.load 15 (.t 85)),
 oO 87 (.call 0 (.f 218) [(.t 81), (.t 86)]),
 oO 88 (.un .not (.t 87))])
(.cond (.t 88) (.seq (.region false [] [
 oO 4 (.assign (.c (.bool false)))])
(.ret)) (.skip))))
(.region false [] [
 oM 75 7,
 oO 76 (.bin .add 2 (.t 75) (.c (.int .i64 1))),
 oO 7 (.assign (.t 76))]))))))
(.seq (.region false [] [
 oO 4 (.assign (.c (.bool true)))])
(.ret))))))⟩

def f220 : DFn := ⟨147, [.tmp 4],
    .seq (.region false [] [
 oO 2 (.box 0 (.t 0)),
 oO 4 (.assign (.c (.bool false)))])
(.seq (.seq (.region false [] [
 oO 18 (.call 0 (.f 212) []),
 oO 19 (.un .not (.t 18))])
(.cond (.t 19) (.seq (.region false [] [
 oO 4 (.assign (.c (.bool false)))])
(.ret)) (.skip)))
(.seq (.seq (.region false [] [
 oO 20 (.load 0 (.t 2)),
 oO 21 (.call 0 (.f 129) [(.t 20)]),
 oO 22 (.un .not (.t 21)),
 oM 23 22,
⟨(some 24), .faddr 0 (.t 2) 2, (some (23, false))⟩,
⟨(some 25), .load 14 (.t 24), (some (23, false))⟩,
⟨(some 26), .len 14 (.t 25), (some (23, false))⟩,
⟨(some 27), .bin .eql 2 (.t 26) (.c (.int .i64 0)), (some (23, false))⟩,
 oO 28 (.pick (.t 23) (.c (.bool true)) (.t 27))])
(.cond (.t 28) (.seq (.region false [] [
 oO 4 (.assign (.c (.bool true)))])
(.ret)) (.skip)))
(.seq (.region false [] [
 oO 30 (.load 0 (.t 2)),
 oO 31 (.build 29 []),
 oO 32 (.call 0 (.f 215) [(.t 30), (.t 31)]),
 oM 29 32,
 oO 33 (.extract (.t 29) 0),
 oO 34 (.extract (.t 29) 1),
 oO 5 (.alloc 29),
 oE (.store 29 (.t 5) (.t 33)),
 oO 6 (.assign (.t 34))])
(.seq (.seq (.region false [] [
 oM 35 6,
 oO 36 (.bin .neq 3 (.t 35) (.c (.int .i64 0)))])
(.cond (.t 36) (.seq (.region false [] [
 oO 37 (.faddr 29 (.t 5) 0),
 oO 38 (.load 6 (.t 37)),
 oO 39 (.len 6 (.t 38)),
 oO 40 (.bin .eql 2 (.t 39) (.c (.int .i64 0))),
 oO 4 (.assign (.t 40))])
(.ret)) (.skip)))
(.seq (.region false [] [
 oM 41 1,
 oO 42 (.conv 13 2 (.t 41)),
 oO 43 (.faddr 0 (.t 2) 2),
 oO 44 (.load 14 (.t 43)),
 oO 45 (.len 14 (.t 44)),
 oO 46 (.bin .rem 2 (.t 42) (.t 45)),
 oO 7 (.assign (.t 46))])
(.seq (.region false [] [
 oO 47 (.faddr 0 (.t 2) 2),
 oO 48 (.load 14 (.t 47)),
 oM 49 7,
 oO 50 (.iaddr 14 (.t 48) (.t 49)),
 oO 51 (.load 15 (.t 50)),
 oO 8 (.alloc 15),
 oE (.store 15 (.t 8) (.t 51))])
(.seq (.region false [] [
 oO 52 (.faddr 15 (.t 8) 3),
 oO 53 (.load 16 (.t 52)),
 oO 54 (.len 16 (.t 53)),
 oO 9 (.assign (.t 54))])
(.seq (.seq (.region false [] [
 oM 55 9,
 oO 56 (.bin .lss 2 (.t 55) (.c (.int .i64 2))),
 oM 57 56,
⟨(some 58), .faddr 29 (.t 5) 0, (some (57, false))⟩,
⟨(some 59), .load 6 (.t 58), (some (57, false))⟩,
⟨(some 60), .len 6 (.t 59), (some (57, false))⟩,
⟨(some 61), .faddr 0 (.t 2) 2, (some (57, false))⟩,
⟨(some 62), .load 14 (.t 61), (some (57, false))⟩,
⟨(some 63), .len 14 (.t 62), (some (57, false))⟩,
⟨(some 64), .bin .neq 2 (.t 60) (.t 63), (some (57, false))⟩,
 oO 65 (.pick (.t 57) (.c (.bool true)) (.t 64))])
(.cond (.t 65) (.seq (.region false [] [
 oM 66 9,
 oO 67 (.bin .lss 2 (.t 66) (.c (.int .i64 2))),
 oO 4 (.assign (.t 67))])
(.ret)) (.skip)))
(.seq (.region false [] [
 oO 68 (.faddr 15 (.t 8) 3),
 oO 69 (.load 16 (.t 68)),
 oM 70 9,
 oO 71 (.bin .sub 2 (.t 70) (.c (.int .i64 1))),
 oM 72 9,
 oO 73 (.bin .sub 2 (.t 72) (.c (.int .i64 1))),
 oO 74 (.slice 16 (.t 69) none (some (.t 71)) (some (.t 73))),
 oO 75 (.faddr 15 (.t 8) 3),
 oE (.store 16 (.t 75) (.t 74))])
(.seq (.region false [] [
 oO 77 (.load 0 (.t 2)),
 oM 78 7,
 oO 79 (.load 15 (.t 8)),
 oO 80 (.call 0 (.f 214) [(.t 77), (.t 78), (.t 79)]),
 oM 76 80,
 oO 81 (.extract (.t 76) 0),
 oO 82 (.extract (.t 76) 1),
 oO 10 (.alloc 0),
 oE (.store 0 (.t 10) (.t 81)),
 oO 11 (.assign (.t 82))])
(.seq (.region false [] [
 oO 84 (.load 0 (.t 10)),
 oO 85 (.load 29 (.t 5)),
 oO 86 (.call 0 (.f 215) [(.t 84), (.t 85)]),
 oM 83 86,
 oO 87 (.extract (.t 83) 0),
 oO 88 (.extract (.t 83) 1),
 oO 12 (.alloc 29),
 oE (.store 29 (.t 12) (.t 87)),
 oO 13 (.assign (.t 88))])
(.seq (.seq (.region false [] [
 oM 89 11,
 oO 90 (.bin .neq 3 (.t 89) (.c (.int .i64 0))),
 oM 91 90,
⟨(some 92), .move (.t 13), (some (91, false))⟩,
⟨(some 93), .bin .neq 3 (.t 92) (.c (.int .i64 0)), (some (91, false))⟩,
 oO 94 (.pick (.t 91) (.c (.bool true)) (.t 93))])
(.cond (.t 94) (.seq (.region false [] [
 oO 4 (.assign (.c (.bool false)))])
(.ret)) (.skip)))
(.seq (.seq (.region false [] [
 oO 95 (.faddr 29 (.t 5) 0),
 oO 96 (.load 6 (.t 95)),
 oM 97 7,
 oO 98 (.iaddr 6 (.t 96) (.t 97)),
 oO 99 (.load 2 (.t 98)),
 oM 100 9,
 oO 101 (.bin .sub 2 (.t 100) (.c (.int .i64 1))),
 oO 102 (.bin .lss 2 (.t 99) (.t 101))])
(.cond (.t 102) (.seq (.region false [] [
 oO 103 (.faddr 29 (.t 12) 0),
 oO 104 (.load 6 (.t 103)),
 oO 105 (.faddr 29 (.t 5) 0),
 oO 106 (.load 6 (.t 105)),
 oO 107 (.call 0 (.f 20) [(.t 104), (.t 106)]),
 oM 108 107,
⟨(some 109), .faddr 29 (.t 12) 1, (some (108, true))⟩,
⟨(some 110), .load 6 (.t 109), (some (108, true))⟩,
⟨(some 111), .faddr 29 (.t 5) 1, (some (108, true))⟩,
⟨(some 112), .load 6 (.t 111), (some (108, true))⟩,
⟨(some 113), .call 0 (.f 20) [(.t 110), (.t 112)], (some (108, true))⟩,
 oO 114 (.pick (.t 108) (.t 113) (.c (.bool false))),
 oO 4 (.assign (.t 114))])
(.ret)) (.skip)))
(.seq (.region false [] [
 oO 116 (.load 0 (.t 2)),
 oO 117 (.faddr 29 (.t 12) 0),
 oO 118 (.load 6 (.t 117)),
 oO 119 (.call 0 (.f 22) [(.t 116), (.t 118)]),
 oM 115 119,
 oO 120 (.extract (.t 115) 0),
 oO 121 (.extract (.t 115) 1),
 oO 14 (.assign (.t 120)),
 oO 15 (.assign (.t 121))])
(.seq (.region false [] [
 oO 123 (.load 0 (.t 2)),
 oO 124 (.faddr 29 (.t 12) 0),
 oO 125 (.load 6 (.t 124)),
 oO 126 (.faddr 29 (.t 5) 0),
 oO 127 (.load 6 (.t 126)),
 oO 128 (.call 0 (.f 24) [(.t 123), (.t 125), (.t 127)]),
 oM 122 128,
 oO 129 (.extract (.t 122) 0),
 oO 130 (.extract (.t 122) 1),
 oO 16 (.assign (.t 129)),
 oO 17 (.assign (.t 130))])
(.seq (.region false [] [
 oM 131 15,
 oO 132 (.bin .eql 3 (.t 131) (.c (.int .i64 0))),
 oM 133 132,
⟨(some 134), .move (.t 17), (some (133, true))⟩,
⟨(some 135), .bin .eql 3 (.t 134) (.c (.int .i64 0)), (some (133, true))⟩,
 oO 136 (.pick (.t 133) (.t 135) (.c (.bool false))),
 oM 137 136,
⟨(some 138), .move (.t 16), (some (137, true))⟩,
⟨(some 139), .un .not (.t 138), (some (137, true))⟩,
 oO 140 (.pick (.t 137) (.t 139) (.c (.bool false))),
 oM 141 140,
⟨(some 142), .move (.t 14), (some (141, true))⟩,
⟨(some 143), .faddr 29 (.t 12) 1, (some (141, true))⟩,
⟨(some 144), .load 6 (.t 143), (some (141, true))⟩,
⟨(some 145), .call 0 (.f 20) [(.t 142), (.t 144)], (some (141, true))⟩,
 oO 146 (.pick (.t 141) (.t 145) (.c (.bool false))),
 oO 4 (.assign (.t 146))])
(.ret)))))))))))))))))⟩

def f221 : DFn := ⟨28, [.cell 0 0],
    .seq (.region false [] [
 oO 0 (.alloc 0)])
(.seq (.region false [] [
 oO 5 (.build 20 [(2, (.c (.int .i64 9)))]),
 oO 1 (.alloc 20),
 oE (.store 20 (.t 1) (.t 5))])
(.seq (.region false [] [
 oO 6 (.load 20 (.t 1)),
 oO 7 (.build 19 [(0, (.t 6)), (1, (.c (.int .i64 1)))]),
 oO 8 (.bslice false 18 1 [(0, (.t 7))]),
 oO 9 (.build 17 [(3, (.t 8))]),
 oO 2 (.alloc 17),
 oE (.store 17 (.t 2) (.t 9))])
(.seq (.region false [] [
 oO 10 (.bslice false 6 1 [(0, (.c (.int .i64 0)))]),
 oO 11 (.load 17 (.t 2)),
 oO 12 (.build 17 [(0, (.c (.int .i64 10))), (1, (.c (.int .i64 3)))]),
 oO 13 (.bslice false 16 2 [(0, (.t 11)), (1, (.t 12))]),
 oO 14 (.build 15 [(2, (.t 10)), (3, (.t 13))]),
 oO 3 (.alloc 15),
 oE (.store 15 (.t 3) (.t 14))])
(.seq (.region false [] [
 oO 15 (.bslice false 6 1 [(0, (.c (.int .i64 0)))]),
 oO 16 (.load 17 (.t 2)),
 oO 17 (.build 17 [(0, (.c (.int .i64 10))), (1, (.c (.int .i64 5)))]),
 oO 18 (.bslice false 16 2 [(0, (.t 16)), (1, (.t 17))]),
 oO 19 (.build 15 [(2, (.t 15)), (3, (.t 18))]),
 oO 4 (.alloc 15),
 oE (.store 15 (.t 4) (.t 19))])
(.seq (.region false [] [
 oO 20 (.load 20 (.t 1)),
 oO 21 (.bslice false 10 1 [(0, (.t 20))]),
 oO 22 (.bslice false 6 1 [(0, (.c (.int .i64 1)))]),
 oO 23 (.bslice false 9 1 [(0, (.t 22))]),
 oO 24 (.load 15 (.t 3)),
 oO 25 (.load 15 (.t 4)),
 oO 26 (.bslice false 14 2 [(0, (.t 24)), (1, (.t 25))]),
 oO 27 (.build 0 [(0, (.t 21)), (1, (.t 23)), (2, (.t 26))]),
 oE (.store 0 (.t 0) (.t 27))])
(.ret))))))⟩

def f222 : DFn := ⟨16, [.tmp 4, .tmp 5],
    .seq (.region false [] [
 oO 2 (.box 0 (.t 0)),
 oO 3 (.box 29 (.t 1)),
 oO 4 (.assign (.c (.bool false))),
 oO 5 (.assign (.c (.int .i64 0)))])
(.seq (.seq (.region false [] [
 oO 7 (.load 0 (.t 2)),
 oO 8 (.call 0 (.f 15) [(.t 7)]),
 oO 6 (.assign (.t 8))])
(.seq (.region false [] [
 oM 9 6,
 oO 10 (.bin .neq 3 (.t 9) (.c (.int .i64 0)))])
(.cond (.t 10) (.seq (.region false [] [
 oM 11 6,
 oO 4 (.assign (.c (.bool false))),
 oO 5 (.assign (.t 11))])
(.ret)) (.skip))))
(.seq (.region false [] [
 oO 12 (.load 0 (.t 2)),
 oO 13 (.load 29 (.t 3)),
 oO 14 (.call 0 (.f 216) [(.t 12), (.t 13)]),
 oO 15 (.bin .eql 3 (.t 14) (.c (.int .i64 0))),
 oO 4 (.assign (.t 15)),
 oO 5 (.assign (.c (.int .i64 0)))])
(.ret)))⟩

def f223 : DFn := ⟨28, [.tmp 2],
    .seq (.region false [] [
 oO 1 (.box 32 (.t 0)),
 oO 2 (.assign (.c (.bool false)))])
(.seq (.seq (.region false [] [
 oO 3 (.assign (.c (.int .i64 0)))])
(.block 0 (.loop (.seq (.seq (.region false [] [
 oM 4 3,
 oO 5 (.faddr 32 (.t 1) 2),
 oO 6 (.load 9 (.t 5)),
 oO 7 (.len 9 (.t 6)),
 oO 8 (.bin .lss 2 (.t 4) (.t 7))])
(.cond (.t 8) (.skip) (.exit 0)))
(.seq (.block 1 (.seq (.region false [] [
 oO 11 (.faddr 32 (.t 1) 2),
 oO 12 (.load 9 (.t 11)),
 oM 13 3,
 oO 14 (.iaddr 9 (.t 12) (.t 13)),
 oO 15 (.load 6 (.t 14)),
 oO 16 (.len 6 (.t 15)),
 oO 17 (.bin .gtr 2 (.t 16) (.c (.int .i64 20)))])
(.cond (.t 17) (.seq (.region false [] [
 oO 2 (.assign (.c (.bool false)))])
(.ret)) (.skip))))
(.region false [] [
 oM 9 3,
 oO 10 (.bin .add 2 (.t 9) (.c (.int .i64 1))),
 oO 3 (.assign (.t 10))]))))))
(.seq (.region false [] [
 oO 18 (.faddr 32 (.t 1) 0),
 oO 19 (.load 1 (.t 18)),
 oO 20 (.len 1 (.t 19)),
 oO 21 (.bin .leq 2 (.t 20) (.c (.int .i64 20))),
 oM 22 21,
⟨(some 23), .faddr 32 (.t 1) 2, (some (22, true))⟩,
⟨(some 24), .load 9 (.t 23), (some (22, true))⟩,
⟨(some 25), .len 9 (.t 24), (some (22, true))⟩,
⟨(some 26), .bin .leq 2 (.t 25) (.c (.int .i64 8)), (some (22, true))⟩,
 oO 27 (.pick (.t 22) (.t 26) (.c (.bool false))),
 oO 2 (.assign (.t 27))])
(.ret)))⟩

def f224 : DFn := ⟨23, [.cell 6 0],
    .seq (.region false [] [
 oO 3 (.box 0 (.t 0)),
 oO 6 (.alloc 0)])
(.seq (.region true [] [
 oO 7 (.faddr 0 (.t 3) 2),
 oO 8 (.load 14 (.t 7)),
 oM 9 1,
 oO 10 (.slice 14 (.t 8) none (some (.t 9)) none),
 oM 11 2,
 oO 12 (.faddr 0 (.t 3) 2),
 oO 13 (.load 14 (.t 12)),
 oM 14 1,
 oM 15 2,
 oO 16 (.len 14 (.t 15)),
 oO 17 (.bin .add 2 (.t 14) (.t 16)),
 oO 18 (.slice 14 (.t 13) (some (.t 17)) none none),
 oO 19 (.bslice false 45 3 [(0, (.t 10)), (1, (.t 11)), (2, (.t 18))]),
 oO 20 (.call 0 (.f 233) [(.t 19)]),
 oO 21 (.faddr 0 (.t 3) 2),
 oE (.store 14 (.t 21) (.t 20))])
(.seq (.region false [] [
 oO 22 (.load 0 (.t 3)),
 oE (.store 0 (.t 6) (.t 22))])
(.ret)))⟩

def f225 : DFn := ⟨59, [],
    .seq (.region false [] [
 oO 8 (.load 0 (.t 1)),
 oM 9 0,
 oO 10 (.call 0 (.f 22) [(.t 8), (.t 9)]),
 oM 7 10,
 oO 11 (.extract (.t 7) 0),
 oO 12 (.extract (.t 7) 1),
 oO 4 (.assign (.t 11)),
 oO 5 (.assign (.t 12))])
(.seq (.seq (.region false [] [
 oM 13 5,
 oO 14 (.bin .neq 3 (.t 13) (.c (.int .i64 0)))])
(.cond (.t 14) (.ret) (.skip)))
(.seq (.region false [] [
 oM 15 4,
 oO 16 (.load 42 (.t 2)),
 oO 17 (.nilc (.t 16)),
 oO 18 (.faddr 41 (.t 17) 1),
 oO 19 (.faddr 29 (.t 18) 1),
 oO 20 (.load 6 (.t 19)),
 oO 21 (.call 0 (.f 87) [(.t 15), (.t 20)]),
 oO 6 (.assign (.t 21))])
(.seq (.region false [] [
 oO 22 (.load 42 (.t 2)),
 oO 23 (.nilc (.t 22)),
 oO 24 (.faddr 41 (.t 23) 2),
 oO 25 (.load 7 (.t 24)),
 oO 26 (.un .not (.t 25)),
 oM 27 26,
⟨(some 28), .move (.t 6), (some (27, false))⟩,
⟨(some 29), .bin .lss 2 (.t 28) (.c (.int .i64 0)), (some (27, false))⟩,
 oO 30 (.pick (.t 27) (.c (.bool true)) (.t 29)),
 oM 31 30,
⟨(some 32), .move (.t 6), (some (31, false))⟩,
⟨(some 33), .bin .eql 2 (.t 32) (.c (.int .i64 0)), (some (31, false))⟩,
⟨(some 34), .move (.t 33), (some (31, false))⟩,
⟨(some 35), .move (.t 0), (some (34, true))⟩,
⟨(some 36), .load 42 (.t 2), (some (34, true))⟩,
⟨(some 37), .nilc (.t 36), (some (34, true))⟩,
⟨(some 38), .faddr 41 (.t 37) 1, (some (34, true))⟩,
⟨(some 39), .faddr 29 (.t 38) 0, (some (34, true))⟩,
⟨(some 40), .load 6 (.t 39), (some (34, true))⟩,
⟨(some 41), .call 0 (.f 87) [(.t 35), (.t 40)], (some (34, true))⟩,
⟨(some 42), .bin .lss 2 (.t 41) (.c (.int .i64 0)), (some (34, true))⟩,
⟨(some 43), .pick (.t 34) (.t 42) (.c (.bool false)), (some (31, false))⟩,
 oO 44 (.pick (.t 31) (.c (.bool true)) (.t 43))])
(.cond (.t 44) (.region true [(1, 9), (2, 9), (2, 13)] [
 oO 45 (.load 42 (.t 2)),
 oO 46 (.load 42 (.t 2)),
 oO 47 (.load 42 (.t 2)),
 oM 48 0,
 oO 49 (.call 0 (.f 96) [(.t 48)]),
 oM 50 4,
 oO 51 (.nilc (.t 45)),
 oO 52 (.faddr 41 (.t 51) 1),
 oO 53 (.faddr 29 (.t 52) 0),
 oE (.store 6 (.t 53) (.t 49)),
 oO 54 (.nilc (.t 46)),
 oO 55 (.faddr 41 (.t 54) 1),
 oO 56 (.faddr 29 (.t 55) 1),
 oE (.store 6 (.t 56) (.t 50)),
 oO 57 (.nilc (.t 47)),
 oO 58 (.faddr 41 (.t 57) 2),
 oE (.store 7 (.t 58) (.c (.bool true)))]) (.skip)))))⟩

def f226 : DFn := ⟨57, [],
    .seq (.seq (.region false [] [
 oM 8 1,
 oO 9 (.len 1 (.t 8)),
 oM 10 0,
 oO 11 (.nilc (.t 10)),
 oO 12 (.faddr 41 (.t 11) 0),
 oO 13 (.faddr 0 (.t 12) 2),
 oO 14 (.load 14 (.t 13)),
 oO 15 (.len 14 (.t 14)),
 oO 16 (.bin .eql 2 (.t 9) (.t 15))])
(.cond (.t 16) (.seq (.region false [] [
 oM 17 0,
 oO 18 (.nilc (.t 17)),
 oO 19 (.faddr 41 (.t 18) 3),
 oO 20 (.load 43 (.t 19)),
 oM 21 1,
 oO 22 (.call 2 (.t 20) [(.t 21)])])
(.seq (.region false [] [
 oM 23 0,
 oM 24 1,
 oO 25 (.call 2 (.f 234) [(.t 23), (.t 24), (.c (.int .i64 1))])])
(.ret))) (.skip)))
(.seq (.seq (.region false [] [
 oM 26 0,
 oO 27 (.nilc (.t 26)),
 oO 28 (.faddr 41 (.t 27) 2),
 oO 29 (.load 7 (.t 28)),
 oM 30 29,
⟨(some 31), .move (.t 0), (some (30, true))⟩,
⟨(some 32), .move (.t 1), (some (30, true))⟩,
⟨(some 33), .call 2 (.f 235) [(.t 31), (.t 32)], (some (30, true))⟩,
 oO 34 (.pick (.t 30) (.t 33) (.c (.bool false)))])
(.cond (.t 34) (.seq (.region false [] [
 oM 35 0,
 oM 36 1,
 oO 37 (.call 2 (.f 234) [(.t 35), (.t 36), (.c (.int .i64 2))])])
(.ret)) (.skip)))
(.seq (.region false [] [
 oM 39 0,
 oO 40 (.nilc (.t 39)),
 oO 41 (.faddr 41 (.t 40) 0),
 oO 42 (.load 0 (.t 41)),
 oM 43 1,
 oO 44 (.call 0 (.f 7) [(.t 42), (.t 43)]),
 oM 38 44,
 oO 45 (.extract (.t 38) 0),
 oO 46 (.extract (.t 38) 1),
 oO 4 (.assign (.t 45)),
 oO 5 (.assign (.t 46))])
(.seq (.region false [] [
 oM 47 4,
 oO 48 (.len 4 (.t 47)),
 oO 49 (.move (.c (.int .i64 0)))])
(.block 0 (.loop (.seq (.region false [] [
 oO 50 (.bin .lss 2 (.t 49) (.t 48))])
(.seq (.cond (.t 50) (.skip) (.exit 0))
(.seq (.block 1 (.seq (.region false [] [
 oO 51 (.iaddr 4 (.t 47) (.t 49)),
 oO 52 (.load 1 (.t 51)),
 oO 7 (.assign (.t 52))])
(.region false [] [
 oM 53 0,
 oM 54 7,
 oO 55 (.call 2 (.f 226) [(.t 53), (.t 54)])])))
(.region false [] [
 oO 56 (.bin .add 2 (.t 49) (.c (.int .i64 1))),
 oM 49 56])))))))))⟩

def f228 : DFn := ⟨6, [],
    .seq (.region false [] [
 oM 2 0,
 oO 3 (.bin .eql 3 (.t 2) (.c (.int .i64 0))),
 oM 4 0,
 oO 5 (.call 5 (.f 229) [(.t 3), (.t 4)])])
(.ifp (.t 5) (.exit 1000005) (.region false [] [
      ]))⟩

def f229 : DFn := ⟨9, [],
    .seq (.region false [] [
 oM 4 0,
 oO 5 (.un .not (.t 4))])
(.cond (.t 5) (.seq (.region false [] [
 oM 6 1,
 oO 7 (.build 44 [(0, (.t 6))]),
 oO 8 (.mark true (.t 7))])
(.exit 1000008)) (.skip))⟩

def f230 : DFn := ⟨19, [.tmp 4, .tmp 5],
    .seq (.region false [] [
 oO 2 (.box 0 (.t 0)),
 oO 4 (.assign (.c (.bool false))),
 oO 5 (.assign (.c (.int .i64 0)))])
(.seq (.seq (.region false [] [
 oO 7 (.load 0 (.t 2)),
 oO 8 (.call 0 (.f 15) [(.t 7)]),
 oO 5 (.assign (.t 8))])
(.seq (.region false [] [
 oM 9 5,
 oO 10 (.bin .neq 3 (.t 9) (.c (.int .i64 0)))])
(.cond (.t 10) (.seq (.region false [] [
 oM 11 5,
 oO 4 (.assign (.c (.bool false))),
 oO 5 (.assign (.t 11))])
(.ret)) (.skip))))
(.seq (.seq (.region false [] [
 oM 12 1,
 oO 13 (.mkfn 237 [(.t 2)]),
 oO 14 (.call 3 (.f 159) [(.t 12), (.t 13)])])
(.cond (.t 14) (.seq (.region false [] [
 oO 4 (.assign (.c (.bool false))),
 oO 5 (.assign (.c (.int .i64 310)))])
(.ret)) (.skip)))
(.seq (.region false [] [
 oO 6 (.alloc 47)])
(.seq (.region false [] [
 oO 15 (.mkfn 238 [(.t 2), (.t 6)]),
 oE (.store 47 (.t 6) (.t 15))])
(.seq (.region false [] [
 oO 16 (.load 47 (.t 6)),
 oM 17 1,
 oO 18 (.call 2 (.t 16) [(.t 17), (.c (.int .i64 0))]),
 oO 4 (.assign (.t 18)),
 oO 5 (.assign (.c (.int .i64 0)))])
(.ret))))))⟩

def f231 : DFn := ⟨47, [.cell 6 3],
    .seq (.region false [] [
 oO 3 (.box 0 (.t 0)),
 oO 5 (.box 32 (.t 2)),
 oO 6 (.alloc 3)])
(.seq (.region false [] [
 oO 9 (.mkfn 239 [(.t 6)])])
(.seq (.region false [] [
 oO 11 (.load 0 (.t 3)),
 oM 12 1,
 oO 13 (.call 0 (.f 22) [(.t 11), (.t 12)]),
 oM 10 13,
 oO 14 (.extract (.t 10) 0),
 oO 15 (.extract (.t 10) 1),
 oO 7 (.assign (.t 14)),
 oE (.store 3 (.t 6) (.t 15))])
(.seq (.seq (.region false [] [
 oO 16 (.load 3 (.t 6)),
 oO 17 (.call 5 (.f 228) [(.t 16)])])
(.ifp (.t 17) (.seq (.region false [] [ oO 17 (.extract (.t 17) 1),
 oO 17 (.field 44 (.t 17) 0),
 oE (.store 3 (.t 6) (.t 17))]) .ret) (.region false [] [
      ])))
(.seq (.seq (.region false [] [
 oO 18 (.load 0 (.t 3)),
 oO 19 (.faddr 32 (.t 5) 0),
 oO 20 (.load 1 (.t 19)),
 oO 21 (.call 0 (.f 240) [(.t 18), (.t 20)]),
 oM 22 21,
⟨(some 23), .faddr 32 (.t 5) 1, (some (22, true))⟩,
⟨(some 24), .load 2 (.t 23), (some (22, true))⟩,
⟨(some 25), .bin .geq 2 (.t 24) (.c (.int .i64 1)), (some (22, true))⟩,
 oO 26 (.pick (.t 22) (.t 25) (.c (.bool false))),
 oM 27 26,
⟨(some 28), .faddr 32 (.t 5) 1, (some (27, true))⟩,
⟨(some 29), .load 2 (.t 28), (some (27, true))⟩,
⟨(some 30), .bin .leq 2 (.t 29) (.c (.int .i64 3)), (some (27, true))⟩,
 oO 31 (.pick (.t 27) (.t 30) (.c (.bool false))),
 oO 32 (.call 5 (.f 229) [(.t 31), (.c (.int .i64 310))])])
(.ifp (.t 32) (.seq (.region false [] [ oO 32 (.extract (.t 32) 1),
 oO 32 (.field 44 (.t 32) 0),
 oE (.store 3 (.t 6) (.t 32))]) .ret) (.region false [] [
      ])))
(.seq (.region false [] [
 oO 8 (.alloc 48)])
(.seq (.region false [] [
 oO 33 (.build 49 [(1, (.f 241)), (2, (.f 242)), (3, (.f 243))]),
 oO 34 (.faddr 48 (.t 8) 0),
 oE (.store 49 (.t 34) (.t 33))])
(.seq (.seq (.region true [] [
 oO 35 (.faddr 32 (.t 5) 1),
 oO 36 (.load 2 (.t 35)),
 oO 37 (.faddr 48 (.t 8) 0),
 oO 38 (.iaddr 49 (.t 37) (.t 36)),
 oO 39 (.load 50 (.t 38)),
 oO 40 (.load 0 (.t 3)),
 oM 41 1,
 oM 42 7,
 oO 43 (.build 51 [(0, (.t 40)), (1, (.t 41)), (2, (.t 42))]),
 oO 44 (.load 32 (.t 5))])
(.seq (.region false [] [
 oO 45 (.call 5 (.t 39) [(.t 43), (.t 44)])])
(.ifp (.t 45) (.seq (.region false [] [ oO 45 (.extract (.t 45) 1),
 oO 45 (.field 44 (.t 45) 0),
 oE (.store 3 (.t 6) (.t 45))]) .ret) (.seq (.region false [] [
 oO 46 (.call 5 (.f 229) [(.t 45), (.c (.int .i64 310))])])
(.ifp (.t 46) (.seq (.region false [] [ oO 46 (.extract (.t 46) 1),
 oO 46 (.field 44 (.t 46) 0),
 oE (.store 3 (.t 6) (.t 46))]) .ret) .skip)))))
(.seq (.region false [] [
 oE (.store 3 (.t 6) (.c (.int .i64 0)))])
(.ret)))))))))⟩

def f232 : DFn := ⟨26, [.tmp 4],
    .seq (.region false [] [
 oO 4 (.assign (.c (.bool false)))])
(.seq (.seq (.region false [] [
 oM 6 0,
 oO 7 (.len 18 (.t 6)),
 oM 8 1,
 oO 9 (.len 18 (.t 8)),
 oO 10 (.bin .neq 2 (.t 7) (.t 9))])
(.cond (.t 10) (.seq (.region false [] [
 oO 4 (.assign (.c (.bool false)))])
(.ret)) (.skip)))
(.seq (.seq (.region false [] [
 oO 5 (.assign (.c (.int .i64 0)))])
(.block 0 (.loop (.seq (.seq (.region false [] [
 oM 11 5,
 oM 12 0,
 oO 13 (.len 18 (.t 12)),
 oO 14 (.bin .lss 2 (.t 11) (.t 13))])
(.cond (.t 14) (.skip) (.exit 0)))
(.seq (.block 1 (.seq (.region true [] [
 oM 17 0,
 oM 18 5,
 oO 19 (.iaddr 18 (.t 17) (.t 18)),
 oO 20 (.load 19 (.t 19)),
 oM 21 1,
 oM 22 5,
 oO 23 (.iaddr 18 (.t 21) (.t 22)),
 oO 24 (.load 19 (.t 23)),
 oO 25 (.bin .neq 19 (.t 20) (.t 24))])
(.cond (.t 25) (.seq (.region false [] [
 oO 4 (.assign (.c (.bool false)))])
(.ret)) (.skip))))
(.region false [] [
 oM 15 5,
 oO 16 (.bin .add 2 (.t 15) (.c (.int .i64 1))),
 oO 5 (.assign (.t 16))]))))))
(.seq (.region false [] [
 oO 4 (.assign (.c (.bool true)))])
(.ret))))⟩

def f233 : DFn := ⟨36, [.tmp 2],
    .seq (.region false [] [
 oO 2 (.assign (.c (.imm .exact [])))])
(.seq (.region false [] [
 oO 3 (.assign (.c (.int .i64 0)))])
(.seq (.seq (.region false [] [
 oM 9 0,
 oO 10 (.len 45 (.t 9)),
 oO 11 (.move (.c (.int .i64 0)))])
(.block 0 (.loop (.seq (.region false [] [
 oO 12 (.bin .lss 2 (.t 11) (.t 10))])
(.seq (.cond (.t 12) (.skip) (.exit 0))
(.seq (.block 1 (.seq (.region false [] [
 oO 13 (.iaddr 45 (.t 9) (.t 11)),
 oO 14 (.load 14 (.t 13)),
 oO 5 (.assign (.t 14))])
(.seq (.region false [] [
 oM 15 3,
 oM 16 5,
 oO 17 (.len 14 (.t 16)),
 oO 18 (.bin .add 2 (.t 15) (.t 17)),
 oO 3 (.assign (.t 18))])
(.seq (.region false [] [
 oM 19 3,
 oO 20 (.bin .lss 2 (.t 19) (.c (.int .i64 0)))])
(.cond (.t 20) (.cond (.c .undef) .skip .skip) (.skip))))))
(.region false [] [
 oO 22 (.bin .add 2 (.t 11) (.c (.int .i64 1))),
 oM 11 22])))))))
(.seq (.region false [] [
 oM 23 3,
 oO 24 (.call 2 (.f 244) [(.c (.imm .exact [])), (.t 23)]),
 oO 6 (.assign (.t 24))])
(.seq (.seq (.region false [] [
 oM 25 0,
 oO 26 (.len 45 (.t 25)),
 oO 27 (.move (.c (.int .i64 0)))])
(.block 2 (.loop (.seq (.region false [] [
 oO 28 (.bin .lss 2 (.t 27) (.t 26))])
(.seq (.cond (.t 28) (.skip) (.exit 2))
(.seq (.block 3 (.seq (.region false [] [
 oO 29 (.iaddr 45 (.t 25) (.t 27)),
 oO 30 (.load 14 (.t 29)),
 oO 8 (.assign (.t 30))])
(.region false [] [
 oM 31 6,
 oM 32 8,
 oO 33 (.append 0 14 14 (.t 31) (.t 32)),
 oO 6 (.assign (.t 33))])))
(.region false [] [
 oO 34 (.bin .add 2 (.t 27) (.c (.int .i64 1))),
 oM 27 34])))))))
(.seq (.region false [] [
 oM 35 6,
 oO 2 (.assign (.t 35))])
(.ret))))))⟩

def f234 : DFn := ⟨20, [],
    .region false [] [
 oM 6 0,
 oM 7 0,
 oO 8 (.nilc (.t 7)),
 oO 9 (.faddr 41 (.t 8) 1),
 oO 10 (.faddr 29 (.t 9) 2),
 oO 11 (.load 31 (.t 10)),
 oM 12 1,
 oM 13 2,
 oO 14 (.build 32 [(0, (.t 12)), (1, (.t 13))]),
 oO 15 (.bslice false 31 1 [(0, (.t 14))]),
 oO 16 (.append 0 31 31 (.t 11) (.t 15)),
 oO 17 (.nilc (.t 6)),
 oO 18 (.faddr 41 (.t 17) 1),
 oO 19 (.faddr 29 (.t 18) 2),
 oE (.store 31 (.t 19) (.t 16))]⟩

def f235 : DFn := ⟨47, [.tmp 4],
    .seq (.region false [] [
 oO 4 (.assign (.c (.bool false)))])
(.seq (.region false [] [
 oM 11 0,
 oO 12 (.nilc (.t 11)),
 oO 13 (.faddr 41 (.t 12) 0),
 oO 14 (.load 0 (.t 13)),
 oM 15 1,
 oO 16 (.call 0 (.f 3) [(.t 14), (.t 15)]),
 oM 10 16,
 oO 17 (.extract (.t 10) 0),
 oO 18 (.extract (.t 10) 1),
 oO 5 (.assign (.t 17)),
 oO 6 (.assign (.t 18))])
(.seq (.seq (.region false [] [
 oM 19 5,
 oM 20 0,
 oO 21 (.nilc (.t 20)),
 oO 22 (.faddr 41 (.t 21) 1),
 oO 23 (.faddr 29 (.t 22) 1),
 oO 24 (.load 6 (.t 23)),
 oO 25 (.call 0 (.f 87) [(.t 19), (.t 24)]),
 oO 7 (.assign (.t 25))])
(.seq (.region false [] [
 oM 26 7,
 oO 27 (.bin .neq 2 (.t 26) (.c (.int .i64 0)))])
(.cond (.t 27) (.seq (.region false [] [
 oM 28 7,
 oO 29 (.bin .gtr 2 (.t 28) (.c (.int .i64 0))),
 oO 4 (.assign (.t 29))])
(.ret)) (.skip))))
(.seq (.region false [] [
 oM 31 0,
 oO 32 (.nilc (.t 31)),
 oO 33 (.faddr 41 (.t 32) 0),
 oO 34 (.load 0 (.t 33)),
 oM 35 1,
 oO 36 (.call 0 (.f 9) [(.t 34), (.t 35)]),
 oM 30 36,
 oO 37 (.extract (.t 30) 0),
 oO 38 (.extract (.t 30) 1),
 oO 8 (.assign (.t 37)),
 oO 9 (.assign (.t 38))])
(.seq (.region false [] [
 oM 39 8,
 oM 40 0,
 oO 41 (.nilc (.t 40)),
 oO 42 (.faddr 41 (.t 41) 1),
 oO 43 (.faddr 29 (.t 42) 0),
 oO 44 (.load 6 (.t 43)),
 oO 45 (.call 0 (.f 87) [(.t 39), (.t 44)]),
 oO 46 (.bin .geq 2 (.t 45) (.c (.int .i64 0))),
 oO 4 (.assign (.t 46))])
(.ret)))))⟩

def f237 : DFn := ⟨8, [.tmp 3],
    .seq (.region false [] [
 oO 3 (.assign (.c (.bool false)))])
(.seq (.region false [] [
 oO 4 (.load 0 (.t 1)),
 oM 5 0,
 oO 6 (.call 0 (.f 240) [(.t 4), (.t 5)]),
 oO 7 (.un .not (.t 6)),
 oO 3 (.assign (.t 7))])
(.ret))⟩

def f238 : DFn := ⟨65, [.tmp 6],
    .seq (.region false [] [
 oO 5 (.box 2 (.t 1)),
 oO 6 (.assign (.c (.bool false)))])
(.seq (.seq (.region false [] [
 oM 12 0,
 oO 13 (.mkfn 245 [(.t 5)]),
 oO 14 (.call 3 (.f 159) [(.t 12), (.t 13)])])
(.cond (.t 14) (.seq (.region false [] [
 oM 15 0,
 oO 16 (.len 4 (.t 15)),
 oO 17 (.bin .eql 2 (.t 16) (.c (.int .i64 1))),
 oO 6 (.assign (.t 17))])
(.ret)) (.skip)))
(.seq (.seq (.region false [] [
 oM 18 0,
 oO 19 (.len 4 (.t 18)),
 oO 20 (.bin .eql 2 (.t 19) (.c (.int .i64 0)))])
(.cond (.t 20) (.seq (.region false [] [
 oO 6 (.assign (.c (.bool false)))])
(.ret)) (.skip)))
(.seq (.region false [] [
 oO 21 (.faddr 0 (.t 2) 2),
 oO 22 (.load 14 (.t 21)),
 oO 23 (.load 2 (.t 5)),
 oO 24 (.iaddr 14 (.t 22) (.t 23)),
 oO 25 (.faddr 15 (.t 24) 3),
 oO 26 (.load 16 (.t 25)),
 oO 27 (.len 16 (.t 26)),
 oO 28 (.mkslice true 52 (.t 27) (.t 27)),
 oO 7 (.assign (.t 28))])
(.seq (.seq (.region false [] [
 oM 29 0,
 oO 30 (.len 4 (.t 29)),
 oO 31 (.move (.c (.int .i64 0)))])
(.block 0 (.loop (.seq (.region false [] [
 oO 32 (.bin .lss 2 (.t 31) (.t 30))])
(.seq (.cond (.t 32) (.skip) (.exit 0))
(.seq (.block 1 (.seq (.region false [] [
 oO 33 (.iaddr 4 (.t 29) (.t 31)),
 oO 34 (.load 1 (.t 33)),
 oO 9 (.assign (.t 34))])
(.region true [] [
 oM 35 7,
 oM 36 9,
 oO 37 (.load 2 (.t 5)),
 oO 38 (.iaddr 1 (.t 36) (.t 37)),
 oO 39 (.load 2 (.t 38)),
 oM 40 7,
 oM 41 9,
 oO 42 (.load 2 (.t 5)),
 oO 43 (.iaddr 1 (.t 41) (.t 42)),
 oO 44 (.load 2 (.t 43)),
 oO 45 (.iaddr 52 (.t 40) (.t 44)),
 oO 46 (.load 4 (.t 45)),
 oM 47 9,
 oO 48 (.bslice false 4 1 [(0, (.t 47))]),
 oO 49 (.append 0 4 4 (.t 46) (.t 48)),
 oO 50 (.iaddr 52 (.t 35) (.t 39)),
 oE (.store 4 (.t 50) (.t 49))])))
(.region false [] [
 oO 51 (.bin .add 2 (.t 31) (.c (.int .i64 1))),
 oM 31 51])))))))
(.seq (.seq (.region false [] [
 oM 52 7,
 oO 53 (.len 52 (.t 52)),
 oO 54 (.move (.c (.int .i64 0)))])
(.block 2 (.loop (.seq (.region false [] [
 oO 55 (.bin .lss 2 (.t 54) (.t 53))])
(.seq (.cond (.t 55) (.skip) (.exit 2))
(.seq (.block 3 (.seq (.region false [] [
 oO 56 (.iaddr 52 (.t 52) (.t 54)),
 oO 57 (.load 4 (.t 56)),
 oO 11 (.assign (.t 57))])
(.seq (.region false [] [
 oO 58 (.load 47 (.t 3)),
 oM 59 11,
 oO 60 (.load 2 (.t 5)),
 oO 61 (.bin .add 2 (.t 60) (.c (.int .i64 1))),
 oO 62 (.call 2 (.t 58) [(.t 59), (.t 61)]),
 oO 63 (.un .not (.t 62))])
(.cond (.t 63) (.seq (.region false [] [
 oO 6 (.assign (.c (.bool false)))])
(.ret)) (.skip)))))
(.region false [] [
 oO 64 (.bin .add 2 (.t 54) (.c (.int .i64 1))),
 oM 54 64])))))))
(.seq (.region false [] [
 oO 6 (.assign (.c (.bool true)))])
(.ret)))))))⟩

def f240 : DFn := ⟨15, [.tmp 4],
    .seq (.region false [] [
 oO 2 (.box 0 (.t 0)),
 oO 4 (.assign (.c (.bool false)))])
(.seq (.region false [] [
 oO 8 (.load 0 (.t 2)),
 oM 9 1,
 oO 10 (.call 0 (.f 14) [(.t 8), (.t 9), (.c (.int .i64 0))]),
 oM 7 10,
 oO 11 (.extract (.t 7) 0),
 oO 12 (.extract (.t 7) 1),
 oO 5 (.assign (.t 11)),
 oO 6 (.assign (.t 12))])
(.seq (.region false [] [
 oM 13 6,
 oO 14 (.bin .eql 3 (.t 13) (.c (.int .i64 0))),
 oO 4 (.assign (.t 14))])
(.ret)))⟩

def f241 : DFn := ⟨23, [.tmp 4],
    .seq (.region false [] [
 oO 2 (.box 51 (.t 0)),
 oO 3 (.box 32 (.t 1)),
 oO 4 (.assign (.c (.bool false)))])
(.seq (.region false [] [
 oO 8 (.faddr 51 (.t 2) 0),
 oO 9 (.load 0 (.t 8)),
 oO 10 (.faddr 32 (.t 3) 0),
 oO 11 (.load 1 (.t 10)),
 oO 12 (.faddr 51 (.t 2) 1),
 oO 13 (.load 6 (.t 12)),
 oO 14 (.call 0 (.f 24) [(.t 9), (.t 11), (.t 13)]),
 oM 7 14,
 oO 15 (.extract (.t 7) 0),
 oO 16 (.extract (.t 7) 1),
 oO 5 (.assign (.t 15)),
 oO 6 (.assign (.t 16))])
(.seq (.region false [] [
 oM 17 6,
 oO 18 (.bin .eql 3 (.t 17) (.c (.int .i64 0))),
 oM 19 18,
⟨(some 20), .move (.t 5), (some (19, true))⟩,
⟨(some 21), .un .not (.t 20), (some (19, true))⟩,
 oO 22 (.pick (.t 19) (.t 21) (.c (.bool false))),
 oO 4 (.assign (.t 22))])
(.ret)))⟩

def f242 : DFn := ⟨44, [.tmp 4],
    .seq (.region false [] [
 oO 2 (.box 51 (.t 0)),
 oO 3 (.box 32 (.t 1)),
 oO 4 (.assign (.c (.bool false)))])
(.seq (.region false [] [
 oO 10 (.faddr 51 (.t 2) 0),
 oO 11 (.load 0 (.t 10)),
 oO 12 (.faddr 32 (.t 3) 0),
 oO 13 (.load 1 (.t 12)),
 oO 14 (.call 0 (.f 3) [(.t 11), (.t 13)]),
 oM 9 14,
 oO 15 (.extract (.t 9) 0),
 oO 16 (.extract (.t 9) 1),
 oO 5 (.assign (.t 15)),
 oO 6 (.assign (.t 16))])
(.seq (.seq (.region false [] [
 oM 17 6,
 oO 18 (.bin .neq 3 (.t 17) (.c (.int .i64 0)))])
(.cond (.t 18) (.seq (.region false [] [
 oO 4 (.assign (.c (.bool false)))])
(.ret)) (.skip)))
(.seq (.seq (.region false [] [
 oM 19 5,
 oO 20 (.faddr 51 (.t 2) 2),
 oO 21 (.load 6 (.t 20)),
 oO 22 (.call 5 (.f 246) [(.t 19), (.t 21)])])
(.ifp (.t 22) (.exit 1000022) (.region false [] [
 oO 7 (.assign (.t 22))])))
(.seq (.seq (.region false [] [
 oM 23 7,
 oO 24 (.bin .neq 2 (.t 23) (.c (.int .i64 0)))])
(.cond (.t 24) (.seq (.region false [] [
 oM 25 7,
 oO 26 (.bin .gtr 2 (.t 25) (.c (.int .i64 0))),
 oO 4 (.assign (.t 26))])
(.ret)) (.skip)))
(.seq (.region false [] [
 oO 28 (.faddr 51 (.t 2) 0),
 oO 29 (.load 0 (.t 28)),
 oO 30 (.faddr 32 (.t 3) 0),
 oO 31 (.load 1 (.t 30)),
 oO 32 (.call 0 (.f 9) [(.t 29), (.t 31)]),
 oM 27 32,
 oO 33 (.extract (.t 27) 0),
 oO 34 (.extract (.t 27) 1),
 oO 8 (.assign (.t 33)),
 oO 6 (.assign (.t 34))])
(.seq (.seq (.region false [] [
 oM 35 6,
 oO 36 (.bin .eql 3 (.t 35) (.c (.int .i64 0))),
 oM 37 36,
⟨(some 38), .move (.t 8), (some (37, true))⟩,
⟨(some 39), .faddr 51 (.t 2) 1, (some (37, true))⟩,
⟨(some 40), .load 6 (.t 39), (some (37, true))⟩,
⟨(some 41), .call 5 (.f 246) [(.t 38), (.t 40)], (some (37, true))⟩])
(.ifp (.t 41) (.exit 1000041) (.region false [] [
⟨(some 42), .bin .geq 2 (.t 41) (.c (.int .i64 0)), (some (37, true))⟩,
 oO 43 (.pick (.t 37) (.t 42) (.c (.bool false))),
 oO 4 (.assign (.t 43))])))
(.ret)))))))⟩

def f243 : DFn := ⟨87, [.tmp 4],
    .seq (.region false [] [
 oO 2 (.box 51 (.t 0)),
 oO 3 (.box 32 (.t 1)),
 oO 4 (.assign (.c (.bool false)))])
(.seq (.region false [] [
 oO 12 (.faddr 51 (.t 2) 0),
 oO 13 (.load 0 (.t 12)),
 oO 14 (.faddr 32 (.t 3) 0),
 oO 15 (.load 1 (.t 14)),
 oO 16 (.call 0 (.f 3) [(.t 13), (.t 15)]),
 oM 11 16,
 oO 17 (.extract (.t 11) 0),
 oO 18 (.extract (.t 11) 1),
 oO 5 (.assign (.t 17)),
 oO 6 (.assign (.t 18))])
(.seq (.seq (.region true [] [
 oM 19 6,
 oO 20 (.bin .neq 3 (.t 19) (.c (.int .i64 0))),
 oM 21 20,
⟨(some 22), .faddr 51 (.t 2) 2, (some (21, false))⟩,
⟨(some 23), .load 6 (.t 22), (some (21, false))⟩,
⟨(some 24), .iaddr 6 (.t 23) (.c (.int .i64 0)), (some (21, false))⟩,
⟨(some 25), .load 2 (.t 24), (some (21, false))⟩,
⟨(some 26), .bin .neq 2 (.t 25) (.c (.int .i64 0)), (some (21, false))⟩,
 oO 27 (.pick (.t 21) (.c (.bool true)) (.t 26)),
 oM 28 27,
⟨(some 29), .move (.t 5), (some (28, false))⟩,
⟨(some 30), .iaddr 6 (.t 29) (.c (.int .i64 1)), (some (28, false))⟩,
⟨(some 31), .load 2 (.t 30), (some (28, false))⟩,
⟨(some 32), .faddr 51 (.t 2) 2, (some (28, false))⟩,
⟨(some 33), .load 6 (.t 32), (some (28, false))⟩,
⟨(some 34), .iaddr 6 (.t 33) (.c (.int .i64 1)), (some (28, false))⟩,
⟨(some 35), .load 2 (.t 34), (some (28, false))⟩,
⟨(some 36), .bin .lss 2 (.t 31) (.t 35), (some (28, false))⟩,
 oO 37 (.pick (.t 28) (.c (.bool true)) (.t 36))])
(.cond (.t 37) (.seq (.region false [] [
 oO 4 (.assign (.c (.bool false)))])
(.ret)) (.skip)))
(.seq (.region true [] [
 oO 39 (.faddr 51 (.t 2) 0),
 oO 40 (.load 0 (.t 39)),
 oO 41 (.faddr 32 (.t 3) 0),
 oO 42 (.load 1 (.t 41)),
 oO 43 (.faddr 51 (.t 2) 2),
 oO 44 (.load 6 (.t 43)),
 oO 45 (.iaddr 6 (.t 44) (.c (.int .i64 1))),
 oO 46 (.load 2 (.t 45)),
 oO 47 (.faddr 32 (.t 3) 2),
 oO 48 (.load 9 (.t 47)),
 oO 49 (.call 0 (.f 39) [(.t 40), (.t 42), (.t 46), (.t 48)]),
 oM 38 49,
 oO 50 (.extract (.t 38) 0),
 oO 51 (.extract (.t 38) 1),
 oO 7 (.assign (.t 50)),
 oO 6 (.assign (.t 51))])
(.seq (.region true [] [
 oO 53 (.faddr 51 (.t 2) 0),
 oO 54 (.load 0 (.t 53)),
 oO 55 (.faddr 32 (.t 3) 0),
 oO 56 (.load 1 (.t 55)),
 oO 57 (.faddr 51 (.t 2) 2),
 oO 58 (.load 6 (.t 57)),
 oO 59 (.iaddr 6 (.t 58) (.c (.int .i64 1))),
 oO 60 (.load 2 (.t 59)),
 oO 61 (.faddr 32 (.t 3) 2),
 oO 62 (.load 9 (.t 61)),
 oO 63 (.call 0 (.f 37) [(.t 54), (.t 56), (.t 60), (.t 62)]),
 oM 52 63,
 oO 64 (.extract (.t 52) 0),
 oO 65 (.extract (.t 52) 1),
 oO 66 (.extract (.t 52) 2),
 oO 8 (.assign (.t 64)),
 oO 9 (.assign (.t 65)),
 oO 10 (.assign (.t 66))])
(.seq (.region false [] [
 oM 67 6,
 oO 68 (.bin .eql 3 (.t 67) (.c (.int .i64 0))),
 oM 69 68,
⟨(some 70), .move (.t 10), (some (69, true))⟩,
⟨(some 71), .bin .eql 3 (.t 70) (.c (.int .i64 0)), (some (69, true))⟩,
 oO 72 (.pick (.t 69) (.t 71) (.c (.bool false))),
 oM 73 72,
⟨(some 74), .move (.t 7), (some (73, true))⟩,
⟨(some 75), .move (.t 74), (some (73, true))⟩,
⟨(some 76), .move (.t 9), (some (75, false))⟩,
⟨(some 77), .move (.t 76), (some (75, false))⟩,
⟨(some 78), .move (.t 8), (some (77, true))⟩,
⟨(some 79), .faddr 51 (.t 2) 2, (some (77, true))⟩,
⟨(some 80), .load 6 (.t 79), (some (77, true))⟩,
⟨(some 81), .iaddr 6 (.t 80) (.c (.int .i64 2)), (some (77, true))⟩,
⟨(some 82), .load 2 (.t 81), (some (77, true))⟩,
⟨(some 83), .bin .gtr 2 (.t 78) (.t 82), (some (77, true))⟩,
⟨(some 84), .pick (.t 77) (.t 83) (.c (.bool false)), (some (75, false))⟩,
⟨(some 85), .pick (.t 75) (.c (.bool true)) (.t 84), (some (73, true))⟩,
 oO 86 (.pick (.t 73) (.t 85) (.c (.bool false))),
 oO 4 (.assign (.t 86))])
(.ret))))))⟩

def f244 : DFn := ⟨2, [.tmp 0],
    .seq (.region false [] [⟨some 2, .mark false (.c (.int .i64 0)), none⟩])
(.ifp (.t 2) (.cond (.c .undef) .skip .skip)
(.seq (.region false [] [⟨some 0, .append 1 14 14 (.t 0) (.c (.imm .exact [])), none⟩, ⟨some 0, .len 14 (.t 0), none⟩, ⟨some 0, .bin .eql 2 (.t 0) (.c (.int .i64 0)), none⟩,  oE (.bin .lss 2 (.t 1) (.c (.int .i64 0))),  oE (.mkslice false 14 (.t 1) (.t 1))])
(.cond (.t 0) (.seq (.region false [] [⟨some 0, .append 0 14 14 (.c (.imm .exact [])) (.c (.imm .exact [])), none⟩]) .ret) (.cond (.c .undef) .skip .skip))))⟩

def f245 : DFn := ⟨8, [.tmp 3],
    .seq (.region false [] [
 oO 3 (.assign (.c (.bool false)))])
(.seq (.region false [] [
 oM 4 0,
 oO 5 (.len 1 (.t 4)),
 oO 6 (.load 2 (.t 1)),
 oO 7 (.bin .eql 2 (.t 5) (.t 6)),
 oO 3 (.assign (.t 7))])
(.ret))⟩

def f246 : DFn := ⟨17, [.tmp 4],
    .seq (.region false [] [
 oO 4 (.assign (.c (.int .i64 0)))])
(.seq (.region false [] [
 oM 8 0,
 oM 9 1,
 oO 10 (.call 0 (.f 30) [(.t 8), (.t 9)]),
 oM 7 10,
 oO 11 (.extract (.t 7) 0),
 oO 12 (.extract (.t 7) 1),
 oO 5 (.assign (.t 11)),
 oO 6 (.assign (.t 12))])
(.seq (.seq (.region false [] [
 oM 13 6,
 oO 14 (.bin .eql 3 (.t 13) (.c (.int .i64 0))),
 oO 15 (.call 5 (.f 229) [(.t 14), (.c (.int .i64 310))])])
(.ifp (.t 15) (.exit 1000015) (.region false [] [
      ])))
(.seq (.region false [] [
 oM 16 5,
 oO 4 (.assign (.t 16))])
(.ret))))⟩

def tyTab : Nat → TI
  | 0 => ⟨.struct [(0, 10), (1, 9), (2, 14)], 3, 72, [(.imm .exact []), (.imm .exact []), (.imm .exact [])], false⟩
  | 1 => ⟨.slice 2, 1, 24, [(.imm .exact [])], false⟩
  | 2 => ⟨.int .i64, 1, 8, [(.int .i64 0)], false⟩
  | 3 => ⟨.int .i64, 1, 8, [(.int .i64 0)], false⟩
  | 4 => ⟨.slice 1, 1, 24, [(.imm .exact [])], false⟩
  | 6 => ⟨.slice 2, 1, 24, [(.imm .exact [])], false⟩
  | 7 => ⟨.bool, 1, 1, [(.bool false)], false⟩
  | 9 => ⟨.slice 6, 1, 24, [(.imm .exact [])], false⟩
  | 10 => ⟨.slice 20, 1, 24, [(.imm .exact [])], false⟩
  | 11 => ⟨.struct [(0, 2), (1, 2)], 2, 16, [(.int .i64 0), (.int .i64 0)], true⟩
  | 12 => ⟨.int .u64, 1, 8, [(.int .u64 0)], false⟩
  | 13 => ⟨.int .u8, 1, 1, [(.int .u8 0)], false⟩
  | 14 => ⟨.slice 15, 1, 24, [(.imm .exact [])], false⟩
  | 15 => ⟨.struct [(0, 2), (1, 2), (2, 6), (3, 16)], 4, 64, [(.int .i64 0), (.int .i64 0), (.imm .exact []), (.imm .exact [])], false⟩
  | 16 => ⟨.slice 17, 1, 24, [(.imm .exact [])], false⟩
  | 17 => ⟨.struct [(0, 2), (1, 2), (2, 2), (3, 18)], 4, 48, [(.int .i64 0), (.int .i64 0), (.int .i64 0), (.imm .exact [])], false⟩
  | 18 => ⟨.slice 19, 1, 24, [(.imm .exact [])], false⟩
  | 19 => ⟨.struct [(0, 20), (3, 2)], 4, 32, [(.bool false), (.int .i64 0), (.int .i64 0), (.int .i64 0)], true⟩
  | 20 => ⟨.struct [(0, 7), (1, 2), (2, 2)], 3, 24, [(.bool false), (.int .i64 0), (.int .i64 0)], true⟩
  | 21 => ⟨.map 20 7, 1, 8, [(.map none)], false⟩
  | 22 => ⟨.arr 4 2, 4, 32, [(.int .i64 0), (.int .i64 0), (.int .i64 0), (.int .i64 0)], true⟩
  | 23 => ⟨.arr 2 6, 2, 48, [(.imm .exact []), (.imm .exact [])], false⟩
  | 24 => ⟨.slice 23, 1, 24, [(.imm .exact [])], false⟩
  | 25 => ⟨.struct [(0, 0), (3, 1), (4, 2), (5, 9)], 6, 128, [(.imm .exact []), (.imm .exact []), (.imm .exact []), (.imm .exact []), (.int .i64 0), (.imm .exact [])], false⟩
  | 26 => ⟨.map 20 2, 1, 8, [(.map none)], false⟩
  | 27 => ⟨.func, 1, 8, [.nilfn], false⟩
  | 29 => ⟨.struct [(0, 6), (1, 6), (2, 31)], 3, 72, [(.imm .exact []), (.imm .exact []), (.imm .exact [])], false⟩
  | 31 => ⟨.slice 32, 1, 24, [(.imm .exact [])], false⟩
  | 32 => ⟨.struct [(0, 1), (1, 2), (2, 9)], 3, 56, [(.imm .exact []), (.int .i64 0), (.imm .exact [])], false⟩
  | 41 => ⟨.struct [(0, 0), (3, 29), (6, 7), (7, 43)], 8, 160, [(.imm .exact []), (.imm .exact []), (.imm .exact []), (.imm .exact []), (.imm .exact []), (.imm .exact []), (.bool false), .nilfn], false⟩
  | 42 => ⟨.ptr 41, 1, 8, [.nilp], false⟩
  | 43 => ⟨.func, 1, 8, [.nilfn], false⟩
  | 44 => ⟨.struct [(0, 3)], 1, 8, [(.int .i64 0)], true⟩
  | 45 => ⟨.slice 14, 1, 24, [(.imm .exact [])], false⟩
  | 47 => ⟨.func, 1, 8, [.nilfn], false⟩
  | 48 => ⟨.struct [(0, 49)], 4, 32, [.nilfn, .nilfn, .nilfn, .nilfn], false⟩
  | 49 => ⟨.arr 4 50, 4, 32, [.nilfn, .nilfn, .nilfn, .nilfn], false⟩
  | 50 => ⟨.func, 1, 8, [.nilfn], false⟩
  | 51 => ⟨.struct [(0, 0), (3, 6), (4, 6)], 5, 120, [(.imm .exact []), (.imm .exact []), (.imm .exact []), (.imm .exact []), (.imm .exact [])], false⟩
  | 52 => ⟨.slice 4, 1, 24, [(.imm .exact [])], false⟩
  | _ => ⟨.other, 0, 0, [], false⟩

def fnTab : Nat → Option DFn
  | 2 => some f2
  | 3 => some f3
  | 7 => some f7
  | 9 => some f9
  | 14 => some f14
  | 15 => some f15
  | 20 => some f20
  | 22 => some f22
  | 24 => some f24
  | 30 => some f30
  | 37 => some f37
  | 39 => some f39
  | 41 => some f41
  | 61 => some f61
  | 62 => some f62
  | 63 => some f63
  | 66 => some f66
  | 67 => some f67
  | 68 => some f68
  | 69 => some f69
  | 70 => some f70
  | 71 => some f71
  | 72 => some f72
  | 73 => some f73
  | 74 => some f74
  | 75 => some f75
  | 76 => some f76
  | 83 => some f83
  | 84 => some f84
  | 87 => some f87
  | 89 => some f89
  | 90 => some f90
  | 93 => some f93
  | 94 => some f94
  | 96 => some f96
  | 97 => some f97
  | 98 => some f98
  | 102 => some f102
  | 104 => some f104
  | 105 => some f105
  | 106 => some f106
  | 107 => some f107
  | 110 => some f110
  | 112 => some f112
  | 113 => some f113
  | 114 => some f114
  | 115 => some f115
  | 116 => some f116
  | 117 => some f117
  | 118 => some f118
  | 122 => some f122
  | 123 => some f123
  | 124 => some f124
  | 125 => some f125
  | 129 => some f129
  | 159 => some f159
  | 162 => some f162
  | 173 => some f173
  | 211 => some f211
  | 212 => some f212
  | 213 => some f213
  | 214 => some f214
  | 215 => some f215
  | 216 => some f216
  | 217 => some f217
  | 218 => some f218
  | 219 => some f219
  | 220 => some f220
  | 221 => some f221
  | 222 => some f222
  | 223 => some f223
  | 224 => some f224
  | 225 => some f225
  | 226 => some f226
  | 228 => some f228
  | 229 => some f229
  | 230 => some f230
  | 231 => some f231
  | 232 => some f232
  | 233 => some f233
  | 234 => some f234
  | 235 => some f235
  | 237 => some f237
  | 238 => some f238
  | 240 => some f240
  | 241 => some f241
  | 242 => some f242
  | 243 => some f243
  | 244 => some f244
  | 245 => some f245
  | 246 => some f246
  | _ => none

def keepTab : Nat → Bool
  | _ => false

def mpTab : Nat → Bool
  | 228 => true
  | 229 => true
  | 241 => true
  | 242 => true
  | 243 => true
  | 246 => true
  | _ => false

def E : Env := ⟨tyTab, fnTab, keepTab, mpTab⟩

end Dv
