/- Texts that a proof of this claim uses, joined: Dv.Code. -/
import Derived.Test.YtpekfakljjogjaaDva
set_option linter.all false
/- The code of the functions in the short form, as printed by program from the translation; YtLink.lean ties each to the given program. -/
namespace Dv
open Go (IntKind BinOp UnOp)

abbrev oO (n : Nat) (x : DOp) : DOpr := ⟨some n, x, none⟩
abbrev oE (x : DOp) : DOpr := ⟨none, x, none⟩
abbrev oM (n k : Nat) : DOpr := ⟨some n, .move (.t k), none⟩
def f2 : DFn := ⟨77, [.tmp 2],
    .seq (.region false [] [
 oO 1 (.box 0 (.t 0)),
 oO 2 (.assign (.c (.bool false)))])
(.seq (.seq (.region false [] [
 oO 7 (.faddr 0 (.t 1) 0),
 oO 8 (.load 10 (.t 7)),
 oO 9 (.len 10 (.t 8)),
 oO 10 (.bin .gtr 2 (.t 9) (.c (.int .i64 12))),
 oM 11 10,
⟨(some 12), .faddr 0 (.t 1) 1, (some (11, false))⟩,
⟨(some 13), .load 9 (.t 12), (some (11, false))⟩,
⟨(some 14), .len 9 (.t 13), (some (11, false))⟩,
⟨(some 15), .bin .gtr 2 (.t 14) (.c (.int .i64 4)), (some (11, false))⟩,
 oO 16 (.pick (.t 11) (.c (.bool true)) (.t 15)),
 oM 17 16,
⟨(some 18), .faddr 0 (.t 1) 2, (some (17, false))⟩,
⟨(some 19), .load 14 (.t 18), (some (17, false))⟩,
⟨(some 20), .len 14 (.t 19), (some (17, false))⟩,
⟨(some 21), .bin .gtr 2 (.t 20) (.c (.int .i64 6)), (some (17, false))⟩,
 oO 22 (.pick (.t 17) (.c (.bool true)) (.t 21))])
(.cond (.t 22) (.seq (.region false [] [
 oO 2 (.assign (.c (.bool false)))])
(.ret)) (.skip)))
(.seq (.seq (.region false [] [
 oO 3 (.assign (.c (.int .i64 0)))])
(.block 0 (.loop (.seq (.seq (.region false [] [
 oM 23 3,
 oO 24 (.faddr 0 (.t 1) 1),
 oO 25 (.load 9 (.t 24)),
 oO 26 (.len 9 (.t 25)),
 oO 27 (.bin .lss 2 (.t 23) (.t 26))])
(.cond (.t 27) (.skip) (.exit 0)))
(.seq (.block 1 (.seq (.region false [] [
 oO 30 (.faddr 0 (.t 1) 1),
 oO 31 (.load 9 (.t 30)),
 oM 32 3,
 oO 33 (.iaddr 9 (.t 31) (.t 32)),
 oO 34 (.load 6 (.t 33)),
 oO 35 (.len 6 (.t 34)),
 oO 36 (.bin .gtr 2 (.t 35) (.c (.int .i64 16)))])
(.cond (.t 36) (.seq (.region false [] [
 oO 2 (.assign (.c (.bool false)))])
(.ret)) (.skip))))
(.region false [] [
 oM 28 3,
 oO 29 (.bin .add 2 (.t 28) (.c (.int .i64 1))),
 oO 3 (.assign (.t 29))]))))))
(.seq (.seq (.region false [] [
 oO 4 (.assign (.c (.int .i64 0)))])
(.block 2 (.loop (.seq (.seq (.region false [] [
 oM 37 4,
 oO 38 (.faddr 0 (.t 1) 2),
 oO 39 (.load 14 (.t 38)),
 oO 40 (.len 14 (.t 39)),
 oO 41 (.bin .lss 2 (.t 37) (.t 40))])
(.cond (.t 41) (.skip) (.exit 2)))
(.seq (.block 3 (.seq (.region false [] [
 oO 44 (.faddr 0 (.t 1) 2),
 oO 45 (.load 14 (.t 44)),
 oM 46 4,
 oO 47 (.iaddr 14 (.t 45) (.t 46)),
 oO 48 (.load 15 (.t 47)),
 oO 5 (.alloc 15),
 oE (.store 15 (.t 5) (.t 48))])
(.seq (.seq (.region false [] [
 oO 49 (.faddr 15 (.t 5) 2),
 oO 50 (.load 6 (.t 49)),
 oO 51 (.len 6 (.t 50)),
 oO 52 (.bin .gtr 2 (.t 51) (.c (.int .i64 8))),
 oM 53 52,
⟨(some 54), .faddr 15 (.t 5) 3, (some (53, false))⟩,
⟨(some 55), .load 16 (.t 54), (some (53, false))⟩,
⟨(some 56), .len 16 (.t 55), (some (53, false))⟩,
⟨(some 57), .bin .gtr 2 (.t 56) (.c (.int .i64 8)), (some (53, false))⟩,
 oO 58 (.pick (.t 53) (.c (.bool true)) (.t 57))])
(.cond (.t 58) (.seq (.region false [] [
 oO 2 (.assign (.c (.bool false)))])
(.ret)) (.skip)))
(.seq (.region false [] [
 oO 6 (.assign (.c (.int .i64 0)))])
(.block 4 (.loop (.seq (.seq (.region false [] [
 oM 59 6,
 oO 60 (.faddr 15 (.t 5) 3),
 oO 61 (.load 16 (.t 60)),
 oO 62 (.len 16 (.t 61)),
 oO 63 (.bin .lss 2 (.t 59) (.t 62))])
(.cond (.t 63) (.skip) (.exit 4)))
(.seq (.block 5 (.seq (.region false [] [
 oO 66 (.faddr 15 (.t 5) 3),
 oO 67 (.load 16 (.t 66)),
 oM 68 6,
 oO 69 (.iaddr 16 (.t 67) (.t 68)),
 oO 70 (.faddr 17 (.t 69) 3),
 oO 71 (.load 18 (.t 70)),
 oO 72 (.len 18 (.t 71)),
 oO 73 (.bin .gtr 2 (.t 72) (.c (.int .i64 12)))])
(.cond (.t 73) (.seq (.region false [] [
 oO 2 (.assign (.c (.bool false)))])
(.ret)) (.skip))))
(.region false [] [
 oM 64 6,
 oO 65 (.bin .add 2 (.t 64) (.c (.int .i64 1))),
 oO 6 (.assign (.t 65))])))))))))
(.region false [] [
 oM 42 4,
 oO 43 (.bin .add 2 (.t 42) (.c (.int .i64 1))),
 oO 4 (.assign (.t 43))]))))))
(.seq (.region false [] [
 oO 74 (.load 0 (.t 1)),
 oO 75 (.call 0 (.f 61) [(.t 74), (.c (.int .i64 2000))]),
 oO 76 (.bin .lss 2 (.t 75) (.c (.int .i64 2000))),
 oO 2 (.assign (.t 76))])
(.ret)))))⟩

def f3 : DFn := ⟨89, [.cell 4 6, .tmp 5],
    .seq (.region false [] [
 oO 2 (.box 0 (.t 0)),
 oO 4 (.alloc 6),
 oO 5 (.assign (.c (.int .i64 0)))])
(.seq (.seq (.region false [] [
 oO 14 (.load 0 (.t 2)),
 oM 15 1,
 oO 16 (.call 0 (.f 62) [(.t 14), (.t 15)]),
 oO 5 (.assign (.t 16))])
(.seq (.region false [] [
 oM 17 5,
 oO 18 (.bin .neq 3 (.t 17) (.c (.int .i64 0)))])
(.cond (.t 18) (.seq (.region false [] [
 oM 19 5,
 oE (.store 6 (.t 4) (.c (.imm .exact []))),
 oO 5 (.assign (.t 19))])
(.ret)) (.skip))))
(.seq (.region false [] [
 oO 20 (.mkslice true 6 (.c (.int .i64 4)) (.c (.int .i64 4))),
 oE (.store 6 (.t 4) (.t 20))])
(.seq (.seq (.region false [] [
 oO 21 (.faddr 0 (.t 2) 1),
 oO 22 (.load 9 (.t 21)),
 oO 23 (.len 9 (.t 22)),
 oO 24 (.move (.c (.int .i64 0)))])
(.block 0 (.loop (.seq (.region false [] [
 oO 25 (.bin .lss 2 (.t 24) (.t 23))])
(.seq (.cond (.t 25) (.skip) (.exit 0))
(.seq (.block 1 (.seq (.region false [] [
 oM 26 24,
 oO 27 (.iaddr 9 (.t 22) (.t 24)),
 oO 28 (.load 6 (.t 27)),
 oO 6 (.assign (.t 26)),
 oO 7 (.assign (.t 28))])
(.seq (.region false [] [
 oO 30 (.load 0 (.t 2)),
 oM 31 1,
 oM 32 6,
 oO 33 (.call 0 (.f 14) [(.t 30), (.t 31), (.t 32)]),
 oM 29 33,
 oO 34 (.extract (.t 29) 0),
 oO 35 (.extract (.t 29) 1),
 oO 8 (.assign (.t 34)),
 oO 9 (.assign (.t 35))])
(.seq (.region false [] [
 oM 36 8,
 oO 37 (.len 6 (.t 36)),
 oO 38 (.move (.c (.int .i64 0)))])
(.block 2 (.loop (.seq (.region false [] [
 oO 39 (.bin .lss 2 (.t 38) (.t 37))])
(.seq (.cond (.t 39) (.skip) (.exit 2))
(.seq (.block 3 (.seq (.region false [] [
 oM 40 38,
 oO 41 (.iaddr 6 (.t 36) (.t 38)),
 oO 42 (.load 2 (.t 41)),
 oO 10 (.assign (.t 40)),
 oO 11 (.assign (.t 42))])
(.region true [] [
 oO 43 (.load 6 (.t 4)),
 oO 44 (.iaddr 6 (.t 43) (.c (.int .i64 0))),
 oO 45 (.load 2 (.t 44)),
 oM 46 11,
 oM 47 7,
 oM 48 10,
 oO 49 (.iaddr 6 (.t 47) (.t 48)),
 oO 50 (.load 2 (.t 49)),
 oO 51 (.bin .sub 2 (.t 46) (.t 50)),
 oO 52 (.maxi [(.t 51), (.c (.int .i64 0))]),
 oO 53 (.bin .add 2 (.t 45) (.t 52)),
 oO 54 (.iaddr 6 (.t 43) (.c (.int .i64 0))),
 oE (.store 2 (.t 54) (.t 53))])))
(.region false [] [
 oO 55 (.bin .add 2 (.t 38) (.c (.int .i64 1))),
 oM 38 55]))))))))))
(.region false [] [
 oO 56 (.bin .add 2 (.t 24) (.c (.int .i64 1))),
 oM 24 56])))))))
(.seq (.seq (.region false [] [
 oO 57 (.load 0 (.t 2)),
 oM 58 1,
 oO 59 (.call 0 (.f 63) [(.t 57), (.t 58)])])
(.block 4 (.rfunc (.t 59) [60, 61] (.seq (.region false [] [
 oO 12 (.assign (.t 60))])
(.region false [] [
 oO 13 (.alloc 17),
 oE (.store 17 (.t 13) (.t 61))])) (.block 5 (.seq (.region true [] [
 oO 62 (.load 6 (.t 4)),
 oO 63 (.load 6 (.t 4)),
 oO 64 (.iaddr 6 (.t 63) (.c (.int .i64 1))),
 oO 65 (.load 2 (.t 64)),
 oO 66 (.faddr 17 (.t 13) 0),
 oO 67 (.load 2 (.t 66)),
 oO 68 (.maxi [(.t 65), (.t 67)]),
 oO 69 (.iaddr 6 (.t 62) (.c (.int .i64 1))),
 oE (.store 2 (.t 69) (.t 68))])
(.seq (.region true [] [
 oO 70 (.load 6 (.t 4)),
 oO 71 (.iaddr 6 (.t 70) (.c (.int .i64 2))),
 oO 72 (.load 2 (.t 71)),
 oO 73 (.faddr 17 (.t 13) 1),
 oO 74 (.load 2 (.t 73)),
 oM 75 12,
 oO 76 (.bin .mul 2 (.t 74) (.t 75)),
 oO 77 (.bin .add 2 (.t 72) (.t 76)),
 oO 78 (.iaddr 6 (.t 70) (.c (.int .i64 2))),
 oE (.store 2 (.t 78) (.t 77))])
(.region true [] [
 oO 79 (.load 6 (.t 4)),
 oO 80 (.iaddr 6 (.t 79) (.c (.int .i64 3))),
 oO 81 (.load 2 (.t 80)),
 oO 82 (.faddr 17 (.t 13) 2),
 oO 83 (.load 2 (.t 82)),
 oM 84 12,
 oO 85 (.bin .mul 2 (.t 83) (.t 84)),
 oO 86 (.bin .add 2 (.t 81) (.t 85)),
 oO 87 (.iaddr 6 (.t 79) (.c (.int .i64 3))),
 oE (.store 2 (.t 87) (.t 86))])))))))
(.seq (.region false [] [
 oO 88 (.load 6 (.t 4)),
 oE (.store 6 (.t 4) (.t 88)),
 oO 5 (.assign (.c (.int .i64 0)))])
(.ret))))))⟩

def f7 : DFn := ⟨43, [.tmp 4, .tmp 5],
    .seq (.region false [] [
 oO 2 (.box 0 (.t 0)),
 oO 4 (.assign (.c (.imm .exact []))),
 oO 5 (.assign (.c (.int .i64 0)))])
(.seq (.seq (.region false [] [
 oO 8 (.load 0 (.t 2)),
 oM 9 1,
 oO 10 (.call 0 (.f 62) [(.t 8), (.t 9)]),
 oO 5 (.assign (.t 10))])
(.seq (.region false [] [
 oM 11 5,
 oO 12 (.bin .neq 3 (.t 11) (.c (.int .i64 0)))])
(.cond (.t 12) (.seq (.region false [] [
 oM 13 5,
 oO 4 (.assign (.c (.imm .exact []))),
 oO 5 (.assign (.t 13))])
(.ret)) (.skip))))
(.seq (.region false [] [
 oM 14 1,
 oO 15 (.len 1 (.t 14)),
 oO 6 (.assign (.t 15))])
(.seq (.seq (.region false [] [
 oM 16 6,
 oO 17 (.faddr 0 (.t 2) 2),
 oO 18 (.load 14 (.t 17)),
 oO 19 (.len 14 (.t 18)),
 oO 20 (.bin .eql 2 (.t 16) (.t 19))])
(.cond (.t 20) (.seq (.region false [] [
 oO 4 (.assign (.c (.imm .exact []))),
 oO 5 (.assign (.c (.int .i64 280)))])
(.ret)) (.skip)))
(.seq (.seq (.region false [] [
 oO 21 (.faddr 0 (.t 2) 2),
 oO 22 (.load 14 (.t 21)),
 oM 23 6,
 oO 24 (.iaddr 14 (.t 22) (.t 23)),
 oO 25 (.faddr 15 (.t 24) 3),
 oO 26 (.load 16 (.t 25)),
 oO 27 (.len 16 (.t 26)),
 oO 28 (.move (.c (.int .i64 0)))])
(.block 0 (.loop (.seq (.region false [] [
 oO 29 (.bin .lss 2 (.t 28) (.t 27))])
(.seq (.cond (.t 29) (.skip) (.exit 0))
(.seq (.block 1 (.seq (.region false [] [
 oM 30 28,
 oO 7 (.assign (.t 30))])
(.region false [] [
 oM 31 4,
 oM 32 1,
 oM 33 6,
 oM 34 6,
 oO 35 (.slice 1 (.t 32) none (some (.t 33)) (some (.t 34))),
 oM 36 7,
 oO 37 (.bslice false 1 1 [(0, (.t 36))]),
 oO 38 (.append 0 1 1 (.t 35) (.t 37)),
 oO 39 (.bslice false 4 1 [(0, (.t 38))]),
 oO 40 (.append 0 4 4 (.t 31) (.t 39)),
 oO 4 (.assign (.t 40))])))
(.region false [] [
 oO 41 (.bin .add 2 (.t 28) (.c (.int .i64 1))),
 oM 28 41])))))))
(.seq (.region false [] [
 oM 42 4,
 oO 4 (.assign (.t 42)),
 oO 5 (.assign (.c (.int .i64 0)))])
(.ret))))))⟩

def f14 : DFn := ⟨27, [.tmp 6, .tmp 7],
    .seq (.region false [] [
 oO 3 (.box 0 (.t 0)),
 oO 6 (.assign (.c (.imm .exact []))),
 oO 7 (.assign (.c (.int .i64 0)))])
(.seq (.seq (.region false [] [
 oO 8 (.load 0 (.t 3)),
 oM 9 1,
 oO 10 (.call 0 (.f 66) [(.t 8), (.t 9)]),
 oO 7 (.assign (.t 10))])
(.seq (.region false [] [
 oM 11 7,
 oO 12 (.bin .neq 3 (.t 11) (.c (.int .i64 0)))])
(.cond (.t 12) (.seq (.region false [] [
 oM 13 7,
 oO 6 (.assign (.c (.imm .exact []))),
 oO 7 (.assign (.t 13))])
(.ret)) (.skip))))
(.seq (.seq (.region false [] [
 oM 14 2,
 oO 15 (.faddr 0 (.t 3) 1),
 oO 16 (.load 9 (.t 15)),
 oO 17 (.len 9 (.t 16)),
 oO 18 (.bin .sub 2 (.t 17) (.c (.int .i64 1))),
 oO 19 (.call 0 (.f 67) [(.t 14), (.c (.int .i64 0)), (.t 18)]),
 oO 20 (.un .not (.t 19))])
(.cond (.t 20) (.seq (.region false [] [
 oO 6 (.assign (.c (.imm .exact []))),
 oO 7 (.assign (.c (.int .i64 270)))])
(.ret)) (.skip)))
(.seq (.region false [] [
 oO 21 (.load 0 (.t 3)),
 oM 22 1,
 oO 23 (.call 0 (.f 68) [(.t 21), (.t 22)]),
 oM 24 2,
 oO 25 (.iaddr 9 (.t 23) (.t 24)),
 oO 26 (.load 6 (.t 25)),
 oO 6 (.assign (.t 26)),
 oO 7 (.assign (.c (.int .i64 0)))])
(.ret))))⟩

def f15 : DFn := ⟨173, [.tmp 2],
    .seq (.region false [] [
 oO 1 (.box 0 (.t 0)),
 oO 2 (.assign (.c (.int .i64 0)))])
(.seq (.seq (.region false [] [
 oO 15 (.faddr 0 (.t 1) 0),
 oO 16 (.load 10 (.t 15)),
 oO 17 (.len 10 (.t 16)),
 oO 18 (.bin .gtr 2 (.t 17) (.c (.int .i64 4096))),
 oM 19 18,
⟨(some 20), .faddr 0 (.t 1) 1, (some (19, false))⟩,
⟨(some 21), .load 9 (.t 20), (some (19, false))⟩,
⟨(some 22), .len 9 (.t 21), (some (19, false))⟩,
⟨(some 23), .call 0 (.f 67) [(.t 22), (.c (.int .i64 1)), (.c (.int .i64 32))], (some (19, false))⟩,
⟨(some 24), .un .not (.t 23), (some (19, false))⟩,
 oO 25 (.pick (.t 19) (.c (.bool true)) (.t 24)),
 oM 26 25,
⟨(some 27), .faddr 0 (.t 1) 2, (some (26, false))⟩,
⟨(some 28), .load 14 (.t 27), (some (26, false))⟩,
⟨(some 29), .len 14 (.t 28), (some (26, false))⟩,
⟨(some 30), .bin .gtr 2 (.t 29) (.c (.int .i64 64)), (some (26, false))⟩,
 oO 31 (.pick (.t 26) (.c (.bool true)) (.t 30)),
 oM 32 31,
⟨(some 33), .faddr 0 (.t 1) 0, (some (32, false))⟩,
⟨(some 34), .load 10 (.t 33), (some (32, false))⟩,
⟨(some 35), .call 0 (.f 69) [(.t 34), (.f 70)], (some (32, false))⟩,
⟨(some 36), .un .not (.t 35), (some (32, false))⟩,
 oO 37 (.pick (.t 32) (.c (.bool true)) (.t 36))])
(.cond (.t 37) (.seq (.region false [] [
 oO 2 (.assign (.c (.int .i64 270)))])
(.ret)) (.skip)))
(.seq (.region false [] [
 oO 38 (.mkmap 21),
 oO 3 (.assign (.t 38))])
(.seq (.seq (.region false [] [
 oO 39 (.faddr 0 (.t 1) 0),
 oO 40 (.load 10 (.t 39)),
 oO 41 (.len 10 (.t 40)),
 oO 42 (.move (.c (.int .i64 0)))])
(.block 0 (.loop (.seq (.region false [] [
 oO 43 (.bin .lss 2 (.t 42) (.t 41))])
(.seq (.cond (.t 43) (.skip) (.exit 0))
(.seq (.block 1 (.seq (.region false [] [
 oO 44 (.iaddr 10 (.t 40) (.t 42)),
 oO 45 (.load 20 (.t 44)),
 oO 5 (.alloc 20),
 oE (.store 20 (.t 5) (.t 45))])
(.seq (.seq (.region false [] [
 oO 46 (.faddr 20 (.t 5) 1),
 oO 47 (.load 2 (.t 46)),
 oO 48 (.bin .lss 2 (.t 47) (.c (.int .i64 0))),
 oM 49 48,
⟨(some 50), .faddr 20 (.t 5) 2, (some (49, false))⟩,
⟨(some 51), .load 2 (.t 50), (some (49, false))⟩,
⟨(some 52), .bin .lss 2 (.t 51) (.c (.int .i64 0)), (some (49, false))⟩,
 oO 53 (.pick (.t 49) (.c (.bool true)) (.t 52))])
(.cond (.t 53) (.seq (.region false [] [
 oO 2 (.assign (.c (.int .i64 270)))])
(.ret)) (.skip)))
(.region false [] [
 oM 54 3,
 oO 55 (.load 20 (.t 5)),
 oE (.mapset 21 (.t 54) (.t 55) (.c (.bool true)))]))))
(.region false [] [
 oO 56 (.bin .add 2 (.t 42) (.c (.int .i64 1))),
 oM 42 56])))))))
(.seq (.seq (.region false [] [
 oO 57 (.faddr 0 (.t 1) 1),
 oO 58 (.load 9 (.t 57)),
 oO 59 (.len 9 (.t 58)),
 oO 60 (.move (.c (.int .i64 0)))])
(.block 2 (.loop (.seq (.region false [] [
 oO 61 (.bin .lss 2 (.t 60) (.t 59))])
(.seq (.cond (.t 61) (.skip) (.exit 2))
(.seq (.block 3 (.seq (.region false [] [
 oO 62 (.iaddr 9 (.t 58) (.t 60)),
 oO 63 (.load 6 (.t 62)),
 oO 7 (.assign (.t 63))])
(.seq (.region false [] [
 oM 64 7,
 oO 65 (.len 6 (.t 64)),
 oO 66 (.faddr 0 (.t 1) 0),
 oO 67 (.load 10 (.t 66)),
 oO 68 (.len 10 (.t 67)),
 oO 69 (.bin .neq 2 (.t 65) (.t 68)),
 oM 70 69,
⟨(some 71), .move (.t 7), (some (70, false))⟩,
⟨(some 72), .call 0 (.f 71) [(.t 71), (.f 72)], (some (70, false))⟩,
 oO 73 (.pick (.t 70) (.c (.bool true)) (.t 72))])
(.cond (.t 73) (.seq (.region false [] [
 oO 2 (.assign (.c (.int .i64 270)))])
(.ret)) (.skip)))))
(.region false [] [
 oO 74 (.bin .add 2 (.t 60) (.c (.int .i64 1))),
 oM 60 74])))))))
(.seq (.seq (.region false [] [
 oO 75 (.faddr 0 (.t 1) 2),
 oO 76 (.load 14 (.t 75)),
 oO 77 (.len 14 (.t 76)),
 oO 78 (.move (.c (.int .i64 0)))])
(.block 4 (.loop (.seq (.region false [] [
 oO 79 (.bin .lss 2 (.t 78) (.t 77))])
(.seq (.cond (.t 79) (.skip) (.exit 4))
(.seq (.block 5 (.seq (.region false [] [
 oO 80 (.iaddr 14 (.t 76) (.t 78)),
 oO 81 (.load 15 (.t 80)),
 oO 9 (.alloc 15),
 oE (.store 15 (.t 9) (.t 81))])
(.seq (.seq (.region true [] [
 oO 82 (.faddr 15 (.t 9) 2),
 oO 83 (.load 6 (.t 82)),
 oO 84 (.len 6 (.t 83)),
 oO 85 (.bin .eql 2 (.t 84) (.c (.int .i64 0))),
 oM 86 85,
⟨(some 87), .faddr 15 (.t 9) 3, (some (86, false))⟩,
⟨(some 88), .load 16 (.t 87), (some (86, false))⟩,
⟨(some 89), .len 16 (.t 88), (some (86, false))⟩,
⟨(some 90), .call 0 (.f 67) [(.t 89), (.c (.int .i64 1)), (.c (.int .i64 96))], (some (86, false))⟩,
⟨(some 91), .un .not (.t 90), (some (86, false))⟩,
 oO 92 (.pick (.t 86) (.c (.bool true)) (.t 91)),
 oM 93 92,
⟨(some 94), .faddr 15 (.t 9) 2, (some (93, false))⟩,
⟨(some 95), .load 6 (.t 94), (some (93, false))⟩,
⟨(some 96), .call 0 (.f 73) [(.t 95), (.f 74)], (some (93, false))⟩,
⟨(some 97), .un .not (.t 96), (some (93, false))⟩,
 oO 98 (.pick (.t 93) (.c (.bool true)) (.t 97)),
 oM 99 98,
⟨(some 100), .faddr 15 (.t 9) 2, (some (99, false))⟩,
⟨(some 101), .load 6 (.t 100), (some (99, false))⟩,
⟨(some 102), .iaddr 6 (.t 101) (.c (.int .i64 0)), (some (99, false))⟩,
⟨(some 103), .load 2 (.t 102), (some (99, false))⟩,
⟨(some 104), .bin .lss 2 (.t 103) (.c (.int .i64 0)), (some (99, false))⟩,
 oO 105 (.pick (.t 99) (.c (.bool true)) (.t 104)),
 oM 106 105,
⟨(some 107), .faddr 15 (.t 9) 2, (some (106, false))⟩,
⟨(some 108), .load 6 (.t 107), (some (106, false))⟩,
⟨(some 109), .faddr 15 (.t 9) 2, (some (106, false))⟩,
⟨(some 110), .load 6 (.t 109), (some (106, false))⟩,
⟨(some 111), .len 6 (.t 110), (some (106, false))⟩,
⟨(some 112), .bin .sub 2 (.t 111) (.c (.int .i64 1)), (some (106, false))⟩,
⟨(some 113), .iaddr 6 (.t 108) (.t 112), (some (106, false))⟩,
⟨(some 114), .load 2 (.t 113), (some (106, false))⟩,
⟨(some 115), .faddr 0 (.t 1) 1, (some (106, false))⟩,
⟨(some 116), .load 9 (.t 115), (some (106, false))⟩,
⟨(some 117), .len 9 (.t 116), (some (106, false))⟩,
⟨(some 118), .bin .geq 2 (.t 114) (.t 117), (some (106, false))⟩,
 oO 119 (.pick (.t 106) (.c (.bool true)) (.t 118))])
(.cond (.t 119) (.seq (.region false [] [
 oO 2 (.assign (.c (.int .i64 270)))])
(.ret)) (.skip)))
(.seq (.region false [] [
 oO 120 (.faddr 15 (.t 9) 3),
 oO 121 (.load 16 (.t 120)),
 oO 122 (.len 16 (.t 121)),
 oO 123 (.move (.c (.int .i64 0)))])
(.block 6 (.loop (.seq (.region false [] [
 oO 124 (.bin .lss 2 (.t 123) (.t 122))])
(.seq (.cond (.t 124) (.skip) (.exit 6))
(.seq (.block 7 (.seq (.region false [] [
 oO 125 (.iaddr 16 (.t 121) (.t 123)),
 oO 126 (.load 17 (.t 125)),
 oO 11 (.alloc 17),
 oE (.store 17 (.t 11) (.t 126))])
(.seq (.region false [] [
 oO 12 (.assign (.c (.int .i64 1048576)))])
(.seq (.seq (.region false [] [
 oO 127 (.faddr 17 (.t 11) 0),
 oO 128 (.load 2 (.t 127)),
 oM 129 12,
 oO 130 (.call 0 (.f 67) [(.t 128), (.c (.int .i64 0)), (.t 129)]),
 oO 131 (.un .not (.t 130)),
 oM 132 131,
⟨(some 133), .faddr 17 (.t 11) 1, (some (132, false))⟩,
⟨(some 134), .load 2 (.t 133), (some (132, false))⟩,
⟨(some 135), .move (.t 12), (some (132, false))⟩,
⟨(some 136), .call 0 (.f 67) [(.t 134), (.c (.int .i64 0)), (.t 135)], (some (132, false))⟩,
⟨(some 137), .un .not (.t 136), (some (132, false))⟩,
 oO 138 (.pick (.t 132) (.c (.bool true)) (.t 137)),
 oM 139 138,
⟨(some 140), .faddr 17 (.t 11) 2, (some (139, false))⟩,
⟨(some 141), .load 2 (.t 140), (some (139, false))⟩,
⟨(some 142), .move (.t 12), (some (139, false))⟩,
⟨(some 143), .call 0 (.f 67) [(.t 141), (.c (.int .i64 0)), (.t 142)], (some (139, false))⟩,
⟨(some 144), .un .not (.t 143), (some (139, false))⟩,
 oO 145 (.pick (.t 139) (.c (.bool true)) (.t 144)),
 oM 146 145,
⟨(some 147), .faddr 17 (.t 11) 3, (some (146, false))⟩,
⟨(some 148), .load 18 (.t 147), (some (146, false))⟩,
⟨(some 149), .call 0 (.f 75) [(.t 148), (.f 76)], (some (146, false))⟩,
⟨(some 150), .un .not (.t 149), (some (146, false))⟩,
 oO 151 (.pick (.t 146) (.c (.bool true)) (.t 150))])
(.cond (.t 151) (.seq (.region false [] [
 oO 2 (.assign (.c (.int .i64 270)))])
(.ret)) (.skip)))
(.seq (.region false [] [
 oO 152 (.faddr 17 (.t 11) 3),
 oO 153 (.load 18 (.t 152)),
 oO 154 (.len 18 (.t 153)),
 oO 155 (.move (.c (.int .i64 0)))])
(.block 8 (.loop (.seq (.region false [] [
 oO 156 (.bin .lss 2 (.t 155) (.t 154))])
(.seq (.cond (.t 156) (.skip) (.exit 8))
(.seq (.block 9 (.seq (.region false [] [
 oO 157 (.iaddr 18 (.t 153) (.t 155)),
 oO 158 (.load 19 (.t 157)),
 oO 14 (.alloc 19),
 oE (.store 19 (.t 14) (.t 158))])
(.seq (.region false [] [
 oM 159 3,
 oO 160 (.faddr 19 (.t 14) 0),
 oO 161 (.load 20 (.t 160)),
 oO 162 (.lookup 21 (.t 159) (.t 161) false),
 oO 163 (.un .not (.t 162)),
 oM 164 163,
⟨(some 165), .faddr 19 (.t 14) 1, (some (164, false))⟩,
⟨(some 166), .load 2 (.t 165), (some (164, false))⟩,
⟨(some 167), .call 0 (.f 67) [(.t 166), (.c (.int .i64 1)), (.c (.int .i64 8))], (some (164, false))⟩,
⟨(some 168), .un .not (.t 167), (some (164, false))⟩,
 oO 169 (.pick (.t 164) (.c (.bool true)) (.t 168))])
(.cond (.t 169) (.seq (.region false [] [
 oO 2 (.assign (.c (.int .i64 270)))])
(.ret)) (.skip)))))
(.region false [] [
 oO 170 (.bin .add 2 (.t 155) (.c (.int .i64 1))),
 oM 155 170])))))))))))
(.region false [] [
 oO 171 (.bin .add 2 (.t 123) (.c (.int .i64 1))),
 oM 123 171]))))))))))
(.region false [] [
 oO 172 (.bin .add 2 (.t 78) (.c (.int .i64 1))),
 oM 78 172])))))))
(.seq (.region false [] [
 oO 2 (.assign (.c (.int .i64 0)))])
(.ret)))))))⟩

def f20 : DFn := ⟨26, [.tmp 4],
    .seq (.region false [] [
 oO 4 (.assign (.c (.bool false)))])
(.seq (.seq (.region false [] [
 oM 6 0,
 oO 7 (.len 6 (.t 6)),
 oM 8 1,
 oO 9 (.len 6 (.t 8)),
 oO 10 (.bin .neq 2 (.t 7) (.t 9))])
(.cond (.t 10) (.seq (.region false [] [
 oO 4 (.assign (.c (.bool false)))])
(.ret)) (.skip)))
(.seq (.seq (.region false [] [
 oO 5 (.assign (.c (.int .i64 0)))])
(.block 0 (.loop (.seq (.seq (.region false [] [
 oM 11 5,
 oM 12 0,
 oO 13 (.len 6 (.t 12)),
 oO 14 (.bin .lss 2 (.t 11) (.t 13))])
(.cond (.t 14) (.skip) (.exit 0)))
(.seq (.block 1 (.seq (.region true [] [
 oM 17 0,
 oM 18 5,
 oO 19 (.iaddr 6 (.t 17) (.t 18)),
 oO 20 (.load 2 (.t 19)),
 oM 21 1,
 oM 22 5,
 oO 23 (.iaddr 6 (.t 21) (.t 22)),
 oO 24 (.load 2 (.t 23)),
 oO 25 (.bin .neq 2 (.t 20) (.t 24))])
(.cond (.t 25) (.seq (.region false [] [
 oO 4 (.assign (.c (.bool false)))])
(.ret)) (.skip))))
(.region false [] [
 oM 15 5,
 oO 16 (.bin .add 2 (.t 15) (.c (.int .i64 1))),
 oO 5 (.assign (.t 16))]))))))
(.seq (.region false [] [
 oO 4 (.assign (.c (.bool true)))])
(.ret))))⟩

def f22 : DFn := ⟨76, [.tmp 4, .tmp 5],
    .seq (.region false [] [
 oO 2 (.box 0 (.t 0)),
 oO 4 (.assign (.c (.imm .exact []))),
 oO 5 (.assign (.c (.int .i64 0)))])
(.seq (.seq (.region false [] [
 oO 13 (.load 0 (.t 2)),
 oM 14 1,
 oO 15 (.call 0 (.f 83) [(.t 13), (.t 14)]),
 oO 5 (.assign (.t 15))])
(.seq (.region false [] [
 oM 16 5,
 oO 17 (.bin .neq 3 (.t 16) (.c (.int .i64 0)))])
(.cond (.t 17) (.seq (.region false [] [
 oM 18 5,
 oO 4 (.assign (.c (.imm .exact []))),
 oO 5 (.assign (.t 18))])
(.ret)) (.skip))))
(.seq (.region false [] [
 oO 6 (.alloc 22)])
(.seq (.seq (.region false [] [
 oO 19 (.load 0 (.t 2)),
 oM 20 1,
 oO 21 (.call 0 (.f 84) [(.t 19), (.t 20)])])
(.block 0 (.rfunc (.t 21) [22, 23] (.region false [] [
 oO 8 (.assign (.t 23))]) (.block 1 (.region false [] [
 oO 24 (.iaddr 22 (.t 6) (.c (.int .i64 0))),
 oO 25 (.load 2 (.t 24)),
 oM 26 8,
 oO 27 (.bin .add 2 (.t 25) (.t 26)),
 oO 28 (.iaddr 22 (.t 6) (.c (.int .i64 0))),
 oE (.store 2 (.t 28) (.t 27))])))))
(.seq (.seq (.region false [] [
 oM 29 1,
 oO 30 (.len 6 (.t 29)),
 oO 31 (.move (.c (.int .i64 0)))])
(.block 2 (.loop (.seq (.region false [] [
 oO 32 (.bin .lss 2 (.t 31) (.t 30))])
(.seq (.cond (.t 32) (.skip) (.exit 2))
(.seq (.block 3 (.seq (.region false [] [
 oM 33 31,
 oO 34 (.iaddr 6 (.t 29) (.t 31)),
 oO 35 (.load 2 (.t 34)),
 oO 9 (.assign (.t 33)),
 oO 10 (.assign (.t 35))])
(.seq (.region true [(10, 17), (14, 17), (15, 17)] [
 oO 36 (.faddr 0 (.t 2) 2),
 oO 37 (.load 14 (.t 36)),
 oM 38 9,
 oO 39 (.iaddr 14 (.t 37) (.t 38)),
 oO 40 (.faddr 15 (.t 39) 3),
 oO 41 (.load 16 (.t 40)),
 oM 42 10,
 oO 43 (.iaddr 16 (.t 41) (.t 42)),
 oO 44 (.load 17 (.t 43)),
 oO 45 (.faddr 0 (.t 2) 2),
 oO 46 (.load 14 (.t 45)),
 oM 47 9,
 oO 48 (.iaddr 14 (.t 46) (.t 47)),
 oO 49 (.faddr 15 (.t 48) 2),
 oO 50 (.load 6 (.t 49)),
 oO 51 (.len 6 (.t 50)),
 oO 11 (.alloc 17),
 oE (.store 17 (.t 11) (.t 44)),
 oO 12 (.assign (.t 51))])
(.seq (.region false [] [
 oO 52 (.iaddr 22 (.t 6) (.c (.int .i64 1))),
 oO 53 (.load 2 (.t 52)),
 oO 54 (.faddr 17 (.t 11) 0),
 oO 55 (.load 2 (.t 54)),
 oO 56 (.maxi [(.t 53), (.t 55)]),
 oO 57 (.iaddr 22 (.t 6) (.c (.int .i64 1))),
 oE (.store 2 (.t 57) (.t 56))])
(.seq (.region false [] [
 oO 58 (.iaddr 22 (.t 6) (.c (.int .i64 2))),
 oO 59 (.load 2 (.t 58)),
 oO 60 (.faddr 17 (.t 11) 1),
 oO 61 (.load 2 (.t 60)),
 oM 62 12,
 oO 63 (.bin .mul 2 (.t 61) (.t 62)),
 oO 64 (.bin .add 2 (.t 59) (.t 63)),
 oO 65 (.iaddr 22 (.t 6) (.c (.int .i64 2))),
 oE (.store 2 (.t 65) (.t 64))])
(.region false [] [
 oO 66 (.iaddr 22 (.t 6) (.c (.int .i64 3))),
 oO 67 (.load 2 (.t 66)),
 oO 68 (.faddr 17 (.t 11) 2),
 oO 69 (.load 2 (.t 68)),
 oM 70 12,
 oO 71 (.bin .mul 2 (.t 69) (.t 70)),
 oO 72 (.bin .add 2 (.t 67) (.t 71)),
 oO 73 (.iaddr 22 (.t 6) (.c (.int .i64 3))),
 oE (.store 2 (.t 73) (.t 72))]))))))
(.region false [] [
 oO 74 (.bin .add 2 (.t 31) (.c (.int .i64 1))),
 oM 31 74])))))))
(.seq (.region false [] [
 oO 75 (.slice 22 (.t 6) none none none),
 oO 4 (.assign (.t 75)),
 oO 5 (.assign (.c (.int .i64 0)))])
(.ret))))))⟩

def f30 : DFn := ⟨14, [.tmp 4, .tmp 5],
    .seq (.region false [] [
 oO 4 (.assign (.c (.int .i64 0))),
 oO 5 (.assign (.c (.int .i64 0)))])
(.seq (.seq (.region false [] [
 oM 6 0,
 oO 7 (.len 6 (.t 6)),
 oM 8 1,
 oO 9 (.len 6 (.t 8)),
 oO 10 (.bin .neq 2 (.t 7) (.t 9))])
(.cond (.t 10) (.seq (.region false [] [
 oO 4 (.assign (.c (.int .i64 0))),
 oO 5 (.assign (.c (.int .i64 60)))])
(.ret)) (.skip)))
(.seq (.region false [] [
 oM 11 0,
 oM 12 1,
 oO 13 (.call 0 (.f 87) [(.t 11), (.t 12)]),
 oO 4 (.assign (.t 13)),
 oO 5 (.assign (.c (.int .i64 0)))])
(.ret)))⟩

def f61 : DFn := ⟨32, [.tmp 4],
    .seq (.region false [] [
 oO 2 (.box 0 (.t 0)),
 oO 4 (.assign (.c (.int .i64 0)))])
(.seq (.region false [] [
 oO 5 (.assign (.c (.int .i64 1)))])
(.seq (.seq (.region false [] [
 oO 6 (.assign (.c (.int .i64 0)))])
(.block 0 (.loop (.seq (.seq (.region false [] [
 oM 7 6,
 oO 8 (.faddr 0 (.t 2) 2),
 oO 9 (.load 14 (.t 8)),
 oO 10 (.len 14 (.t 9)),
 oO 11 (.bin .lss 2 (.t 7) (.t 10)),
 oM 12 11,
⟨(some 13), .move (.t 5), (some (12, true))⟩,
⟨(some 14), .move (.t 1), (some (12, true))⟩,
⟨(some 15), .bin .lss 2 (.t 13) (.t 14), (some (12, true))⟩,
 oO 16 (.pick (.t 12) (.t 15) (.c (.bool false)))])
(.cond (.t 16) (.skip) (.exit 0)))
(.seq (.block 1 (.region false [] [
 oM 19 5,
 oO 20 (.faddr 0 (.t 2) 2),
 oO 21 (.load 14 (.t 20)),
 oM 22 6,
 oO 23 (.iaddr 14 (.t 21) (.t 22)),
 oO 24 (.faddr 15 (.t 23) 3),
 oO 25 (.load 16 (.t 24)),
 oO 26 (.len 16 (.t 25)),
 oO 27 (.maxi [(.c (.int .i64 1)), (.t 26)]),
 oO 28 (.bin .mul 2 (.t 19) (.t 27)),
 oO 5 (.assign (.t 28))]))
(.region false [] [
 oM 17 6,
 oO 18 (.bin .add 2 (.t 17) (.c (.int .i64 1))),
 oO 6 (.assign (.t 18))]))))))
(.seq (.region false [] [
 oM 29 5,
 oM 30 1,
 oO 31 (.mini [(.t 29), (.t 30)]),
 oO 4 (.assign (.t 31))])
(.ret))))⟩

def f62 : DFn := ⟨39, [.tmp 4],
    .seq (.region false [] [
 oO 2 (.box 0 (.t 0)),
 oO 4 (.assign (.c (.int .i64 0)))])
(.seq (.seq (.region false [] [
 oO 7 (.load 0 (.t 2)),
 oO 8 (.call 0 (.f 15) [(.t 7)]),
 oO 4 (.assign (.t 8))])
(.seq (.region false [] [
 oM 9 4,
 oO 10 (.bin .neq 3 (.t 9) (.c (.int .i64 0)))])
(.cond (.t 10) (.seq (.region false [] [
 oM 11 4,
 oO 4 (.assign (.t 11))])
(.ret)) (.skip))))
(.seq (.seq (.region false [] [
 oM 12 1,
 oO 13 (.len 1 (.t 12)),
 oO 14 (.faddr 0 (.t 2) 2),
 oO 15 (.load 14 (.t 14)),
 oO 16 (.len 14 (.t 15)),
 oO 17 (.bin .gtr 2 (.t 13) (.t 16))])
(.cond (.t 17) (.seq (.region false [] [
 oO 4 (.assign (.c (.int .i64 280)))])
(.ret)) (.skip)))
(.seq (.seq (.region false [] [
 oM 18 1,
 oO 19 (.len 1 (.t 18)),
 oO 20 (.move (.c (.int .i64 0)))])
(.block 0 (.loop (.seq (.region false [] [
 oO 21 (.bin .lss 2 (.t 20) (.t 19))])
(.seq (.cond (.t 21) (.skip) (.exit 0))
(.seq (.block 1 (.seq (.region false [] [
 oM 22 20,
 oO 23 (.iaddr 1 (.t 18) (.t 20)),
 oO 24 (.load 2 (.t 23)),
 oO 5 (.assign (.t 22)),
 oO 6 (.assign (.t 24))])
(.seq (.region false [] [
 oM 25 6,
 oO 26 (.bin .lss 2 (.t 25) (.c (.int .i64 0))),
 oM 27 26,
⟨(some 28), .move (.t 6), (some (27, false))⟩,
⟨(some 29), .faddr 0 (.t 2) 2, (some (27, false))⟩,
⟨(some 30), .load 14 (.t 29), (some (27, false))⟩,
⟨(some 31), .move (.t 5), (some (27, false))⟩,
⟨(some 32), .iaddr 14 (.t 30) (.t 31), (some (27, false))⟩,
⟨(some 33), .faddr 15 (.t 32) 3, (some (27, false))⟩,
⟨(some 34), .load 16 (.t 33), (some (27, false))⟩,
⟨(some 35), .len 16 (.t 34), (some (27, false))⟩,
⟨(some 36), .bin .geq 2 (.t 28) (.t 35), (some (27, false))⟩,
 oO 37 (.pick (.t 27) (.c (.bool true)) (.t 36))])
(.cond (.t 37) (.seq (.region false [] [
 oO 4 (.assign (.c (.int .i64 280)))])
(.ret)) (.skip)))))
(.region false [] [
 oO 38 (.bin .add 2 (.t 20) (.c (.int .i64 1))),
 oM 20 38])))))))
(.seq (.region false [] [
 oO 4 (.assign (.c (.int .i64 0)))])
(.ret)))))⟩

def f63 : DFn := ⟨6, [.tmp 4],
    .seq (.region false [] [
 oO 2 (.box 0 (.t 0)),
 oO 3 (.box 1 (.t 1)),
 oO 4 (.assign (.c .nilfn))])
(.seq (.region false [] [
 oO 5 (.mkfn 102 [(.t 2), (.t 3)]),
 oO 4 (.assign (.t 5))])
(.ret))⟩

def f66 : DFn := ⟨38, [.tmp 4],
    .seq (.region false [] [
 oO 2 (.box 0 (.t 0)),
 oO 4 (.assign (.c (.int .i64 0)))])
(.seq (.seq (.region false [] [
 oO 8 (.load 0 (.t 2)),
 oO 9 (.call 0 (.f 15) [(.t 8)]),
 oO 5 (.assign (.t 9))])
(.seq (.region false [] [
 oM 10 5,
 oO 11 (.bin .neq 3 (.t 10) (.c (.int .i64 0)))])
(.cond (.t 11) (.seq (.region false [] [
 oM 12 5,
 oO 4 (.assign (.t 12))])
(.ret)) (.skip))))
(.seq (.seq (.region false [] [
 oM 13 1,
 oO 14 (.len 6 (.t 13)),
 oO 15 (.faddr 0 (.t 2) 2),
 oO 16 (.load 14 (.t 15)),
 oO 17 (.len 14 (.t 16)),
 oO 18 (.bin .gtr 2 (.t 14) (.t 17))])
(.cond (.t 18) (.seq (.region false [] [
 oO 4 (.assign (.c (.int .i64 270)))])
(.ret)) (.skip)))
(.seq (.seq (.region false [] [
 oM 19 1,
 oO 20 (.len 6 (.t 19)),
 oO 21 (.move (.c (.int .i64 0)))])
(.block 0 (.loop (.seq (.region false [] [
 oO 22 (.bin .lss 2 (.t 21) (.t 20))])
(.seq (.cond (.t 22) (.skip) (.exit 0))
(.seq (.block 1 (.seq (.region false [] [
 oM 23 21,
 oO 24 (.iaddr 6 (.t 19) (.t 21)),
 oO 25 (.load 2 (.t 24)),
 oO 6 (.assign (.t 23)),
 oO 7 (.assign (.t 25))])
(.seq (.region false [] [
 oM 26 7,
 oO 27 (.faddr 0 (.t 2) 2),
 oO 28 (.load 14 (.t 27)),
 oM 29 6,
 oO 30 (.iaddr 14 (.t 28) (.t 29)),
 oO 31 (.faddr 15 (.t 30) 3),
 oO 32 (.load 16 (.t 31)),
 oO 33 (.len 16 (.t 32)),
 oO 34 (.bin .sub 2 (.t 33) (.c (.int .i64 1))),
 oO 35 (.call 0 (.f 67) [(.t 26), (.c (.int .i64 0)), (.t 34)]),
 oO 36 (.un .not (.t 35))])
(.cond (.t 36) (.seq (.region false [] [
 oO 4 (.assign (.c (.int .i64 270)))])
(.ret)) (.skip)))))
(.region false [] [
 oO 37 (.bin .add 2 (.t 21) (.c (.int .i64 1))),
 oM 21 37])))))))
(.seq (.region false [] [
 oO 4 (.assign (.c (.int .i64 0)))])
(.ret)))))⟩

def f67 : DFn := ⟨15, [.tmp 6],
    .seq (.region false [] [
 oO 6 (.assign (.c (.bool false)))])
(.seq (.region false [] [
 oM 7 1,
 oM 8 0,
 oO 9 (.bin .leq 2 (.t 7) (.t 8)),
 oM 10 9,
⟨(some 11), .move (.t 0), (some (10, true))⟩,
⟨(some 12), .move (.t 2), (some (10, true))⟩,
⟨(some 13), .bin .leq 2 (.t 11) (.t 12), (some (10, true))⟩,
 oO 14 (.pick (.t 10) (.t 13) (.c (.bool false))),
 oO 6 (.assign (.t 14))])
(.ret))⟩

def f68 : DFn := ⟨62, [.tmp 4],
    .seq (.region false [] [
 oO 2 (.box 0 (.t 0)),
 oO 4 (.assign (.c (.imm .exact [])))])
(.seq (.region false [] [
 oO 12 (.mkmap 26),
 oO 5 (.alloc 26),
 oE (.store 26 (.t 5) (.t 12))])
(.seq (.seq (.region false [] [
 oO 13 (.faddr 0 (.t 2) 0),
 oO 14 (.load 10 (.t 13)),
 oO 15 (.len 10 (.t 14)),
 oO 16 (.move (.c (.int .i64 0)))])
(.block 0 (.loop (.seq (.region false [] [
 oO 17 (.bin .lss 2 (.t 16) (.t 15))])
(.seq (.cond (.t 17) (.skip) (.exit 0))
(.seq (.block 1 (.seq (.region false [] [
 oM 18 16,
 oO 19 (.iaddr 10 (.t 14) (.t 16)),
 oO 20 (.load 20 (.t 19)),
 oO 7 (.alloc 20),
 oO 6 (.assign (.t 18)),
 oE (.store 20 (.t 7) (.t 20))])
(.region false [] [
 oO 21 (.load 26 (.t 5)),
 oO 22 (.load 20 (.t 7)),
 oM 23 6,
 oE (.mapset 26 (.t 21) (.t 22) (.t 23))])))
(.region false [] [
 oO 24 (.bin .add 2 (.t 16) (.c (.int .i64 1))),
 oM 16 24])))))))
(.seq (.region false [] [
 oO 25 (.faddr 0 (.t 2) 1),
 oO 26 (.load 9 (.t 25)),
 oO 27 (.len 9 (.t 26)),
 oO 28 (.mkslice true 9 (.t 27) (.t 27)),
 oO 8 (.alloc 9),
 oE (.store 9 (.t 8) (.t 28))])
(.seq (.seq (.region false [] [
 oO 29 (.load 9 (.t 8)),
 oO 30 (.len 9 (.t 29)),
 oO 31 (.move (.c (.int .i64 0)))])
(.block 2 (.loop (.seq (.region false [] [
 oO 32 (.bin .lss 2 (.t 31) (.t 30))])
(.seq (.cond (.t 32) (.skip) (.exit 2))
(.seq (.block 3 (.seq (.region false [] [
 oM 33 31,
 oO 9 (.assign (.t 33))])
(.region true [] [
 oO 34 (.load 9 (.t 8)),
 oM 35 9,
 oO 36 (.faddr 0 (.t 2) 0),
 oO 37 (.load 10 (.t 36)),
 oO 38 (.len 10 (.t 37)),
 oO 39 (.mkslice true 6 (.t 38) (.t 38)),
 oO 40 (.iaddr 9 (.t 34) (.t 35)),
 oE (.store 6 (.t 40) (.t 39))])))
(.region false [] [
 oO 41 (.bin .add 2 (.t 31) (.c (.int .i64 1))),
 oM 31 41])))))))
(.seq (.seq (.region false [] [
 oO 42 (.load 0 (.t 2)),
 oM 43 1,
 oO 44 (.call 0 (.f 104) [(.t 42), (.t 43)])])
(.block 4 (.rfunc (.t 44) [45, 46] (.seq (.region false [] [
 oO 10 (.assign (.t 45))])
(.region false [] [
 oO 11 (.alloc 19),
 oE (.store 19 (.t 11) (.t 46))])) (.block 5 (.region true [] [
 oO 47 (.load 9 (.t 8)),
 oM 48 10,
 oO 49 (.iaddr 9 (.t 47) (.t 48)),
 oO 50 (.load 6 (.t 49)),
 oO 51 (.load 26 (.t 5)),
 oO 52 (.faddr 19 (.t 11) 0),
 oO 53 (.load 20 (.t 52)),
 oO 54 (.lookup 26 (.t 51) (.t 53) false),
 oO 55 (.iaddr 6 (.t 50) (.t 54)),
 oO 56 (.load 2 (.t 55)),
 oO 57 (.faddr 19 (.t 11) 1),
 oO 58 (.load 2 (.t 57)),
 oO 59 (.bin .add 2 (.t 56) (.t 58)),
 oO 60 (.iaddr 6 (.t 50) (.t 54)),
 oE (.store 2 (.t 60) (.t 59))])))))
(.seq (.region false [] [
 oO 61 (.load 9 (.t 8)),
 oO 4 (.assign (.t 61))])
(.ret)))))))⟩

def f69 : DFn := ⟨24, [.tmp 4],
    .seq (.region false [] [
 oO 4 (.assign (.c (.bool false)))])
(.seq (.seq (.region false [] [
 oO 5 (.assign (.c (.int .i64 1)))])
(.block 0 (.loop (.seq (.seq (.region false [] [
 oM 6 5,
 oM 7 0,
 oO 8 (.len 10 (.t 7)),
 oO 9 (.bin .lss 2 (.t 6) (.t 8))])
(.cond (.t 9) (.skip) (.exit 0)))
(.seq (.block 1 (.seq (.region true [] [
 oM 12 1,
 oM 13 0,
 oM 14 5,
 oO 15 (.bin .sub 2 (.t 14) (.c (.int .i64 1))),
 oO 16 (.iaddr 10 (.t 13) (.t 15)),
 oO 17 (.load 20 (.t 16)),
 oM 18 0,
 oM 19 5,
 oO 20 (.iaddr 10 (.t 18) (.t 19)),
 oO 21 (.load 20 (.t 20)),
 oO 22 (.call 0 (.t 12) [(.t 17), (.t 21)]),
 oO 23 (.bin .geq 2 (.t 22) (.c (.int .i64 0)))])
(.cond (.t 23) (.seq (.region false [] [
 oO 4 (.assign (.c (.bool false)))])
(.ret)) (.skip))))
(.region false [] [
 oM 10 5,
 oO 11 (.bin .add 2 (.t 10) (.c (.int .i64 1))),
 oO 5 (.assign (.t 11))]))))))
(.seq (.region false [] [
 oO 4 (.assign (.c (.bool true)))])
(.ret)))⟩

def f70 : DFn := ⟨24, [.tmp 4],
    .seq (.region false [] [
 oO 2 (.box 20 (.t 0)),
 oO 3 (.box 20 (.t 1)),
 oO 4 (.assign (.c (.int .i64 0)))])
(.seq (.seq (.region false [] [
 oO 5 (.faddr 20 (.t 2) 0),
 oO 6 (.load 7 (.t 5)),
 oO 7 (.faddr 20 (.t 3) 0),
 oO 8 (.load 7 (.t 7)),
 oO 9 (.bin .neq 7 (.t 6) (.t 8))])
(.cond (.t 9) (.seq (.seq (.region false [] [
 oO 10 (.faddr 20 (.t 3) 0),
 oO 11 (.load 7 (.t 10))])
(.cond (.t 11) (.seq (.region false [] [
 oO 4 (.assign (.c (.int .i64 (-1))))])
(.ret)) (.skip)))
(.seq (.region false [] [
 oO 4 (.assign (.c (.int .i64 1)))])
(.ret))) (.skip)))
(.seq (.region true [] [
 oO 12 (.faddr 20 (.t 2) 1),
 oO 13 (.load 2 (.t 12)),
 oO 14 (.faddr 20 (.t 3) 1),
 oO 15 (.load 2 (.t 14)),
 oO 16 (.call 0 (.f 74) [(.t 13), (.t 15)]),
 oO 17 (.faddr 20 (.t 2) 2),
 oO 18 (.load 2 (.t 17)),
 oO 19 (.faddr 20 (.t 3) 2),
 oO 20 (.load 2 (.t 19)),
 oO 21 (.call 0 (.f 74) [(.t 18), (.t 20)]),
 oO 22 (.bslice false 6 2 [(0, (.t 16)), (1, (.t 21))]),
 oO 23 (.call 0 (.f 105) [(.t 22)]),
 oO 4 (.assign (.t 23))])
(.ret)))⟩

def f71 : DFn := ⟨9, [.tmp 4],
    .seq (.region false [] [
 oO 4 (.assign (.c (.bool false)))])
(.seq (.region false [] [
 oM 5 0,
 oM 6 1,
 oO 7 (.call 0 (.f 106) [(.t 5), (.t 6)]),
 oO 8 (.bin .geq 2 (.t 7) (.c (.int .i64 0))),
 oO 4 (.assign (.t 8))])
(.ret))⟩

def f72 : DFn := ⟨6, [.tmp 2],
    .seq (.region false [] [
 oO 2 (.assign (.c (.bool false)))])
(.seq (.region false [] [
 oM 3 0,
 oO 4 (.call 0 (.f 67) [(.t 3), (.c (.int .i64 0)), (.c (.int .i64 4096))]),
 oO 5 (.un .not (.t 4)),
 oO 2 (.assign (.t 5))])
(.ret))⟩

def f73 : DFn := ⟨24, [.tmp 4],
    .seq (.region false [] [
 oO 4 (.assign (.c (.bool false)))])
(.seq (.seq (.region false [] [
 oO 5 (.assign (.c (.int .i64 1)))])
(.block 0 (.loop (.seq (.seq (.region false [] [
 oM 6 5,
 oM 7 0,
 oO 8 (.len 6 (.t 7)),
 oO 9 (.bin .lss 2 (.t 6) (.t 8))])
(.cond (.t 9) (.skip) (.exit 0)))
(.seq (.block 1 (.seq (.region true [] [
 oM 12 1,
 oM 13 0,
 oM 14 5,
 oO 15 (.bin .sub 2 (.t 14) (.c (.int .i64 1))),
 oO 16 (.iaddr 6 (.t 13) (.t 15)),
 oO 17 (.load 2 (.t 16)),
 oM 18 0,
 oM 19 5,
 oO 20 (.iaddr 6 (.t 18) (.t 19)),
 oO 21 (.load 2 (.t 20)),
 oO 22 (.call 0 (.t 12) [(.t 17), (.t 21)]),
 oO 23 (.bin .geq 2 (.t 22) (.c (.int .i64 0)))])
(.cond (.t 23) (.seq (.region false [] [
 oO 4 (.assign (.c (.bool false)))])
(.ret)) (.skip))))
(.region false [] [
 oM 10 5,
 oO 11 (.bin .add 2 (.t 10) (.c (.int .i64 1))),
 oO 5 (.assign (.t 11))]))))))
(.seq (.region false [] [
 oO 4 (.assign (.c (.bool true)))])
(.ret)))⟩

def f74 : DFn := ⟨20, [.tmp 4],
    .seq (.region false [] [
 oO 4 (.assign (.c (.int .i64 0)))])
(.seq (.region false [] [
 oM 7 0,
 oO 8 (.call 0 (.f 107) [(.t 7)]),
 oO 5 (.assign (.t 8))])
(.seq (.region false [] [
 oM 9 1,
 oO 10 (.call 0 (.f 107) [(.t 9)]),
 oO 6 (.assign (.t 10))])
(.seq (.seq (.region false [] [
 oM 11 5])
(.cond (.t 11) (.seq (.seq (.region false [] [
 oM 12 6])
(.cond (.t 12) (.seq (.region false [] [
 oO 4 (.assign (.c (.int .i64 0)))])
(.ret)) (.skip)))
(.seq (.region false [] [
 oO 4 (.assign (.c (.int .i64 (-1))))])
(.ret))) (.skip)))
(.seq (.seq (.region false [] [
 oM 13 6])
(.cond (.t 13) (.seq (.region false [] [
 oO 4 (.assign (.c (.int .i64 1)))])
(.ret)) (.skip)))
(.seq (.seq (.region false [] [
 oM 14 0,
 oM 15 1,
 oO 16 (.bin .lss 2 (.t 14) (.t 15))])
(.cond (.t 16) (.seq (.region false [] [
 oO 4 (.assign (.c (.int .i64 (-1))))])
(.ret)) (.skip)))
(.seq (.seq (.region false [] [
 oM 17 0,
 oM 18 1,
 oO 19 (.bin .gtr 2 (.t 17) (.t 18))])
(.cond (.t 19) (.seq (.region false [] [
 oO 4 (.assign (.c (.int .i64 1)))])
(.ret)) (.skip)))
(.seq (.region false [] [
 oO 4 (.assign (.c (.int .i64 0)))])
(.ret))))))))⟩

def f75 : DFn := ⟨24, [.tmp 4],
    .seq (.region false [] [
 oO 4 (.assign (.c (.bool false)))])
(.seq (.seq (.region false [] [
 oO 5 (.assign (.c (.int .i64 1)))])
(.block 0 (.loop (.seq (.seq (.region false [] [
 oM 6 5,
 oM 7 0,
 oO 8 (.len 18 (.t 7)),
 oO 9 (.bin .lss 2 (.t 6) (.t 8))])
(.cond (.t 9) (.skip) (.exit 0)))
(.seq (.block 1 (.seq (.region true [] [
 oM 12 1,
 oM 13 0,
 oM 14 5,
 oO 15 (.bin .sub 2 (.t 14) (.c (.int .i64 1))),
 oO 16 (.iaddr 18 (.t 13) (.t 15)),
 oO 17 (.load 19 (.t 16)),
 oM 18 0,
 oM 19 5,
 oO 20 (.iaddr 18 (.t 18) (.t 19)),
 oO 21 (.load 19 (.t 20)),
 oO 22 (.call 0 (.t 12) [(.t 17), (.t 21)]),
 oO 23 (.bin .geq 2 (.t 22) (.c (.int .i64 0)))])
(.cond (.t 23) (.seq (.region false [] [
 oO 4 (.assign (.c (.bool false)))])
(.ret)) (.skip))))
(.region false [] [
 oM 10 5,
 oO 11 (.bin .add 2 (.t 10) (.c (.int .i64 1))),
 oO 5 (.assign (.t 11))]))))))
(.seq (.region false [] [
 oO 4 (.assign (.c (.bool true)))])
(.ret)))⟩

def f76 : DFn := ⟨10, [.tmp 4],
    .seq (.region false [] [
 oO 2 (.box 19 (.t 0)),
 oO 3 (.box 19 (.t 1)),
 oO 4 (.assign (.c (.int .i64 0)))])
(.seq (.region false [] [
 oO 5 (.faddr 19 (.t 2) 0),
 oO 6 (.load 20 (.t 5)),
 oO 7 (.faddr 19 (.t 3) 0),
 oO 8 (.load 20 (.t 7)),
 oO 9 (.call 0 (.f 70) [(.t 6), (.t 8)]),
 oO 4 (.assign (.t 9))])
(.ret))⟩

def f83 : DFn := ⟨18, [.tmp 4],
    .seq (.region false [] [
 oO 2 (.box 0 (.t 0)),
 oO 4 (.assign (.c (.int .i64 0)))])
(.seq (.seq (.region false [] [
 oO 6 (.load 0 (.t 2)),
 oM 7 1,
 oO 8 (.call 0 (.f 66) [(.t 6), (.t 7)]),
 oO 5 (.assign (.t 8))])
(.seq (.region false [] [
 oM 9 5,
 oO 10 (.bin .neq 3 (.t 9) (.c (.int .i64 0)))])
(.cond (.t 10) (.seq (.region false [] [
 oM 11 5,
 oO 4 (.assign (.t 11))])
(.ret)) (.skip))))
(.seq (.seq (.region false [] [
 oM 12 1,
 oO 13 (.len 6 (.t 12)),
 oO 14 (.faddr 0 (.t 2) 2),
 oO 15 (.load 14 (.t 14)),
 oO 16 (.len 14 (.t 15)),
 oO 17 (.bin .neq 2 (.t 13) (.t 16))])
(.cond (.t 17) (.seq (.region false [] [
 oO 4 (.assign (.c (.int .i64 270)))])
(.ret)) (.skip)))
(.seq (.region false [] [
 oO 4 (.assign (.c (.int .i64 0)))])
(.ret))))⟩

def f84 : DFn := ⟨6, [.tmp 4],
    .seq (.region false [] [
 oO 2 (.box 0 (.t 0)),
 oO 3 (.box 6 (.t 1)),
 oO 4 (.assign (.c .nilfn))])
(.seq (.region false [] [
 oO 5 (.mkfn 110 [(.t 2), (.t 3)]),
 oO 4 (.assign (.t 5))])
(.ret))⟩

def f87 : DFn := ⟨36, [.tmp 4],
    .seq (.region false [] [
 oO 4 (.assign (.c (.int .i64 0)))])
(.seq (.seq (.region false [] [
 oM 9 0,
 oO 10 (.len 6 (.t 9)),
 oO 11 (.move (.c (.int .i64 0)))])
(.block 0 (.loop (.seq (.region false [] [
 oO 12 (.bin .lss 2 (.t 11) (.t 10))])
(.seq (.cond (.t 12) (.skip) (.exit 0))
(.seq (.block 1 (.seq (.region false [] [
 oM 13 11,
 oO 14 (.iaddr 6 (.t 9) (.t 11)),
 oO 15 (.load 2 (.t 14)),
 oO 5 (.assign (.t 13)),
 oO 6 (.assign (.t 15))])
(.seq (.seq (.region false [] [
 oM 16 5,
 oM 17 1,
 oO 18 (.len 6 (.t 17)),
 oO 19 (.bin .geq 2 (.t 16) (.t 18))])
(.cond (.t 19) (.seq (.region false [] [
 oO 4 (.assign (.c (.int .i64 1)))])
(.ret)) (.skip)))
(.seq (.region false [] [
 oM 20 1,
 oM 21 5,
 oO 22 (.iaddr 6 (.t 20) (.t 21)),
 oO 23 (.load 2 (.t 22)),
 oO 7 (.assign (.t 23))])
(.seq (.region false [] [
 oM 24 6,
 oM 25 7,
 oO 26 (.call 0 (.f 74) [(.t 24), (.t 25)]),
 oO 8 (.assign (.t 26))])
(.seq (.region false [] [
 oM 27 8,
 oO 28 (.bin .neq 2 (.t 27) (.c (.int .i64 0)))])
(.cond (.t 28) (.seq (.region false [] [
 oM 29 8,
 oO 4 (.assign (.t 29))])
(.ret)) (.skip))))))))
(.region false [] [
 oO 30 (.bin .add 2 (.t 11) (.c (.int .i64 1))),
 oM 11 30])))))))
(.seq (.seq (.region false [] [
 oM 31 0,
 oO 32 (.len 6 (.t 31)),
 oM 33 1,
 oO 34 (.len 6 (.t 33)),
 oO 35 (.bin .lss 2 (.t 32) (.t 34))])
(.cond (.t 35) (.seq (.region false [] [
 oO 4 (.assign (.c (.int .i64 (-1))))])
(.ret)) (.skip)))
(.seq (.region false [] [
 oO 4 (.assign (.c (.int .i64 0)))])
(.ret))))⟩

def f94 : DFn := ⟨9, [.tmp 4],
    .seq (.region false [] [
 oO 4 (.assign (.c (.bool false)))])
(.seq (.region false [] [
 oM 5 0,
 oM 6 1,
 oO 7 (.call 0 (.f 113) [(.t 5), (.t 6)]),
 oO 8 (.bin .geq 2 (.t 7) (.c (.int .i64 0))),
 oO 4 (.assign (.t 8))])
(.ret))⟩

def f96 : DFn := ⟨8, [.tmp 2],
    .seq (.region false [] [ oO 2 (.assign (.c (.imm .exact [])))]) (.seq (.region false [] [
 oO 5 (.bslice false 6 0 []),
 oM 6 0,
 oO 7 (.append 1 6 6 (.t 5) (.t 6)),
 oO 2 (.assign (.t 7))]) .ret)⟩

def f102 : DFn := ⟨43, [],
    .seq (.region false [] [
 oO 7 (.faddr 0 (.t 1) 2),
 oO 8 (.load 14 (.t 7)),
 oO 9 (.len 14 (.t 8)),
 oO 10 (.move (.c (.int .i64 0)))])
(.block 0 (.loop (.seq (.region false [] [
 oO 11 (.bin .lss 2 (.t 10) (.t 9))])
(.seq (.cond (.t 11) (.skip) (.exit 0))
(.seq (.block 1 (.seq (.region false [] [
 oM 12 10,
 oO 13 (.iaddr 14 (.t 8) (.t 10)),
 oO 14 (.load 15 (.t 13)),
 oO 5 (.alloc 15),
 oO 4 (.assign (.t 12)),
 oE (.store 15 (.t 5) (.t 14))])
(.seq (.region true [] [
 oO 15 (.faddr 15 (.t 5) 3),
 oO 16 (.load 16 (.t 15)),
 oO 17 (.iaddr 16 (.t 16) (.c (.int .i64 0))),
 oO 18 (.load 17 (.t 17)),
 oO 19 (.faddr 15 (.t 5) 3),
 oO 20 (.load 16 (.t 19)),
 oO 21 (.slice 16 (.t 20) (some (.c (.int .i64 1))) none none),
 oO 22 (.call 0 (.f 122) [(.t 18), (.t 21)]),
 oO 6 (.alloc 17),
 oE (.store 17 (.t 6) (.t 22))])
(.seq (.seq (.region false [] [
 oM 23 4,
 oO 24 (.load 1 (.t 2)),
 oO 25 (.len 1 (.t 24)),
 oO 26 (.bin .lss 2 (.t 23) (.t 25))])
(.cond (.t 26) (.region true [] [
 oO 27 (.faddr 15 (.t 5) 3),
 oO 28 (.load 16 (.t 27)),
 oO 29 (.load 1 (.t 2)),
 oM 30 4,
 oO 31 (.iaddr 1 (.t 29) (.t 30)),
 oO 32 (.load 2 (.t 31)),
 oO 33 (.iaddr 16 (.t 28) (.t 32)),
 oO 34 (.load 17 (.t 33)),
 oE (.store 17 (.t 6) (.t 34))]) (.skip)))
(.seq (.region false [] [
 oM 35 0,
 oO 36 (.faddr 15 (.t 5) 2),
 oO 37 (.load 6 (.t 36)),
 oO 38 (.len 6 (.t 37)),
 oO 39 (.load 17 (.t 6)),
 oO 40 (.call 2 (.t 35) [(.t 38), (.t 39)]),
 oO 41 (.un .not (.t 40))])
(.cond (.t 41) (.ret) (.skip)))))))
(.region false [] [
 oO 42 (.bin .add 2 (.t 10) (.c (.int .i64 1))),
 oM 10 42]))))))⟩

def f104 : DFn := ⟨6, [.tmp 4],
    .seq (.region false [] [
 oO 2 (.box 0 (.t 0)),
 oO 3 (.box 6 (.t 1)),
 oO 4 (.assign (.c .nilfn))])
(.seq (.region false [] [
 oO 5 (.mkfn 123 [(.t 3), (.t 2)]),
 oO 4 (.assign (.t 5))])
(.ret))⟩

def f105 : DFn := ⟨18, [.tmp 2],
    .seq (.region false [] [
 oO 2 (.assign (.c (.int .i64 0)))])
(.seq (.region false [] [
 oO 3 (.assign (.c (.int .i64 0)))])
(.seq (.seq (.region false [] [
 oM 6 0,
 oO 7 (.len 6 (.t 6)),
 oO 8 (.move (.c (.int .i64 0)))])
(.block 0 (.loop (.seq (.region false [] [
 oO 9 (.bin .lss 2 (.t 8) (.t 7))])
(.seq (.cond (.t 9) (.skip) (.exit 0))
(.seq (.block 1 (.seq (.region false [] [
 oO 10 (.iaddr 6 (.t 6) (.t 8)),
 oO 11 (.load 2 (.t 10)),
 oO 5 (.assign (.t 11))])
(.seq (.region false [] [
 oM 12 5,
 oM 13 3,
 oO 14 (.bin .neq 2 (.t 12) (.t 13))])
(.cond (.t 14) (.seq (.region false [] [
 oM 15 5,
 oO 2 (.assign (.t 15))])
(.ret)) (.skip)))))
(.region false [] [
 oO 16 (.bin .add 2 (.t 8) (.c (.int .i64 1))),
 oM 8 16])))))))
(.seq (.region false [] [
 oM 17 3,
 oO 2 (.assign (.t 17))])
(.ret))))⟩

def f106 : DFn := ⟨19, [.tmp 4],
    .seq (.region false [] [
 oO 4 (.assign (.c (.int .i64 0)))])
(.seq (.seq (.region false [] [
 oM 6 0,
 oO 7 (.len 6 (.t 6)),
 oO 8 (.move (.c (.int .i64 0)))])
(.block 0 (.loop (.seq (.region false [] [
 oO 9 (.bin .lss 2 (.t 8) (.t 7))])
(.seq (.cond (.t 9) (.skip) (.exit 0))
(.seq (.block 1 (.seq (.region false [] [
 oM 10 8,
 oO 5 (.assign (.t 10))])
(.seq (.region false [] [
 oM 11 1,
 oM 12 0,
 oM 13 5,
 oO 14 (.iaddr 6 (.t 12) (.t 13)),
 oO 15 (.load 2 (.t 14)),
 oO 16 (.call 0 (.t 11) [(.t 15)])])
(.cond (.t 16) (.seq (.region false [] [
 oM 17 5,
 oO 4 (.assign (.t 17))])
(.ret)) (.skip)))))
(.region false [] [
 oO 18 (.bin .add 2 (.t 8) (.c (.int .i64 1))),
 oM 8 18])))))))
(.seq (.region false [] [
 oO 4 (.assign (.c (.int .i64 (-1))))])
(.ret)))⟩

def f107 : DFn := ⟨6, [.tmp 2],
    .seq (.region false [] [
 oO 2 (.assign (.c (.bool false)))])
(.seq (.region false [] [
 oM 3 0,
 oM 4 0,
 oO 5 (.bin .neq 2 (.t 3) (.t 4)),
 oO 2 (.assign (.t 5))])
(.ret))⟩

def f110 : DFn := ⟨48, [],
    .seq (.region false [] [
 oO 9 (.load 0 (.t 1)),
 oO 10 (.load 6 (.t 2)),
 oO 11 (.call 0 (.f 68) [(.t 9), (.t 10)]),
 oO 12 (.len 9 (.t 11)),
 oO 13 (.move (.c (.int .i64 0)))])
(.block 0 (.loop (.seq (.region false [] [
 oO 14 (.bin .lss 2 (.t 13) (.t 12))])
(.seq (.cond (.t 14) (.skip) (.exit 0))
(.seq (.block 1 (.seq (.region false [] [
 oM 15 13,
 oO 16 (.iaddr 9 (.t 11) (.t 13)),
 oO 17 (.load 6 (.t 16)),
 oO 4 (.assign (.t 15)),
 oO 5 (.assign (.t 17))])
(.seq (.region false [] [
 oM 18 5,
 oO 19 (.len 6 (.t 18)),
 oO 20 (.move (.c (.int .i64 0)))])
(.block 2 (.loop (.seq (.region false [] [
 oO 21 (.bin .lss 2 (.t 20) (.t 19))])
(.seq (.cond (.t 21) (.skip) (.exit 2))
(.seq (.block 3 (.seq (.region false [] [
 oM 22 20,
 oO 23 (.iaddr 6 (.t 18) (.t 20)),
 oO 24 (.load 2 (.t 23)),
 oO 6 (.assign (.t 22)),
 oO 7 (.assign (.t 24))])
(.seq (.region false [] [
 oM 25 7,
 oO 26 (.faddr 0 (.t 1) 1),
 oO 27 (.load 9 (.t 26)),
 oM 28 4,
 oO 29 (.iaddr 9 (.t 27) (.t 28)),
 oO 30 (.load 6 (.t 29)),
 oM 31 6,
 oO 32 (.iaddr 6 (.t 30) (.t 31)),
 oO 33 (.load 2 (.t 32)),
 oO 34 (.bin .sub 2 (.t 25) (.t 33)),
 oO 8 (.assign (.t 34))])
(.seq (.region false [] [
 oM 35 8,
 oO 36 (.bin .gtr 2 (.t 35) (.c (.int .i64 0))),
 oM 37 36,
⟨(some 38), .move (.t 0), (some (37, true))⟩,
⟨(some 39), .move (.t 4), (some (37, true))⟩,
⟨(some 40), .move (.t 6), (some (37, true))⟩,
⟨(some 41), .build 11 [(0, (.t 39)), (1, (.t 40))], (some (37, true))⟩,
⟨(some 42), .move (.t 8), (some (37, true))⟩,
⟨(some 43), .call 2 (.t 38) [(.t 41), (.t 42)], (some (37, true))⟩,
⟨(some 44), .un .not (.t 43), (some (37, true))⟩,
 oO 45 (.pick (.t 37) (.t 44) (.c (.bool false)))])
(.cond (.t 45) (.ret) (.skip))))))
(.region false [] [
 oO 46 (.bin .add 2 (.t 20) (.c (.int .i64 1))),
 oM 20 46])))))))))
(.region false [] [
 oO 47 (.bin .add 2 (.t 13) (.c (.int .i64 1))),
 oM 13 47]))))))⟩

def f113 : DFn := ⟨19, [.tmp 4],
    .seq (.region false [] [
 oO 4 (.assign (.c (.int .i64 0)))])
(.seq (.seq (.region false [] [
 oM 6 0,
 oO 7 (.len 9 (.t 6)),
 oO 8 (.move (.c (.int .i64 0)))])
(.block 0 (.loop (.seq (.region false [] [
 oO 9 (.bin .lss 2 (.t 8) (.t 7))])
(.seq (.cond (.t 9) (.skip) (.exit 0))
(.seq (.block 1 (.seq (.region false [] [
 oM 10 8,
 oO 5 (.assign (.t 10))])
(.seq (.region false [] [
 oM 11 1,
 oM 12 0,
 oM 13 5,
 oO 14 (.iaddr 9 (.t 12) (.t 13)),
 oO 15 (.load 6 (.t 14)),
 oO 16 (.call 0 (.t 11) [(.t 15)])])
(.cond (.t 16) (.seq (.region false [] [
 oM 17 5,
 oO 4 (.assign (.t 17))])
(.ret)) (.skip)))))
(.region false [] [
 oO 18 (.bin .add 2 (.t 8) (.c (.int .i64 1))),
 oM 8 18])))))))
(.seq (.region false [] [
 oO 4 (.assign (.c (.int .i64 (-1))))])
(.ret)))⟩

def f122 : DFn := ⟨33, [.cell 4 17],
    .seq (.region false [] [
 oO 2 (.box 17 (.t 0)),
 oO 4 (.alloc 17)])
(.seq (.seq (.region false [] [
 oM 7 1,
 oO 8 (.len 16 (.t 7)),
 oO 9 (.move (.c (.int .i64 0)))])
(.block 0 (.loop (.seq (.region false [] [
 oO 10 (.bin .lss 2 (.t 9) (.t 8))])
(.seq (.cond (.t 10) (.skip) (.exit 0))
(.seq (.block 1 (.seq (.region false [] [
 oO 11 (.iaddr 16 (.t 7) (.t 9)),
 oO 12 (.load 17 (.t 11)),
 oO 6 (.alloc 17),
 oE (.store 17 (.t 6) (.t 12))])
(.seq (.region false [] [
 oO 13 (.faddr 17 (.t 2) 0),
 oO 14 (.load 2 (.t 13)),
 oO 15 (.faddr 17 (.t 6) 0),
 oO 16 (.load 2 (.t 15)),
 oO 17 (.mini [(.t 14), (.t 16)]),
 oO 18 (.faddr 17 (.t 2) 0),
 oE (.store 2 (.t 18) (.t 17))])
(.seq (.region false [] [
 oO 19 (.faddr 17 (.t 2) 1),
 oO 20 (.load 2 (.t 19)),
 oO 21 (.faddr 17 (.t 6) 1),
 oO 22 (.load 2 (.t 21)),
 oO 23 (.mini [(.t 20), (.t 22)]),
 oO 24 (.faddr 17 (.t 2) 1),
 oE (.store 2 (.t 24) (.t 23))])
(.region false [] [
 oO 25 (.faddr 17 (.t 2) 2),
 oO 26 (.load 2 (.t 25)),
 oO 27 (.faddr 17 (.t 6) 2),
 oO 28 (.load 2 (.t 27)),
 oO 29 (.mini [(.t 26), (.t 28)]),
 oO 30 (.faddr 17 (.t 2) 2),
 oE (.store 2 (.t 30) (.t 29))])))))
(.region false [] [
 oO 31 (.bin .add 2 (.t 9) (.c (.int .i64 1))),
 oM 9 31])))))))
(.seq (.region false [] [
 oO 32 (.load 17 (.t 2)),
 oE (.store 17 (.t 4) (.t 32))])
(.ret)))⟩

def f123 : DFn := ⟨51, [],
    .seq (.region false [] [
 oO 10 (.load 6 (.t 1)),
 oO 11 (.len 6 (.t 10)),
 oO 12 (.move (.c (.int .i64 0)))])
(.block 0 (.loop (.seq (.region false [] [
 oO 13 (.bin .lss 2 (.t 12) (.t 11))])
(.seq (.cond (.t 13) (.skip) (.exit 0))
(.seq (.block 1 (.seq (.region false [] [
 oM 14 12,
 oO 15 (.iaddr 6 (.t 10) (.t 12)),
 oO 16 (.load 2 (.t 15)),
 oO 4 (.assign (.t 14)),
 oO 5 (.assign (.t 16))])
(.seq (.region false [] [
 oO 17 (.faddr 0 (.t 2) 2),
 oO 18 (.load 14 (.t 17)),
 oM 19 4,
 oO 20 (.iaddr 14 (.t 18) (.t 19)),
 oO 21 (.faddr 15 (.t 20) 2),
 oO 22 (.load 6 (.t 21)),
 oO 23 (.len 6 (.t 22)),
 oO 24 (.move (.c (.int .i64 0)))])
(.block 2 (.loop (.seq (.region false [] [
 oO 25 (.bin .lss 2 (.t 24) (.t 23))])
(.seq (.cond (.t 25) (.skip) (.exit 2))
(.seq (.block 3 (.seq (.region false [] [
 oO 26 (.iaddr 6 (.t 22) (.t 24)),
 oO 27 (.load 2 (.t 26)),
 oO 7 (.assign (.t 27))])
(.seq (.region false [] [
 oO 28 (.faddr 0 (.t 2) 2),
 oO 29 (.load 14 (.t 28)),
 oM 30 4,
 oO 31 (.iaddr 14 (.t 29) (.t 30)),
 oO 32 (.faddr 15 (.t 31) 3),
 oO 33 (.load 16 (.t 32)),
 oM 34 5,
 oO 35 (.iaddr 16 (.t 33) (.t 34)),
 oO 36 (.faddr 17 (.t 35) 3),
 oO 37 (.load 18 (.t 36)),
 oO 38 (.len 18 (.t 37)),
 oO 39 (.move (.c (.int .i64 0)))])
(.block 4 (.loop (.seq (.region false [] [
 oO 40 (.bin .lss 2 (.t 39) (.t 38))])
(.seq (.cond (.t 40) (.skip) (.exit 4))
(.seq (.block 5 (.seq (.region false [] [
 oO 41 (.iaddr 18 (.t 37) (.t 39)),
 oO 42 (.load 19 (.t 41)),
 oO 9 (.alloc 19),
 oE (.store 19 (.t 9) (.t 42))])
(.seq (.region false [] [
 oM 43 0,
 oM 44 7,
 oO 45 (.load 19 (.t 9)),
 oO 46 (.call 2 (.t 43) [(.t 44), (.t 45)]),
 oO 47 (.un .not (.t 46))])
(.cond (.t 47) (.ret) (.skip)))))
(.region false [] [
 oO 48 (.bin .add 2 (.t 39) (.c (.int .i64 1))),
 oM 39 48])))))))))
(.region false [] [
 oO 49 (.bin .add 2 (.t 24) (.c (.int .i64 1))),
 oM 24 49])))))))))
(.region false [] [
 oO 50 (.bin .add 2 (.t 12) (.c (.int .i64 1))),
 oM 12 50]))))))⟩

def f129 : DFn := ⟨10, [.tmp 2],
    .seq (.region false [] [
 oO 1 (.box 0 (.t 0)),
 oO 2 (.assign (.c (.bool false)))])
(.seq (.region false [] [
 oO 3 (.load 0 (.t 1)),
 oO 4 (.call 0 (.f 2) [(.t 3)]),
 oM 5 4,
⟨(some 6), .load 0 (.t 1), (some (5, true))⟩,
⟨(some 7), .call 0 (.f 61) [(.t 6), (.c (.int .i64 400))], (some (5, true))⟩,
⟨(some 8), .bin .leq 2 (.t 7) (.c (.int .i64 300)), (some (5, true))⟩,
 oO 9 (.pick (.t 5) (.t 8) (.c (.bool false))),
 oO 2 (.assign (.t 9))])
(.ret))⟩

def f131 : DFn := ⟨21, [.cell 2 29, .tmp 3],
    .seq (.region false [] [
 oO 1 (.box 0 (.t 0)),
 oO 2 (.alloc 29),
 oO 3 (.assign (.c (.int .i64 0)))])
(.seq (.region false [] [
 oO 6 (.load 0 (.t 1)),
 oO 7 (.call 0 (.f 139) [(.t 6)]),
 oM 5 7,
 oO 8 (.extract (.t 5) 0),
 oO 9 (.extract (.t 5) 1),
 oO 4 (.alloc 28),
 oE (.store 28 (.t 4) (.t 8)),
 oO 3 (.assign (.t 9))])
(.seq (.seq (.region false [] [
 oM 10 3,
 oO 11 (.bin .neq 3 (.t 10) (.c (.int .i64 0)))])
(.cond (.t 11) (.seq (.region false [] [
 oO 12 (.load 29 (.t 2)),
 oM 13 3,
 oE (.store 29 (.t 2) (.t 12)),
 oO 3 (.assign (.t 13))])
(.ret)) (.skip)))
(.seq (.region true [] [
 oO 14 (.load 0 (.t 1)),
 oO 15 (.load 0 (.t 1)),
 oO 16 (.load 28 (.t 4)),
 oO 17 (.call 0 (.f 150) [(.t 15), (.t 16), (.f 151)]),
 oO 18 (.call 0 (.f 133) [(.t 14), (.t 17)]),
 oO 19 (.extract (.t 18) 0),
 oO 20 (.extract (.t 18) 1),
 oE (.store 29 (.t 2) (.t 19)),
 oO 3 (.assign (.t 20))])
(.ret))))⟩

def f133 : DFn := ⟨31, [.cell 4 29, .tmp 5],
    .seq (.region false [] [
 oO 2 (.box 0 (.t 0)),
 oO 3 (.box 28 (.t 1)),
 oO 4 (.alloc 29),
 oO 5 (.assign (.c (.int .i64 0)))])
(.seq (.seq (.region false [] [
 oO 7 (.load 0 (.t 2)),
 oO 8 (.load 28 (.t 3)),
 oO 9 (.call 0 (.f 142) [(.t 7), (.t 8)]),
 oO 6 (.assign (.t 9))])
(.seq (.region false [] [
 oM 10 6,
 oO 11 (.bin .neq 3 (.t 10) (.c (.int .i64 0)))])
(.cond (.t 11) (.seq (.region false [] [
 oO 12 (.load 29 (.t 4)),
 oM 13 6,
 oE (.store 29 (.t 4) (.t 12)),
 oO 5 (.assign (.t 13))])
(.ret)) (.skip))))
(.seq (.seq (.region false [] [
 oO 14 (.load 28 (.t 3)),
 oO 15 (.call 0 (.f 140) [(.t 14)]),
 oO 16 (.un .not (.t 15)),
 oM 17 16,
⟨(some 18), .faddr 28 (.t 3) 2, (some (17, false))⟩,
⟨(some 19), .load 6 (.t 18), (some (17, false))⟩,
⟨(some 20), .len 6 (.t 19), (some (17, false))⟩,
⟨(some 21), .bin .eql 2 (.t 20) (.c (.int .i64 0)), (some (17, false))⟩,
 oO 22 (.pick (.t 17) (.c (.bool true)) (.t 21))])
(.cond (.t 22) (.seq (.region false [] [
 oO 23 (.load 29 (.t 4)),
 oE (.store 29 (.t 4) (.t 23)),
 oO 5 (.assign (.c (.int .i64 300)))])
(.ret)) (.skip)))
(.seq (.region false [] [
 oO 24 (.faddr 28 (.t 3) 1),
 oO 25 (.load 6 (.t 24)),
 oO 26 (.faddr 28 (.t 3) 2),
 oO 27 (.load 6 (.t 26)),
 oO 28 (.faddr 28 (.t 3) 3),
 oO 29 (.load 31 (.t 28)),
 oO 30 (.build 29 [(0, (.t 25)), (1, (.t 27)), (2, (.t 29))]),
 oE (.store 29 (.t 4) (.t 30)),
 oO 5 (.assign (.c (.int .i64 0)))])
(.ret))))⟩

def f139 : DFn := ⟨14, [.cell 2 28, .tmp 3],
    .seq (.region false [] [
 oO 1 (.box 0 (.t 0)),
 oO 2 (.alloc 28),
 oO 3 (.assign (.c (.int .i64 0)))])
(.seq (.seq (.region false [] [
 oO 5 (.load 0 (.t 1)),
 oO 6 (.call 0 (.f 15) [(.t 5)]),
 oO 4 (.assign (.t 6))])
(.seq (.region false [] [
 oM 7 4,
 oO 8 (.bin .neq 3 (.t 7) (.c (.int .i64 0)))])
(.cond (.t 8) (.seq (.region false [] [
 oO 9 (.load 28 (.t 2)),
 oM 10 4,
 oE (.store 28 (.t 2) (.t 9)),
 oO 3 (.assign (.t 10))])
(.ret)) (.skip))))
(.seq (.region false [] [
 oO 11 (.bslice false 1 0 []),
 oO 12 (.bslice false 4 1 [(0, (.t 11))]),
 oO 13 (.build 28 [(0, (.t 12))]),
 oE (.store 28 (.t 2) (.t 13)),
 oO 3 (.assign (.c (.int .i64 0)))])
(.ret)))⟩

def f140 : DFn := ⟨7, [.tmp 2],
    .seq (.region false [] [
 oO 1 (.box 28 (.t 0)),
 oO 2 (.assign (.c (.bool false)))])
(.seq (.region false [] [
 oO 3 (.faddr 28 (.t 1) 0),
 oO 4 (.load 4 (.t 3)),
 oO 5 (.len 4 (.t 4)),
 oO 6 (.bin .eql 2 (.t 5) (.c (.int .i64 0))),
 oO 2 (.assign (.t 6))])
(.ret))⟩

def f142 : DFn := ⟨51, [.tmp 4],
    .seq (.region false [] [
 oO 2 (.box 0 (.t 0)),
 oO 3 (.box 28 (.t 1)),
 oO 4 (.assign (.c (.int .i64 0)))])
(.seq (.seq (.region false [] [
 oO 9 (.load 0 (.t 2)),
 oO 10 (.call 0 (.f 15) [(.t 9)]),
 oO 5 (.assign (.t 10))])
(.seq (.region false [] [
 oM 11 5,
 oO 12 (.bin .neq 3 (.t 11) (.c (.int .i64 0)))])
(.cond (.t 12) (.seq (.region false [] [
 oM 13 5,
 oO 4 (.assign (.t 13))])
(.ret)) (.skip))))
(.seq (.region false [] [
 oO 14 (.mkfn 157 [(.t 2)]),
 oO 6 (.alloc 33),
 oE (.store 33 (.t 6) (.t 14))])
(.seq (.seq (.region false [] [
 oO 15 (.faddr 28 (.t 3) 0),
 oO 16 (.load 4 (.t 15)),
 oO 17 (.mkfn 158 [(.t 2)]),
 oO 18 (.call 3 (.f 159) [(.t 16), (.t 17)]),
 oM 19 18,
⟨(some 20), .faddr 28 (.t 3) 3, (some (19, false))⟩,
⟨(some 21), .load 31 (.t 20), (some (19, false))⟩,
⟨(some 22), .mkfn 160 [(.t 6)], (some (19, false))⟩,
⟨(some 23), .call 3 (.f 161) [(.t 21), (.t 22)], (some (19, false))⟩,
 oO 24 (.pick (.t 19) (.c (.bool true)) (.t 23))])
(.cond (.t 24) (.seq (.region false [] [
 oO 4 (.assign (.c (.int .i64 300)))])
(.ret)) (.skip)))
(.seq (.seq (.region false [] [
 oO 25 (.faddr 28 (.t 3) 2),
 oO 26 (.load 6 (.t 25)),
 oO 27 (.len 6 (.t 26)),
 oO 28 (.bin .eql 2 (.t 27) (.c (.int .i64 0))),
 oM 29 28,
⟨(some 30), .faddr 28 (.t 3) 1, (some (29, true))⟩,
⟨(some 31), .load 6 (.t 30), (some (29, true))⟩,
⟨(some 32), .len 6 (.t 31), (some (29, true))⟩,
⟨(some 33), .bin .eql 2 (.t 32) (.c (.int .i64 0)), (some (29, true))⟩,
 oO 34 (.pick (.t 29) (.t 33) (.c (.bool false)))])
(.cond (.t 34) (.seq (.region false [] [
 oO 4 (.assign (.c (.int .i64 0)))])
(.ret)) (.skip)))
(.seq (.seq (.region false [] [
 oO 36 (.load 0 (.t 2)),
 oO 37 (.faddr 28 (.t 3) 1),
 oO 38 (.load 6 (.t 37)),
 oO 39 (.call 0 (.f 22) [(.t 36), (.t 38)]),
 oM 35 39,
 oO 40 (.extract (.t 35) 0),
 oO 41 (.extract (.t 35) 1),
 oO 7 (.assign (.t 40)),
 oO 8 (.assign (.t 41))])
(.seq (.region false [] [
 oM 42 8,
 oO 43 (.bin .neq 3 (.t 42) (.c (.int .i64 0))),
 oM 44 43,
⟨(some 45), .move (.t 7), (some (44, false))⟩,
⟨(some 46), .faddr 28 (.t 3) 2, (some (44, false))⟩,
⟨(some 47), .load 6 (.t 46), (some (44, false))⟩,
⟨(some 48), .call 0 (.f 162) [(.t 45), (.t 47)], (some (44, false))⟩,
⟨(some 49), .un .not (.t 48), (some (44, false))⟩,
 oO 50 (.pick (.t 44) (.c (.bool true)) (.t 49))])
(.cond (.t 50) (.seq (.region false [] [
 oO 4 (.assign (.c (.int .i64 300)))])
(.ret)) (.skip))))
(.seq (.region false [] [
 oO 4 (.assign (.c (.int .i64 0)))])
(.ret)))))))⟩

def f150 : DFn := ⟨103, [.cell 6 28],
    .seq (.region false [] [
 oO 3 (.box 0 (.t 0)),
 oO 4 (.box 28 (.t 1)),
 oO 6 (.alloc 28)])
(.seq (.region false [] [
 oO 17 (.faddr 28 (.t 4) 0),
 oO 18 (.load 4 (.t 17)),
 oO 19 (.call 0 (.f 165) [(.t 18)]),
 oO 7 (.alloc 35),
 oE (.store 35 (.t 7) (.t 19))])
(.seq (.region false [] [
 oO 20 (.faddr 28 (.t 4) 3),
 oO 21 (.load 31 (.t 20)),
 oO 22 (.call 0 (.f 166) [(.t 21)]),
 oO 23 (.faddr 28 (.t 4) 3),
 oE (.store 31 (.t 23) (.t 22))])
(.seq (.region false [] [
 oO 24 (.mkfn 167 [(.t 4)]),
 oO 8 (.assign (.t 24))])
(.seq (.block 0 (.loop (.seq (.seq (.region false [] [
 oO 25 (.load 35 (.t 7)),
 oO 26 (.len 35 (.t 25)),
 oO 27 (.bin .gtr 2 (.t 26) (.c (.int .i64 0))),
 oM 28 27,
⟨(some 29), .move (.t 2), (some (28, true))⟩,
⟨(some 30), .call 2 (.t 29) [], (some (28, true))⟩,
 oO 31 (.pick (.t 28) (.t 30) (.c (.bool false)))])
(.cond (.t 31) (.skip) (.exit 0)))
(.block 1 (.seq (.region false [] [
 oO 9 (.assign (.c (.imm .exact [])))])
(.seq (.region false [] [
 oO 33 (.load 35 (.t 7)),
 oO 34 (.call 0 (.f 168) [(.t 33)]),
 oM 32 34,
 oO 35 (.extract (.t 32) 0),
 oO 36 (.extract (.t 32) 1),
 oO 9 (.assign (.t 35)),
 oE (.store 35 (.t 7) (.t 36))])
(.seq (.seq (.region false [] [
 oM 37 9,
 oO 38 (.len 1 (.t 37)),
 oO 39 (.faddr 0 (.t 3) 2),
 oO 40 (.load 14 (.t 39)),
 oO 41 (.len 14 (.t 40)),
 oO 42 (.bin .eql 2 (.t 38) (.t 41))])
(.cond (.t 42) (.seq (.region false [] [
 oO 44 (.load 0 (.t 3)),
 oM 45 9,
 oO 46 (.call 0 (.f 22) [(.t 44), (.t 45)]),
 oM 43 46,
 oO 47 (.extract (.t 43) 0),
 oO 48 (.extract (.t 43) 1),
 oO 10 (.assign (.t 47)),
 oO 11 (.assign (.t 48))])
(.seq (.seq (.region false [] [
 oO 49 (.faddr 28 (.t 4) 2),
 oO 50 (.load 6 (.t 49)),
 oO 51 (.len 6 (.t 50)),
 oO 52 (.bin .eql 2 (.t 51) (.c (.int .i64 0))),
 oM 53 52,
⟨(some 54), .move (.t 10), (some (53, false))⟩,
⟨(some 55), .faddr 28 (.t 4) 2, (some (53, false))⟩,
⟨(some 56), .load 6 (.t 55), (some (53, false))⟩,
⟨(some 57), .call 0 (.f 87) [(.t 54), (.t 56)], (some (53, false))⟩,
⟨(some 58), .bin .lss 2 (.t 57) (.c (.int .i64 0)), (some (53, false))⟩,
 oO 59 (.pick (.t 53) (.c (.bool true)) (.t 58))])
(.cond (.t 59) (.region false [] [
 oM 60 9,
 oM 61 10,
 oO 62 (.faddr 28 (.t 4) 1),
 oE (.store 6 (.t 62) (.t 60)),
 oO 63 (.faddr 28 (.t 4) 2),
 oE (.store 6 (.t 63) (.t 61))]) (.skip)))
(.seq (.region false [] [
 oM 64 8,
 oM 65 9,
 oO 66 (.call 2 (.t 64) [(.t 65), (.c (.int .i64 1))])])
(.exit 1)))) (.skip)))
(.seq (.seq (.region false [] [
 oO 68 (.load 0 (.t 3)),
 oM 69 9,
 oO 70 (.call 0 (.f 3) [(.t 68), (.t 69)]),
 oM 67 70,
 oO 71 (.extract (.t 67) 0),
 oO 72 (.extract (.t 67) 1),
 oO 12 (.assign (.t 71)),
 oO 13 (.assign (.t 72))])
(.seq (.region false [] [
 oO 73 (.faddr 28 (.t 4) 2),
 oO 74 (.load 6 (.t 73)),
 oO 75 (.len 6 (.t 74)),
 oO 76 (.bin .gtr 2 (.t 75) (.c (.int .i64 0))),
 oM 77 76,
⟨(some 78), .move (.t 12), (some (77, true))⟩,
⟨(some 79), .faddr 28 (.t 4) 2, (some (77, true))⟩,
⟨(some 80), .load 6 (.t 79), (some (77, true))⟩,
⟨(some 81), .call 0 (.f 87) [(.t 78), (.t 80)], (some (77, true))⟩,
⟨(some 82), .bin .geq 2 (.t 81) (.c (.int .i64 0)), (some (77, true))⟩,
 oO 83 (.pick (.t 77) (.t 82) (.c (.bool false)))])
(.cond (.t 83) (.seq (.region false [] [
 oM 84 8,
 oM 85 9,
 oO 86 (.call 2 (.t 84) [(.t 85), (.c (.int .i64 2))])])
(.exit 1)) (.skip))))
(.seq (.region false [] [
 oO 88 (.load 0 (.t 3)),
 oM 89 9,
 oO 90 (.call 0 (.f 7) [(.t 88), (.t 89)]),
 oM 87 90,
 oO 91 (.extract (.t 87) 0),
 oO 92 (.extract (.t 87) 1),
 oO 14 (.assign (.t 91)),
 oO 15 (.assign (.t 92))])
(.seq (.region false [] [
 oM 93 14,
 oO 94 (.call 0 (.f 169) [(.t 93)])])
(.block 2 (.rfunc (.t 94) [95] (.region false [] [
 oO 16 (.assign (.t 95))]) (.block 3 (.region false [] [
 oO 96 (.load 35 (.t 7)),
 oM 97 16,
 oO 98 (.bslice false 35 1 [(0, (.t 97))]),
 oO 99 (.append 0 35 35 (.t 96) (.t 98)),
 oE (.store 35 (.t 7) (.t 99))]))))))))))))))
(.seq (.region false [] [
 oO 100 (.load 35 (.t 7)),
 oO 101 (.faddr 28 (.t 4) 0),
 oE (.store 4 (.t 101) (.t 100))])
(.seq (.region false [] [
 oO 102 (.load 28 (.t 4)),
 oE (.store 28 (.t 6) (.t 102))])
(.ret)))))))⟩

def f151 : DFn := ⟨1, [.tmp 0],
    .seq (.region false [] [
 oO 0 (.assign (.c (.bool false)))])
(.seq (.region false [] [
 oO 0 (.assign (.c (.bool true)))])
(.ret))⟩

def f157 : DFn := ⟨35, [.tmp 3],
    .seq (.region false [] [
 oO 2 (.box 32 (.t 0)),
 oO 3 (.assign (.c (.bool false)))])
(.seq (.region false [] [
 oO 5 (.faddr 32 (.t 2) 1),
 oO 6 (.load 2 (.t 5)),
 oO 7 (.bin .eql 2 (.t 6) (.c (.int .i64 1))),
 oM 8 7,
⟨(some 9), .faddr 32 (.t 2) 0, (some (8, true))⟩,
⟨(some 10), .load 1 (.t 9), (some (8, true))⟩,
⟨(some 11), .len 1 (.t 10), (some (8, true))⟩,
⟨(some 12), .faddr 0 (.t 1) 2, (some (8, true))⟩,
⟨(some 13), .load 14 (.t 12), (some (8, true))⟩,
⟨(some 14), .len 14 (.t 13), (some (8, true))⟩,
⟨(some 15), .bin .eql 2 (.t 11) (.t 14), (some (8, true))⟩,
 oO 16 (.pick (.t 8) (.t 15) (.c (.bool false))),
 oO 4 (.assign (.t 16))])
(.seq (.region false [] [
 oO 17 (.load 0 (.t 1)),
 oO 18 (.faddr 32 (.t 2) 0),
 oO 19 (.load 1 (.t 18)),
 oO 20 (.call 0 (.f 172) [(.t 17), (.t 19)]),
 oM 21 20,
⟨(some 22), .faddr 32 (.t 2) 2, (some (21, true))⟩,
⟨(some 23), .load 9 (.t 22), (some (21, true))⟩,
⟨(some 24), .len 9 (.t 23), (some (21, true))⟩,
⟨(some 25), .bin .eql 2 (.t 24) (.c (.int .i64 0)), (some (21, true))⟩,
 oO 26 (.pick (.t 21) (.t 25) (.c (.bool false))),
 oM 27 26,
⟨(some 28), .move (.t 4), (some (27, true))⟩,
⟨(some 29), .move (.t 28), (some (27, true))⟩,
⟨(some 30), .faddr 32 (.t 2) 1, (some (29, false))⟩,
⟨(some 31), .load 2 (.t 30), (some (29, false))⟩,
⟨(some 32), .bin .eql 2 (.t 31) (.c (.int .i64 2)), (some (29, false))⟩,
⟨(some 33), .pick (.t 29) (.c (.bool true)) (.t 32), (some (27, true))⟩,
 oO 34 (.pick (.t 27) (.t 33) (.c (.bool false))),
 oO 3 (.assign (.t 34))])
(.ret)))⟩

def f158 : DFn := ⟨8, [.tmp 3],
    .seq (.region false [] [
 oO 3 (.assign (.c (.bool false)))])
(.seq (.region false [] [
 oO 4 (.load 0 (.t 1)),
 oM 5 0,
 oO 6 (.call 0 (.f 172) [(.t 4), (.t 5)]),
 oO 7 (.un .not (.t 6)),
 oO 3 (.assign (.t 7))])
(.ret))⟩

def f159 : DFn := ⟨9, [.tmp 4],
    .seq (.region false [] [
 oO 4 (.assign (.c (.bool false)))])
(.seq (.region false [] [
 oM 5 0,
 oM 6 1,
 oO 7 (.call 0 (.f 173) [(.t 5), (.t 6)]),
 oO 8 (.bin .geq 2 (.t 7) (.c (.int .i64 0))),
 oO 4 (.assign (.t 8))])
(.ret))⟩

def f160 : DFn := ⟨8, [.tmp 3],
    .seq (.region false [] [
 oO 2 (.box 32 (.t 0)),
 oO 3 (.assign (.c (.bool false)))])
(.seq (.region false [] [
 oO 4 (.load 33 (.t 1)),
 oO 5 (.load 32 (.t 2)),
 oO 6 (.call 0 (.t 4) [(.t 5)]),
 oO 7 (.un .not (.t 6)),
 oO 3 (.assign (.t 7))])
(.ret))⟩

def f161 : DFn := ⟨9, [.tmp 4],
    .seq (.region false [] [
 oO 4 (.assign (.c (.bool false)))])
(.seq (.region false [] [
 oM 5 0,
 oM 6 1,
 oO 7 (.call 0 (.f 174) [(.t 5), (.t 6)]),
 oO 8 (.bin .geq 2 (.t 7) (.c (.int .i64 0))),
 oO 4 (.assign (.t 8))])
(.ret))⟩

def f162 : DFn := ⟨26, [.tmp 4],
    .seq (.region false [] [
 oO 4 (.assign (.c (.bool false)))])
(.seq (.seq (.region false [] [
 oM 6 0,
 oO 7 (.len 6 (.t 6)),
 oM 8 1,
 oO 9 (.len 6 (.t 8)),
 oO 10 (.bin .neq 2 (.t 7) (.t 9))])
(.cond (.t 10) (.seq (.region false [] [
 oO 4 (.assign (.c (.bool false)))])
(.ret)) (.skip)))
(.seq (.seq (.region false [] [
 oM 11 0,
 oO 12 (.len 6 (.t 11)),
 oO 13 (.move (.c (.int .i64 0)))])
(.block 0 (.loop (.seq (.region false [] [
 oO 14 (.bin .lss 2 (.t 13) (.t 12))])
(.seq (.cond (.t 14) (.skip) (.exit 0))
(.seq (.block 1 (.seq (.region false [] [
 oM 15 13,
 oO 5 (.assign (.t 15))])
(.seq (.region true [] [
 oM 16 0,
 oM 17 5,
 oO 18 (.iaddr 6 (.t 16) (.t 17)),
 oO 19 (.load 2 (.t 18)),
 oM 20 1,
 oM 21 5,
 oO 22 (.iaddr 6 (.t 20) (.t 21)),
 oO 23 (.load 2 (.t 22)),
 oO 24 (.bin .neq 2 (.t 19) (.t 23))])
(.cond (.t 24) (.seq (.region false [] [
 oO 4 (.assign (.c (.bool false)))])
(.ret)) (.skip)))))
(.region false [] [
 oO 25 (.bin .add 2 (.t 13) (.c (.int .i64 1))),
 oM 13 25])))))))
(.seq (.region false [] [
 oO 4 (.assign (.c (.bool true)))])
(.ret))))⟩

def f165 : DFn := ⟨8, [.tmp 2],
    .seq (.region false [] [ oO 2 (.assign (.c (.imm .exact [])))]) (.seq (.region false [] [
 oO 5 (.bslice false 4 0 []),
 oM 6 0,
 oO 7 (.append 1 4 4 (.t 5) (.t 6)),
 oO 2 (.assign (.t 7))]) .ret)⟩

def f166 : DFn := ⟨9, [.tmp 2],
    .seq (.region false [] [
 oO 2 (.assign (.c (.imm .exact [])))])
(.seq (.region false [] [
 oM 3 0,
 oM 4 0,
 oO 5 (.len 31 (.t 4)),
 oM 6 0,
 oO 7 (.len 31 (.t 6)),
 oO 8 (.slice 31 (.t 3) none (some (.t 5)) (some (.t 7))),
 oO 2 (.assign (.t 8))])
(.ret))⟩

def f167 : DFn := ⟨13, [],
    .region false [] [
 oO 5 (.faddr 28 (.t 2) 3),
 oO 6 (.load 31 (.t 5)),
 oM 7 0,
 oM 8 1,
 oO 9 (.build 32 [(0, (.t 7)), (1, (.t 8))]),
 oO 10 (.bslice false 31 1 [(0, (.t 9))]),
 oO 11 (.append 0 31 31 (.t 6) (.t 10)),
 oO 12 (.faddr 28 (.t 2) 3),
 oE (.store 31 (.t 12) (.t 11))]⟩

def f168 : DFn := ⟨16, [.tmp 2, .tmp 3],
    .seq (.region false [] [
 oO 2 (.assign (.c (.imm .exact []))),
 oO 3 (.assign (.c (.imm .exact [])))])
(.seq (.region false [] [
 oM 5 0,
 oO 6 (.len 35 (.t 5)),
 oO 7 (.bin .sub 2 (.t 6) (.c (.int .i64 1))),
 oO 4 (.assign (.t 7))])
(.seq (.region true [] [
 oM 8 0,
 oM 9 4,
 oO 10 (.iaddr 35 (.t 8) (.t 9)),
 oO 11 (.load 1 (.t 10)),
 oM 12 0,
 oM 13 4,
 oO 14 (.slice 35 (.t 12) none (some (.t 13)) none),
 oO 15 (.call 0 (.f 175) [(.t 14)]),
 oO 2 (.assign (.t 11)),
 oO 3 (.assign (.t 15))])
(.ret)))⟩

def f169 : DFn := ⟨4, [.tmp 2],
    .seq (.region false [] [
 oO 1 (.box 4 (.t 0)),
 oO 2 (.assign (.c .nilfn))])
(.seq (.region false [] [
 oO 3 (.mkfn 176 [(.t 1)]),
 oO 2 (.assign (.t 3))])
(.ret))⟩

def f172 : DFn := ⟨34, [.tmp 4],
    .seq (.region false [] [
 oO 2 (.box 0 (.t 0)),
 oO 4 (.assign (.c (.bool false)))])
(.seq (.seq (.region false [] [
 oM 7 1,
 oO 8 (.len 1 (.t 7)),
 oO 9 (.faddr 0 (.t 2) 2),
 oO 10 (.load 14 (.t 9)),
 oO 11 (.len 14 (.t 10)),
 oO 12 (.bin .gtr 2 (.t 8) (.t 11))])
(.cond (.t 12) (.seq (.region false [] [
 oO 4 (.assign (.c (.bool false)))])
(.ret)) (.skip)))
(.seq (.seq (.region false [] [
 oM 13 1,
 oO 14 (.len 1 (.t 13)),
 oO 15 (.move (.c (.int .i64 0)))])
(.block 0 (.loop (.seq (.region false [] [
 oO 16 (.bin .lss 2 (.t 15) (.t 14))])
(.seq (.cond (.t 16) (.skip) (.exit 0))
(.seq (.block 1 (.seq (.region false [] [
 oM 17 15,
 oO 18 (.iaddr 1 (.t 13) (.t 15)),
 oO 19 (.load 2 (.t 18)),
 oO 5 (.assign (.t 17)),
 oO 6 (.assign (.t 19))])
(.seq (.region false [] [
 oM 20 6,
 oO 21 (.bin .lss 2 (.t 20) (.c (.int .i64 0))),
 oM 22 21,
⟨(some 23), .move (.t 6), (some (22, false))⟩,
⟨(some 24), .faddr 0 (.t 2) 2, (some (22, false))⟩,
⟨(some 25), .load 14 (.t 24), (some (22, false))⟩,
⟨(some 26), .move (.t 5), (some (22, false))⟩,
⟨(some 27), .iaddr 14 (.t 25) (.t 26), (some (22, false))⟩,
⟨(some 28), .faddr 15 (.t 27) 3, (some (22, false))⟩,
⟨(some 29), .load 16 (.t 28), (some (22, false))⟩,
⟨(some 30), .len 16 (.t 29), (some (22, false))⟩,
⟨(some 31), .bin .geq 2 (.t 23) (.t 30), (some (22, false))⟩,
 oO 32 (.pick (.t 22) (.c (.bool true)) (.t 31))])
(.cond (.t 32) (.seq (.region false [] [
 oO 4 (.assign (.c (.bool false)))])
(.ret)) (.skip)))))
(.region false [] [
 oO 33 (.bin .add 2 (.t 15) (.c (.int .i64 1))),
 oM 15 33])))))))
(.seq (.region false [] [
 oO 4 (.assign (.c (.bool true)))])
(.ret))))⟩

def f173 : DFn := ⟨19, [.tmp 4],
    .seq (.region false [] [
 oO 4 (.assign (.c (.int .i64 0)))])
(.seq (.seq (.region false [] [
 oM 6 0,
 oO 7 (.len 4 (.t 6)),
 oO 8 (.move (.c (.int .i64 0)))])
(.block 0 (.loop (.seq (.region false [] [
 oO 9 (.bin .lss 2 (.t 8) (.t 7))])
(.seq (.cond (.t 9) (.skip) (.exit 0))
(.seq (.block 1 (.seq (.region false [] [
 oM 10 8,
 oO 5 (.assign (.t 10))])
(.seq (.region false [] [
 oM 11 1,
 oM 12 0,
 oM 13 5,
 oO 14 (.iaddr 4 (.t 12) (.t 13)),
 oO 15 (.load 1 (.t 14)),
 oO 16 (.call 0 (.t 11) [(.t 15)])])
(.cond (.t 16) (.seq (.region false [] [
 oM 17 5,
 oO 4 (.assign (.t 17))])
(.ret)) (.skip)))))
(.region false [] [
 oO 18 (.bin .add 2 (.t 8) (.c (.int .i64 1))),
 oM 8 18])))))))
(.seq (.region false [] [
 oO 4 (.assign (.c (.int .i64 (-1))))])
(.ret)))⟩

def f174 : DFn := ⟨19, [.tmp 4],
    .seq (.region false [] [
 oO 4 (.assign (.c (.int .i64 0)))])
(.seq (.seq (.region false [] [
 oM 6 0,
 oO 7 (.len 31 (.t 6)),
 oO 8 (.move (.c (.int .i64 0)))])
(.block 0 (.loop (.seq (.region false [] [
 oO 9 (.bin .lss 2 (.t 8) (.t 7))])
(.seq (.cond (.t 9) (.skip) (.exit 0))
(.seq (.block 1 (.seq (.region false [] [
 oM 10 8,
 oO 5 (.assign (.t 10))])
(.seq (.region false [] [
 oM 11 1,
 oM 12 0,
 oM 13 5,
 oO 14 (.iaddr 31 (.t 12) (.t 13)),
 oO 15 (.load 32 (.t 14)),
 oO 16 (.call 0 (.t 11) [(.t 15)])])
(.cond (.t 16) (.seq (.region false [] [
 oM 17 5,
 oO 4 (.assign (.t 17))])
(.ret)) (.skip)))))
(.region false [] [
 oO 18 (.bin .add 2 (.t 8) (.c (.int .i64 1))),
 oM 8 18])))))))
(.seq (.region false [] [
 oO 4 (.assign (.c (.int .i64 (-1))))])
(.ret)))⟩

def f175 : DFn := ⟨9, [.tmp 2],
    .seq (.region false [] [
 oO 2 (.assign (.c (.imm .exact [])))])
(.seq (.region false [] [
 oM 3 0,
 oM 4 0,
 oO 5 (.len 35 (.t 4)),
 oM 6 0,
 oO 7 (.len 35 (.t 6)),
 oO 8 (.slice 35 (.t 3) none (some (.t 5)) (some (.t 7))),
 oO 2 (.assign (.t 8))])
(.ret))⟩

def f176 : DFn := ⟨18, [],
    .seq (.region false [] [
 oO 4 (.load 4 (.t 1)),
 oO 5 (.len 4 (.t 4)),
 oO 6 (.bin .sub 2 (.t 5) (.c (.int .i64 1))),
 oO 3 (.assign (.t 6))])
(.block 0 (.loop (.seq (.seq (.region false [] [
 oM 7 3,
 oO 8 (.bin .geq 2 (.t 7) (.c (.int .i64 0)))])
(.cond (.t 8) (.skip) (.exit 0)))
(.seq (.block 1 (.seq (.region false [] [
 oM 11 0,
 oO 12 (.load 4 (.t 1)),
 oM 13 3,
 oO 14 (.iaddr 4 (.t 12) (.t 13)),
 oO 15 (.load 1 (.t 14)),
 oO 16 (.call 2 (.t 11) [(.t 15)]),
 oO 17 (.un .not (.t 16))])
(.cond (.t 17) (.ret) (.skip))))
(.region false [] [
 oM 9 3,
 oO 10 (.bin .sub 2 (.t 9) (.c (.int .i64 1))),
 oO 3 (.assign (.t 10))])))))⟩

def f177 : DFn := ⟨161, [.tmp 4],
    .seq (.region false [] [
 oO 2 (.box 0 (.t 0)),
 oO 4 (.assign (.c (.bool false)))])
(.seq (.seq (.region false [] [
 oO 14 (.call 0 (.f 178) []),
 oO 15 (.un .not (.t 14))])
(.cond (.t 15) (.seq (.region false [] [
 oO 4 (.assign (.c (.bool false)))])
(.ret)) (.skip)))
(.seq (.seq (.region false [] [
 oO 16 (.load 0 (.t 2)),
 oM 17 1,
 oO 18 (.call 0 (.f 179) [(.t 16), (.t 17)]),
 oO 19 (.un .not (.t 18))])
(.cond (.t 19) (.seq (.region false [] [
 oO 4 (.assign (.c (.bool true)))])
(.ret)) (.skip)))
(.seq (.region false [] [
 oO 21 (.load 0 (.t 2)),
 oM 22 1,
 oO 23 (.call 0 (.f 180) [(.t 21), (.t 22)]),
 oM 20 23,
 oO 24 (.extract (.t 20) 0),
 oO 25 (.extract (.t 20) 1),
 oO 5 (.assign (.t 24)),
 oO 6 (.assign (.t 25))])
(.seq (.seq (.region false [] [
 oM 26 6,
 oO 27 (.bin .neq 3 (.t 26) (.c (.int .i64 0)))])
(.cond (.t 27) (.seq (.region false [] [
 oM 28 6,
 oO 29 (.load 0 (.t 2)),
 oM 30 1,
 oO 31 (.call 0 (.f 181) [(.t 29), (.t 30)]),
 oO 32 (.bin .eql 3 (.t 28) (.t 31)),
 oM 33 32,
⟨(some 34), .move (.t 5), (some (33, true))⟩,
⟨(some 35), .len 36 (.t 34), (some (33, true))⟩,
⟨(some 36), .bin .eql 2 (.t 35) (.c (.int .i64 0)), (some (33, true))⟩,
 oO 37 (.pick (.t 33) (.t 36) (.c (.bool false))),
 oO 4 (.assign (.t 37))])
(.ret)) (.skip)))
(.seq (.region false [] [
 oO 39 (.load 0 (.t 2)),
 oO 40 (.call 0 (.f 131) [(.t 39)]),
 oM 38 40,
 oO 41 (.extract (.t 38) 0),
 oO 42 (.extract (.t 38) 1),
 oO 7 (.alloc 29),
 oE (.store 29 (.t 7) (.t 41)),
 oO 8 (.assign (.t 42))])
(.seq (.seq (.region false [] [
 oM 43 8,
 oO 44 (.bin .neq 3 (.t 43) (.c (.int .i64 0))),
 oM 45 44,
⟨(some 46), .faddr 29 (.t 7) 0, (some (45, false))⟩,
⟨(some 47), .load 6 (.t 46), (some (45, false))⟩,
⟨(some 48), .len 6 (.t 47), (some (45, false))⟩,
⟨(some 49), .faddr 0 (.t 2) 2, (some (45, false))⟩,
⟨(some 50), .load 14 (.t 49), (some (45, false))⟩,
⟨(some 51), .len 14 (.t 50), (some (45, false))⟩,
⟨(some 52), .bin .neq 2 (.t 48) (.t 51), (some (45, false))⟩,
 oO 53 (.pick (.t 45) (.c (.bool true)) (.t 52))])
(.cond (.t 53) (.seq (.region false [] [
 oO 4 (.assign (.c (.bool false)))])
(.ret)) (.skip)))
(.seq (.region false [] [
 oO 54 (.faddr 0 (.t 2) 2),
 oO 55 (.load 14 (.t 54)),
 oO 56 (.len 14 (.t 55)),
 oO 57 (.mkslice true 6 (.t 56) (.t 56)),
 oO 9 (.assign (.t 57))])
(.seq (.seq (.region false [] [
 oM 58 5,
 oO 59 (.len 36 (.t 58)),
 oO 60 (.move (.c (.int .i64 0)))])
(.block 0 (.loop (.seq (.region false [] [
 oO 61 (.bin .lss 2 (.t 60) (.t 59))])
(.seq (.cond (.t 61) (.skip) (.exit 0))
(.seq (.block 1 (.seq (.region false [] [
 oM 62 60,
 oO 63 (.iaddr 36 (.t 58) (.t 60)),
 oO 64 (.load 37 (.t 63)),
 oO 11 (.alloc 37),
 oO 10 (.assign (.t 62)),
 oE (.store 37 (.t 11) (.t 64))])
(.seq (.seq (.region false [] [
 oO 65 (.faddr 37 (.t 11) 0),
 oO 66 (.load 2 (.t 65)),
 oO 67 (.bin .lss 2 (.t 66) (.c (.int .i64 (-1)))),
 oM 68 67,
⟨(some 69), .faddr 37 (.t 11) 0, (some (68, false))⟩,
⟨(some 70), .load 2 (.t 69), (some (68, false))⟩,
⟨(some 71), .move (.t 1), (some (68, false))⟩,
⟨(some 72), .len 38 (.t 71), (some (68, false))⟩,
⟨(some 73), .bin .geq 2 (.t 70) (.t 72), (some (68, false))⟩,
 oO 74 (.pick (.t 68) (.c (.bool true)) (.t 73)),
 oM 75 74,
⟨(some 76), .faddr 37 (.t 11) 1, (some (75, false))⟩,
⟨(some 77), .load 2 (.t 76), (some (75, false))⟩,
⟨(some 78), .bin .lss 2 (.t 77) (.c (.int .i64 0)), (some (75, false))⟩,
 oO 79 (.pick (.t 75) (.c (.bool true)) (.t 78)),
 oM 80 79,
⟨(some 81), .faddr 37 (.t 11) 1, (some (80, false))⟩,
⟨(some 82), .load 2 (.t 81), (some (80, false))⟩,
⟨(some 83), .move (.t 9), (some (80, false))⟩,
⟨(some 84), .len 6 (.t 83), (some (80, false))⟩,
⟨(some 85), .bin .geq 2 (.t 82) (.t 84), (some (80, false))⟩,
 oO 86 (.pick (.t 80) (.c (.bool true)) (.t 85)),
 oM 87 86,
⟨(some 88), .faddr 37 (.t 11) 2, (some (87, false))⟩,
⟨(some 89), .load 2 (.t 88), (some (87, false))⟩,
⟨(some 90), .bin .eql 2 (.t 89) (.c (.int .i64 0)), (some (87, false))⟩,
 oO 91 (.pick (.t 87) (.c (.bool true)) (.t 90))])
(.cond (.t 91) (.seq (.region false [] [
 oO 4 (.assign (.c (.bool false)))])
(.ret)) (.skip)))
(.seq (.seq (.region true [] [
 oM 92 10,
 oO 93 (.bin .gtr 2 (.t 92) (.c (.int .i64 0))),
 oM 94 93,
⟨(some 95), .move (.t 5), (some (94, true))⟩,
⟨(some 96), .move (.t 10), (some (94, true))⟩,
⟨(some 97), .bin .sub 2 (.t 96) (.c (.int .i64 1)), (some (94, true))⟩,
⟨(some 98), .iaddr 36 (.t 95) (.t 97), (some (94, true))⟩,
⟨(some 99), .faddr 37 (.t 98) 0, (some (94, true))⟩,
⟨(some 100), .load 2 (.t 99), (some (94, true))⟩,
⟨(some 101), .faddr 37 (.t 11) 0, (some (94, true))⟩,
⟨(some 102), .load 2 (.t 101), (some (94, true))⟩,
⟨(some 103), .bin .gtr 2 (.t 100) (.t 102), (some (94, true))⟩,
⟨(some 104), .move (.t 103), (some (94, true))⟩,
⟨(some 105), .move (.t 5), (some (104, false))⟩,
⟨(some 106), .move (.t 10), (some (104, false))⟩,
⟨(some 107), .bin .sub 2 (.t 106) (.c (.int .i64 1)), (some (104, false))⟩,
⟨(some 108), .iaddr 36 (.t 105) (.t 107), (some (104, false))⟩,
⟨(some 109), .faddr 37 (.t 108) 0, (some (104, false))⟩,
⟨(some 110), .load 2 (.t 109), (some (104, false))⟩,
⟨(some 111), .faddr 37 (.t 11) 0, (some (104, false))⟩,
⟨(some 112), .load 2 (.t 111), (some (104, false))⟩,
⟨(some 113), .bin .eql 2 (.t 110) (.t 112), (some (104, false))⟩,
⟨(some 114), .move (.t 113), (some (104, false))⟩,
⟨(some 115), .move (.t 5), (some (114, true))⟩,
⟨(some 116), .move (.t 10), (some (114, true))⟩,
⟨(some 117), .bin .sub 2 (.t 116) (.c (.int .i64 1)), (some (114, true))⟩,
⟨(some 118), .iaddr 36 (.t 115) (.t 117), (some (114, true))⟩,
⟨(some 119), .faddr 37 (.t 118) 1, (some (114, true))⟩,
⟨(some 120), .load 2 (.t 119), (some (114, true))⟩,
⟨(some 121), .faddr 37 (.t 11) 1, (some (114, true))⟩,
⟨(some 122), .load 2 (.t 121), (some (114, true))⟩,
⟨(some 123), .bin .geq 2 (.t 120) (.t 122), (some (114, true))⟩,
⟨(some 124), .pick (.t 114) (.t 123) (.c (.bool false)), (some (104, false))⟩,
⟨(some 125), .pick (.t 104) (.c (.bool true)) (.t 124), (some (94, true))⟩,
 oO 126 (.pick (.t 94) (.t 125) (.c (.bool false)))])
(.cond (.t 126) (.seq (.region false [] [
 oO 4 (.assign (.c (.bool false)))])
(.ret)) (.skip)))
(.region true [] [
 oM 127 9,
 oO 128 (.faddr 37 (.t 11) 1),
 oO 129 (.load 2 (.t 128)),
 oO 130 (.iaddr 6 (.t 127) (.t 129)),
 oO 131 (.load 2 (.t 130)),
 oO 132 (.faddr 37 (.t 11) 2),
 oO 133 (.load 2 (.t 132)),
 oO 134 (.bin .add 2 (.t 131) (.t 133)),
 oO 135 (.iaddr 6 (.t 127) (.t 129)),
 oE (.store 2 (.t 135) (.t 134))])))))
(.region false [] [
 oO 136 (.bin .add 2 (.t 60) (.c (.int .i64 1))),
 oM 60 136])))))))
(.seq (.seq (.region false [] [
 oO 137 (.faddr 29 (.t 7) 0),
 oO 138 (.load 6 (.t 137)),
 oO 139 (.len 6 (.t 138)),
 oO 140 (.move (.c (.int .i64 0)))])
(.block 2 (.loop (.seq (.region false [] [
 oO 141 (.bin .lss 2 (.t 140) (.t 139))])
(.seq (.cond (.t 141) (.skip) (.exit 2))
(.seq (.block 3 (.seq (.region false [] [
 oM 142 140,
 oO 143 (.iaddr 6 (.t 138) (.t 140)),
 oO 144 (.load 2 (.t 143)),
 oO 12 (.assign (.t 142)),
 oO 13 (.assign (.t 144))])
(.seq (.region true [] [
 oM 145 9,
 oM 146 12,
 oO 147 (.iaddr 6 (.t 145) (.t 146)),
 oO 148 (.load 2 (.t 147)),
 oO 149 (.faddr 0 (.t 2) 2),
 oO 150 (.load 14 (.t 149)),
 oM 151 12,
 oO 152 (.iaddr 14 (.t 150) (.t 151)),
 oO 153 (.faddr 15 (.t 152) 3),
 oO 154 (.load 16 (.t 153)),
 oM 155 13,
 oO 156 (.iaddr 16 (.t 154) (.t 155)),
 oO 157 (.faddr 17 (.t 156) 0),
 oO 158 (.load 2 (.t 157)),
 oO 159 (.bin .neq 2 (.t 148) (.t 158))])
(.cond (.t 159) (.seq (.region false [] [
 oO 4 (.assign (.c (.bool false)))])
(.ret)) (.skip)))))
(.region false [] [
 oO 160 (.bin .add 2 (.t 140) (.c (.int .i64 1))),
 oM 140 160])))))))
(.seq (.region false [] [
 oO 4 (.assign (.c (.bool true)))])
(.ret)))))))))))⟩

def f178 : DFn := ⟨165, [.tmp 0],
    .seq (.region false [] [
 oO 0 (.assign (.c (.bool false)))])
(.seq (.region false [] [
 oO 23 (.call 0 (.f 190) []),
 oM 22 23,
 oO 24 (.extract (.t 22) 0),
 oO 25 (.extract (.t 22) 1),
 oO 1 (.alloc 0),
 oE (.store 0 (.t 1) (.t 24)),
 oO 2 (.assign (.t 25))])
(.seq (.region false [] [
 oO 27 (.load 0 (.t 1)),
 oO 28 (.call 0 (.f 184) [(.t 27)]),
 oM 26 28,
 oO 29 (.extract (.t 26) 0),
 oO 30 (.extract (.t 26) 1),
 oO 3 (.assign (.t 29)),
 oO 4 (.assign (.t 30))])
(.seq (.region false [] [
 oO 32 (.load 0 (.t 1)),
 oM 33 2,
 oO 34 (.call 0 (.f 183) [(.t 32), (.t 33), (.c (.int .i64 0))]),
 oM 31 34,
 oO 35 (.extract (.t 31) 0),
 oO 36 (.extract (.t 31) 1),
 oO 5 (.alloc 0),
 oE (.store 0 (.t 5) (.t 35)),
 oO 6 (.assign (.t 36))])
(.seq (.region false [] [
 oO 38 (.load 0 (.t 5)),
 oO 39 (.call 0 (.f 184) [(.t 38)]),
 oM 37 39,
 oO 40 (.extract (.t 37) 0),
 oO 41 (.extract (.t 37) 1),
 oO 7 (.assign (.t 40)),
 oO 8 (.assign (.t 41))])
(.seq (.region false [] [
 oO 43 (.load 0 (.t 1)),
 oO 44 (.call 0 (.f 183) [(.t 43), (.c (.imm .exact [])), (.c (.int .i64 0))]),
 oM 42 44,
 oO 45 (.extract (.t 42) 0),
 oO 46 (.extract (.t 42) 1),
 oO 9 (.alloc 0),
 oE (.store 0 (.t 9) (.t 45)),
 oO 10 (.assign (.t 46))])
(.seq (.region false [] [
 oO 48 (.load 0 (.t 1)),
 oM 49 2,
 oO 50 (.call 0 (.f 183) [(.t 48), (.t 49), (.c (.int .i64 (-1)))]),
 oM 47 50,
 oO 51 (.extract (.t 47) 0),
 oO 52 (.extract (.t 47) 1),
 oO 11 (.alloc 0),
 oE (.store 0 (.t 11) (.t 51)),
 oO 12 (.assign (.t 52))])
(.seq (.region false [] [
 oO 54 (.load 0 (.t 1)),
 oM 55 2,
 oO 56 (.call 0 (.f 180) [(.t 54), (.t 55)]),
 oM 53 56,
 oO 57 (.extract (.t 53) 0),
 oO 58 (.extract (.t 53) 1),
 oO 13 (.assign (.t 57)),
 oO 14 (.assign (.t 58))])
(.seq (.region false [] [
 oO 60 (.load 0 (.t 1)),
 oO 61 (.call 0 (.f 180) [(.t 60), (.c (.imm .exact []))]),
 oM 59 61,
 oO 62 (.extract (.t 59) 0),
 oO 63 (.extract (.t 59) 1),
 oO 15 (.assign (.t 62)),
 oO 16 (.assign (.t 63))])
(.seq (.region false [] [
 oO 65 (.build 0 []),
 oO 66 (.call 0 (.f 180) [(.t 65), (.c (.imm .exact []))]),
 oM 64 66,
 oO 67 (.extract (.t 64) 0),
 oO 68 (.extract (.t 64) 1),
 oO 17 (.assign (.t 67)),
 oO 18 (.assign (.t 68))])
(.seq (.region false [] [
 oO 70 (.bslice false 9 1 [(0, (.c (.imm .exact [])))]),
 oO 71 (.build 0 [(1, (.t 70))]),
 oO 72 (.call 0 (.f 184) [(.t 71)]),
 oM 69 72,
 oO 73 (.extract (.t 69) 0),
 oO 74 (.extract (.t 69) 1),
 oO 19 (.assign (.t 73)),
 oO 20 (.assign (.t 74))])
(.seq (.region false [] [
 oO 75 (.bslice false 6 1 [(0, (.c (.int .i64 1)))]),
 oO 76 (.bslice false 9 1 [(0, (.t 75))]),
 oO 77 (.build 39 [(1, (.t 76))]),
 oO 78 (.bslice false 38 1 [(0, (.t 77))]),
 oO 21 (.assign (.t 78))])
(.seq (.region false [] [
 oM 79 4,
 oO 80 (.bin .eql 3 (.t 79) (.c (.int .i64 0))),
 oM 81 80,
⟨(some 82), .move (.t 3), (some (81, true))⟩,
⟨(some 83), .bslice false 6 2 [(0, (.c (.int .i64 0))), (1, (.c (.int .i64 10)))], (some (81, true))⟩,
⟨(some 84), .call 0 (.f 20) [(.t 82), (.t 83)], (some (81, true))⟩,
 oO 85 (.pick (.t 81) (.t 84) (.c (.bool false))),
 oM 86 85,
⟨(some 87), .move (.t 6), (some (86, true))⟩,
⟨(some 88), .bin .eql 3 (.t 87) (.c (.int .i64 0)), (some (86, true))⟩,
 oO 89 (.pick (.t 86) (.t 88) (.c (.bool false))),
 oM 90 89,
⟨(some 91), .faddr 0 (.t 5) 1, (some (90, true))⟩,
⟨(some 92), .load 9 (.t 91), (some (90, true))⟩,
⟨(some 93), .iaddr 9 (.t 92) (.c (.int .i64 0)), (some (90, true))⟩,
⟨(some 94), .load 6 (.t 93), (some (90, true))⟩,
⟨(some 95), .iaddr 6 (.t 94) (.c (.int .i64 0)), (some (90, true))⟩,
⟨(some 96), .load 2 (.t 95), (some (90, true))⟩,
⟨(some 97), .bin .eql 2 (.t 96) (.c (.int .i64 2)), (some (90, true))⟩,
 oO 98 (.pick (.t 90) (.t 97) (.c (.bool false))),
 oM 99 98,
⟨(some 100), .move (.t 8), (some (99, true))⟩,
⟨(some 101), .bin .eql 3 (.t 100) (.c (.int .i64 0)), (some (99, true))⟩,
 oO 102 (.pick (.t 99) (.t 101) (.c (.bool false))),
 oM 103 102,
⟨(some 104), .move (.t 7), (some (103, true))⟩,
⟨(some 105), .bslice false 6 2 [(0, (.c (.int .i64 0))), (1, (.c (.int .i64 0)))], (some (103, true))⟩,
⟨(some 106), .call 0 (.f 20) [(.t 104), (.t 105)], (some (103, true))⟩,
 oO 107 (.pick (.t 103) (.t 106) (.c (.bool false))),
 oM 108 107,
⟨(some 109), .move (.t 10), (some (108, true))⟩,
⟨(some 110), .bin .eql 3 (.t 109) (.c (.int .i64 0)), (some (108, true))⟩,
 oO 111 (.pick (.t 108) (.t 110) (.c (.bool false))),
 oM 112 111,
⟨(some 113), .load 0 (.t 9), (some (112, true))⟩,
⟨(some 114), .load 0 (.t 1), (some (112, true))⟩,
⟨(some 115), .call 0 (.f 188) [(.t 113), (.t 114)], (some (112, true))⟩,
 oO 116 (.pick (.t 112) (.t 115) (.c (.bool false))),
 oM 117 116,
⟨(some 118), .move (.t 12), (some (117, true))⟩,
⟨(some 119), .bin .eql 3 (.t 118) (.c (.int .i64 1)), (some (117, true))⟩,
 oO 120 (.pick (.t 117) (.t 119) (.c (.bool false))),
 oM 121 120,
⟨(some 122), .move (.t 14), (some (121, true))⟩,
⟨(some 123), .bin .eql 3 (.t 122) (.c (.int .i64 0)), (some (121, true))⟩,
 oO 124 (.pick (.t 121) (.t 123) (.c (.bool false))),
 oM 125 124,
⟨(some 126), .move (.t 13), (some (125, true))⟩,
⟨(some 127), .build 37 [(0, (.c (.int .i64 0))), (1, (.c (.int .i64 1))), (2, (.c (.int .i64 10)))], (some (125, true))⟩,
⟨(some 128), .bslice false 36 1 [(0, (.t 127))], (some (125, true))⟩,
⟨(some 129), .call 0 (.f 187) [(.t 126), (.t 128)], (some (125, true))⟩,
 oO 130 (.pick (.t 125) (.t 129) (.c (.bool false))),
 oM 131 130,
⟨(some 132), .move (.t 16), (some (131, true))⟩,
⟨(some 133), .bin .eql 3 (.t 132) (.c (.int .i64 0)), (some (131, true))⟩,
 oO 134 (.pick (.t 131) (.t 133) (.c (.bool false))),
 oM 135 134,
⟨(some 136), .move (.t 15), (some (135, true))⟩,
⟨(some 137), .build 37 [(0, (.c (.int .i64 (-1)))), (1, (.c (.int .i64 1))), (2, (.c (.int .i64 10)))], (some (135, true))⟩,
⟨(some 138), .bslice false 36 1 [(0, (.t 137))], (some (135, true))⟩,
⟨(some 139), .call 0 (.f 187) [(.t 136), (.t 138)], (some (135, true))⟩,
 oO 140 (.pick (.t 135) (.t 139) (.c (.bool false))),
 oM 141 140,
⟨(some 142), .move (.t 18), (some (141, true))⟩,
⟨(some 143), .bin .eql 3 (.t 142) (.c (.int .i64 270)), (some (141, true))⟩,
 oO 144 (.pick (.t 141) (.t 143) (.c (.bool false))),
 oM 145 144,
⟨(some 146), .move (.t 20), (some (145, true))⟩,
⟨(some 147), .bin .eql 3 (.t 146) (.c (.int .i64 0)), (some (145, true))⟩,
 oO 148 (.pick (.t 145) (.t 147) (.c (.bool false))),
 oM 149 148,
⟨(some 150), .move (.t 19), (some (149, true))⟩,
⟨(some 151), .len 6 (.t 150), (some (149, true))⟩,
⟨(some 152), .bin .eql 2 (.t 151) (.c (.int .i64 0)), (some (149, true))⟩,
 oO 153 (.pick (.t 149) (.t 152) (.c (.bool false))),
 oM 154 153,
⟨(some 155), .load 0 (.t 1), (some (154, true))⟩,
⟨(some 156), .call 0 (.f 181) [(.t 155), (.c (.imm .exact []))], (some (154, true))⟩,
⟨(some 157), .bin .eql 3 (.t 156) (.c (.int .i64 0)), (some (154, true))⟩,
 oO 158 (.pick (.t 154) (.t 157) (.c (.bool false))),
 oM 159 158,
⟨(some 160), .load 0 (.t 1), (some (159, true))⟩,
⟨(some 161), .move (.t 21), (some (159, true))⟩,
⟨(some 162), .call 0 (.f 181) [(.t 160), (.t 161)], (some (159, true))⟩,
⟨(some 163), .bin .eql 3 (.t 162) (.c (.int .i64 420)), (some (159, true))⟩,
 oO 164 (.pick (.t 159) (.t 163) (.c (.bool false))),
 oO 0 (.assign (.t 164))])
(.ret)))))))))))))⟩

def f179 : DFn := ⟨44, [.tmp 4],
    .seq (.region false [] [
 oO 2 (.box 0 (.t 0)),
 oO 4 (.assign (.c (.bool false)))])
(.seq (.seq (.region false [] [
 oO 5 (.assign (.c (.int .i64 0)))])
(.block 0 (.loop (.seq (.seq (.region false [] [
 oM 7 5,
 oM 8 1,
 oO 9 (.len 38 (.t 8)),
 oO 10 (.bin .lss 2 (.t 7) (.t 9))])
(.cond (.t 10) (.skip) (.exit 0)))
(.seq (.block 1 (.seq (.region false [] [
 oO 6 (.assign (.c (.int .i64 0)))])
(.block 2 (.loop (.seq (.seq (.region false [] [
 oM 13 6,
 oM 14 1,
 oM 15 5,
 oO 16 (.iaddr 38 (.t 14) (.t 15)),
 oO 17 (.faddr 39 (.t 16) 1),
 oO 18 (.load 9 (.t 17)),
 oO 19 (.len 9 (.t 18)),
 oO 20 (.bin .lss 2 (.t 13) (.t 19))])
(.cond (.t 20) (.skip) (.exit 2)))
(.seq (.block 3 (.seq (.region false [] [
 oM 23 6,
 oO 24 (.bin .geq 2 (.t 23) (.c (.int .i64 8))),
 oM 25 24,
⟨(some 26), .move (.t 1), (some (25, false))⟩,
⟨(some 27), .move (.t 5), (some (25, false))⟩,
⟨(some 28), .iaddr 38 (.t 26) (.t 27), (some (25, false))⟩,
⟨(some 29), .faddr 39 (.t 28) 1, (some (25, false))⟩,
⟨(some 30), .load 9 (.t 29), (some (25, false))⟩,
⟨(some 31), .move (.t 6), (some (25, false))⟩,
⟨(some 32), .iaddr 9 (.t 30) (.t 31), (some (25, false))⟩,
⟨(some 33), .load 6 (.t 32), (some (25, false))⟩,
⟨(some 34), .len 6 (.t 33), (some (25, false))⟩,
⟨(some 35), .bin .gtr 2 (.t 34) (.c (.int .i64 20)), (some (25, false))⟩,
 oO 36 (.pick (.t 25) (.c (.bool true)) (.t 35))])
(.cond (.t 36) (.seq (.region false [] [
 oO 4 (.assign (.c (.bool false)))])
(.ret)) (.skip))))
(.region false [] [
 oM 21 6,
 oO 22 (.bin .add 2 (.t 21) (.c (.int .i64 1))),
 oO 6 (.assign (.t 22))])))))))
(.region false [] [
 oM 11 5,
 oO 12 (.bin .add 2 (.t 11) (.c (.int .i64 1))),
 oO 5 (.assign (.t 12))]))))))
(.seq (.region false [] [
 oO 37 (.load 0 (.t 2)),
 oO 38 (.call 0 (.f 129) [(.t 37)]),
 oM 39 38,
⟨(some 40), .move (.t 1), (some (39, true))⟩,
⟨(some 41), .len 38 (.t 40), (some (39, true))⟩,
⟨(some 42), .bin .leq 2 (.t 41) (.c (.int .i64 4)), (some (39, true))⟩,
 oO 43 (.pick (.t 39) (.t 42) (.c (.bool false))),
 oO 4 (.assign (.t 43))])
(.ret)))⟩

def f180 : DFn := ⟨42, [.cell 4 36, .cell 5 3],
    .seq (.region false [] [
 oO 2 (.box 0 (.t 0)),
 oO 4 (.alloc 36),
 oO 5 (.alloc 3)])
(.seq (.seq (.region false [] [
 oO 13 (.load 0 (.t 2)),
 oM 14 1,
 oO 15 (.call 0 (.f 181) [(.t 13), (.t 14)]),
 oO 6 (.assign (.t 15))])
(.seq (.region false [] [
 oM 16 6,
 oO 17 (.bin .neq 3 (.t 16) (.c (.int .i64 0)))])
(.cond (.t 17) (.seq (.region false [] [
 oM 18 6,
 oE (.store 36 (.t 4) (.c (.imm .exact []))),
 oE (.store 3 (.t 5) (.t 18))])
(.ret)) (.skip))))
(.seq (.region false [] [
 oO 19 (.faddr 0 (.t 2) 2),
 oO 20 (.load 14 (.t 19)),
 oO 21 (.len 14 (.t 20)),
 oO 22 (.mkslice false 6 (.t 21) (.t 21)),
 oO 7 (.alloc 6),
 oE (.store 6 (.t 7) (.t 22))])
(.seq (.region false [] [
 oO 23 (.mkfn 191 [(.t 7), (.t 4)]),
 oO 8 (.alloc 40),
 oE (.store 40 (.t 8) (.t 23))])
(.seq (.seq (.region false [] [
 oO 24 (.load 0 (.t 2)),
 oM 25 1,
 oO 26 (.call 0 (.f 192) [(.t 24), (.t 25)])])
(.block 0 (.rfunc (.t 26) [27, 28] (.seq (.region false [] [
 oO 9 (.assign (.t 27))])
(.region false [] [
 oO 10 (.alloc 0),
 oE (.store 0 (.t 10) (.t 28))])) (.block 1 (.seq (.region false [] [
 oO 30 (.load 0 (.t 10)),
 oO 31 (.call 0 (.f 184) [(.t 30)]),
 oM 29 31,
 oO 32 (.extract (.t 29) 0),
 oO 33 (.extract (.t 29) 1),
 oO 11 (.assign (.t 32)),
 oO 12 (.assign (.t 33))])
(.seq (.seq (.region false [] [
 oM 34 12,
 oO 35 (.bin .neq 3 (.t 34) (.c (.int .i64 0)))])
(.cond (.t 35) (.seq (.region false [] [
 oM 36 12,
 oE (.store 36 (.t 4) (.c (.imm .exact []))),
 oE (.store 3 (.t 5) (.t 36))])
(.ret)) (.skip)))
(.region false [] [
 oO 37 (.load 40 (.t 8)),
 oM 38 9,
 oM 39 11,
 oO 40 (.call 2 (.t 37) [(.t 38), (.t 39)])])))))))
(.seq (.region false [] [
 oO 41 (.load 36 (.t 4)),
 oE (.store 36 (.t 4) (.t 41)),
 oE (.store 3 (.t 5) (.c (.int .i64 0)))])
(.ret))))))⟩

def f181 : DFn := ⟨21, [.tmp 4],
    .seq (.region false [] [
 oO 2 (.box 0 (.t 0)),
 oO 4 (.assign (.c (.int .i64 0)))])
(.seq (.seq (.region false [] [
 oO 7 (.load 0 (.t 2)),
 oO 8 (.call 0 (.f 15) [(.t 7)]),
 oO 5 (.assign (.t 8))])
(.seq (.region false [] [
 oM 9 5,
 oO 10 (.bin .neq 3 (.t 9) (.c (.int .i64 0)))])
(.cond (.t 10) (.seq (.region false [] [
 oM 11 5,
 oO 4 (.assign (.t 11))])
(.ret)) (.skip))))
(.seq (.region false [] [
 oO 12 (.mkfn 193 [(.t 2)]),
 oO 6 (.assign (.t 12))])
(.seq (.seq (.region false [] [
 oM 13 1,
 oO 14 (.len 38 (.t 13)),
 oO 15 (.bin .gtr 2 (.t 14) (.c (.int .i64 8))),
 oM 16 15,
⟨(some 17), .move (.t 1), (some (16, false))⟩,
⟨(some 18), .move (.t 6), (some (16, false))⟩,
⟨(some 19), .call 3 (.f 194) [(.t 17), (.t 18)], (some (16, false))⟩,
 oO 20 (.pick (.t 16) (.c (.bool true)) (.t 19))])
(.cond (.t 20) (.seq (.region false [] [
 oO 4 (.assign (.c (.int .i64 420)))])
(.ret)) (.skip)))
(.seq (.region false [] [
 oO 4 (.assign (.c (.int .i64 0)))])
(.ret)))))⟩

def f182 : DFn := ⟨95, [.tmp 6],
    .seq (.region false [] [
 oO 3 (.box 0 (.t 0)),
 oO 6 (.assign (.c (.bool false)))])
(.seq (.seq (.region false [] [
 oO 18 (.call 0 (.f 178) []),
 oO 19 (.un .not (.t 18))])
(.cond (.t 19) (.seq (.region false [] [
 oO 6 (.assign (.c (.bool false)))])
(.ret)) (.skip)))
(.seq (.seq (.region false [] [
 oO 20 (.load 0 (.t 3)),
 oM 21 1,
 oO 22 (.call 0 (.f 179) [(.t 20), (.t 21)]),
 oO 23 (.un .not (.t 22))])
(.cond (.t 23) (.seq (.region false [] [
 oO 6 (.assign (.c (.bool true)))])
(.ret)) (.skip)))
(.seq (.region false [] [
 oO 25 (.load 0 (.t 3)),
 oM 26 1,
 oO 27 (.call 0 (.f 180) [(.t 25), (.t 26)]),
 oM 24 27,
 oO 28 (.extract (.t 24) 0),
 oO 29 (.extract (.t 24) 1),
 oO 7 (.assign (.t 28)),
 oO 8 (.assign (.t 29))])
(.seq (.seq (.region false [] [
 oM 30 8,
 oO 31 (.bin .neq 3 (.t 30) (.c (.int .i64 0)))])
(.cond (.t 31) (.seq (.region false [] [
 oO 6 (.assign (.c (.bool true)))])
(.ret)) (.skip)))
(.seq (.region false [] [
 oM 32 2,
 oO 33 (.conv 13 2 (.t 32)),
 oM 34 1,
 oO 35 (.len 38 (.t 34)),
 oO 36 (.bin .add 2 (.t 35) (.c (.int .i64 1))),
 oO 37 (.bin .rem 2 (.t 33) (.t 36)),
 oO 9 (.assign (.t 37))])
(.seq (.region false [] [
 oO 39 (.load 0 (.t 3)),
 oM 40 1,
 oM 41 9,
 oO 42 (.call 0 (.f 183) [(.t 39), (.t 40), (.t 41)]),
 oM 38 42,
 oO 43 (.extract (.t 38) 0),
 oO 44 (.extract (.t 38) 1),
 oO 10 (.alloc 0),
 oE (.store 0 (.t 10) (.t 43)),
 oO 11 (.assign (.t 44))])
(.seq (.region false [] [
 oO 46 (.load 0 (.t 10)),
 oO 47 (.call 0 (.f 184) [(.t 46)]),
 oM 45 47,
 oO 48 (.extract (.t 45) 0),
 oO 49 (.extract (.t 45) 1),
 oO 12 (.assign (.t 48)),
 oO 13 (.assign (.t 49))])
(.seq (.seq (.region false [] [
 oM 50 11,
 oO 51 (.bin .neq 3 (.t 50) (.c (.int .i64 0))),
 oM 52 51,
⟨(some 53), .move (.t 13), (some (52, false))⟩,
⟨(some 54), .bin .neq 3 (.t 53) (.c (.int .i64 0)), (some (52, false))⟩,
 oO 55 (.pick (.t 52) (.c (.bool true)) (.t 54)),
 oM 56 55,
⟨(some 57), .move (.t 12), (some (56, false))⟩,
⟨(some 58), .len 6 (.t 57), (some (56, false))⟩,
⟨(some 59), .faddr 0 (.t 3) 2, (some (56, false))⟩,
⟨(some 60), .load 14 (.t 59), (some (56, false))⟩,
⟨(some 61), .len 14 (.t 60), (some (56, false))⟩,
⟨(some 62), .bin .neq 2 (.t 58) (.t 61), (some (56, false))⟩,
 oO 63 (.pick (.t 56) (.c (.bool true)) (.t 62))])
(.cond (.t 63) (.seq (.region false [] [
 oO 6 (.assign (.c (.bool false)))])
(.ret)) (.skip)))
(.seq (.seq (.region false [] [
 oM 64 12,
 oO 65 (.len 6 (.t 64)),
 oO 66 (.move (.c (.int .i64 0)))])
(.block 0 (.loop (.seq (.region false [] [
 oO 67 (.bin .lss 2 (.t 66) (.t 65))])
(.seq (.cond (.t 67) (.skip) (.exit 0))
(.seq (.block 1 (.seq (.region false [] [
 oM 68 66,
 oO 69 (.iaddr 6 (.t 64) (.t 66)),
 oO 70 (.load 2 (.t 69)),
 oO 14 (.assign (.t 68)),
 oO 15 (.assign (.t 70))])
(.seq (.seq (.region false [] [
 oM 71 7,
 oO 72 (.len 36 (.t 71)),
 oO 73 (.move (.c (.int .i64 0)))])
(.block 2 (.loop (.seq (.region false [] [
 oO 74 (.bin .lss 2 (.t 73) (.t 72))])
(.seq (.cond (.t 74) (.skip) (.exit 2))
(.seq (.block 3 (.seq (.region false [] [
 oO 75 (.iaddr 36 (.t 71) (.t 73)),
 oO 76 (.load 37 (.t 75)),
 oO 17 (.alloc 37),
 oE (.store 37 (.t 17) (.t 76))])
(.seq (.region false [] [
 oO 77 (.faddr 37 (.t 17) 1),
 oO 78 (.load 2 (.t 77)),
 oM 79 14,
 oO 80 (.bin .eql 2 (.t 78) (.t 79)),
 oM 81 80,
⟨(some 82), .faddr 37 (.t 17) 0, (some (81, true))⟩,
⟨(some 83), .load 2 (.t 82), (some (81, true))⟩,
⟨(some 84), .move (.t 9), (some (81, true))⟩,
⟨(some 85), .bin .lss 2 (.t 83) (.t 84), (some (81, true))⟩,
 oO 86 (.pick (.t 81) (.t 85) (.c (.bool false)))])
(.cond (.t 86) (.region false [] [
 oM 87 15,
 oO 88 (.faddr 37 (.t 17) 2),
 oO 89 (.load 2 (.t 88)),
 oO 90 (.bin .sub 2 (.t 87) (.t 89)),
 oO 15 (.assign (.t 90))]) (.skip)))))
(.region false [] [
 oO 91 (.bin .add 2 (.t 73) (.c (.int .i64 1))),
 oM 73 91])))))))
(.seq (.region false [] [
 oM 92 15,
 oO 93 (.bin .neq 2 (.t 92) (.c (.int .i64 0)))])
(.cond (.t 93) (.seq (.region false [] [
 oO 6 (.assign (.c (.bool false)))])
(.ret)) (.skip))))))
(.region false [] [
 oO 94 (.bin .add 2 (.t 66) (.c (.int .i64 1))),
 oM 66 94])))))))
(.seq (.region false [] [
 oO 6 (.assign (.c (.bool true)))])
(.ret)))))))))))⟩

def f183 : DFn := ⟨29, [.cell 6 0, .tmp 7],
    .seq (.region false [] [
 oO 3 (.box 0 (.t 0)),
 oO 6 (.alloc 0),
 oO 7 (.assign (.c (.int .i64 0)))])
(.seq (.seq (.region false [] [
 oO 9 (.load 0 (.t 3)),
 oM 10 1,
 oO 11 (.call 0 (.f 181) [(.t 9), (.t 10)]),
 oO 8 (.assign (.t 11))])
(.seq (.region false [] [
 oM 12 8,
 oO 13 (.bin .neq 3 (.t 12) (.c (.int .i64 0)))])
(.cond (.t 13) (.seq (.region false [] [
 oO 14 (.load 0 (.t 6)),
 oM 15 8,
 oE (.store 0 (.t 6) (.t 14)),
 oO 7 (.assign (.t 15))])
(.ret)) (.skip))))
(.seq (.seq (.region false [] [
 oM 16 2,
 oO 17 (.bin .lss 2 (.t 16) (.c (.int .i64 0))),
 oM 18 17,
⟨(some 19), .move (.t 2), (some (18, false))⟩,
⟨(some 20), .move (.t 1), (some (18, false))⟩,
⟨(some 21), .len 38 (.t 20), (some (18, false))⟩,
⟨(some 22), .bin .gtr 2 (.t 19) (.t 21), (some (18, false))⟩,
 oO 23 (.pick (.t 18) (.c (.bool true)) (.t 22))])
(.cond (.t 23) (.seq (.region false [] [
 oO 24 (.load 0 (.t 6)),
 oE (.store 0 (.t 6) (.t 24)),
 oO 7 (.assign (.c (.int .i64 1)))])
(.ret)) (.skip)))
(.seq (.region false [] [
 oO 25 (.load 0 (.t 3)),
 oM 26 1,
 oM 27 2,
 oO 28 (.call 0 (.f 195) [(.t 25), (.t 26), (.t 27)]),
 oE (.store 0 (.t 6) (.t 28)),
 oO 7 (.assign (.c (.int .i64 0)))])
(.ret))))⟩

def f184 : DFn := ⟨38, [.tmp 2, .tmp 3],
    .seq (.region false [] [
 oO 1 (.box 0 (.t 0)),
 oO 2 (.assign (.c (.imm .exact []))),
 oO 3 (.assign (.c (.int .i64 0)))])
(.seq (.region false [] [
 oO 8 (.load 0 (.t 1)),
 oO 9 (.call 0 (.f 131) [(.t 8)]),
 oM 7 9,
 oO 10 (.extract (.t 7) 0),
 oO 11 (.extract (.t 7) 1),
 oO 4 (.alloc 29),
 oE (.store 29 (.t 4) (.t 10)),
 oO 3 (.assign (.t 11))])
(.seq (.seq (.region false [] [
 oM 12 3,
 oO 13 (.bin .neq 3 (.t 12) (.c (.int .i64 0)))])
(.cond (.t 13) (.seq (.region false [] [
 oM 14 3,
 oO 2 (.assign (.c (.imm .exact []))),
 oO 3 (.assign (.t 14))])
(.ret)) (.skip)))
(.seq (.seq (.region false [] [
 oO 15 (.faddr 29 (.t 4) 0),
 oO 16 (.load 6 (.t 15)),
 oO 17 (.len 6 (.t 16)),
 oO 18 (.move (.c (.int .i64 0)))])
(.block 0 (.loop (.seq (.region false [] [
 oO 19 (.bin .lss 2 (.t 18) (.t 17))])
(.seq (.cond (.t 19) (.skip) (.exit 0))
(.seq (.block 1 (.seq (.region false [] [
 oM 20 18,
 oO 21 (.iaddr 6 (.t 16) (.t 18)),
 oO 22 (.load 2 (.t 21)),
 oO 5 (.assign (.t 20)),
 oO 6 (.assign (.t 22))])
(.region false [] [
 oM 23 2,
 oO 24 (.faddr 0 (.t 1) 2),
 oO 25 (.load 14 (.t 24)),
 oM 26 5,
 oO 27 (.iaddr 14 (.t 25) (.t 26)),
 oO 28 (.faddr 15 (.t 27) 3),
 oO 29 (.load 16 (.t 28)),
 oM 30 6,
 oO 31 (.iaddr 16 (.t 29) (.t 30)),
 oO 32 (.faddr 17 (.t 31) 0),
 oO 33 (.load 2 (.t 32)),
 oO 34 (.bslice false 6 1 [(0, (.t 33))]),
 oO 35 (.append 0 6 6 (.t 23) (.t 34)),
 oO 2 (.assign (.t 35))])))
(.region false [] [
 oO 36 (.bin .add 2 (.t 18) (.c (.int .i64 1))),
 oM 18 36])))))))
(.seq (.region false [] [
 oM 37 2,
 oO 2 (.assign (.t 37)),
 oO 3 (.assign (.c (.int .i64 0)))])
(.ret)))))⟩

def f185 : DFn := ⟨127, [.tmp 8],
    .seq (.region false [] [
 oO 4 (.box 0 (.t 0)),
 oO 8 (.assign (.c (.bool false)))])
(.seq (.seq (.region false [] [
 oO 18 (.call 0 (.f 178) []),
 oO 19 (.un .not (.t 18))])
(.cond (.t 19) (.seq (.region false [] [
 oO 8 (.assign (.c (.bool false)))])
(.ret)) (.skip)))
(.seq (.seq (.region false [] [
 oO 20 (.load 0 (.t 4)),
 oM 21 1,
 oO 22 (.call 0 (.f 179) [(.t 20), (.t 21)]),
 oO 23 (.un .not (.t 22)),
 oM 24 23,
⟨(some 25), .load 0 (.t 4), (some (24, false))⟩,
⟨(some 26), .move (.t 1), (some (24, false))⟩,
⟨(some 27), .call 0 (.f 181) [(.t 25), (.t 26)], (some (24, false))⟩,
⟨(some 28), .bin .neq 3 (.t 27) (.c (.int .i64 0)), (some (24, false))⟩,
 oO 29 (.pick (.t 24) (.c (.bool true)) (.t 28)),
 oM 30 29,
⟨(some 31), .move (.t 1), (some (30, false))⟩,
⟨(some 32), .len 38 (.t 31), (some (30, false))⟩,
⟨(some 33), .bin .geq 2 (.t 32) (.c (.int .i64 8)), (some (30, false))⟩,
 oO 34 (.pick (.t 30) (.c (.bool true)) (.t 33))])
(.cond (.t 34) (.seq (.region false [] [
 oO 8 (.assign (.c (.bool true)))])
(.ret)) (.skip)))
(.seq (.region false [] [
 oM 35 3,
 oO 36 (.build 39 [(0, (.t 35))]),
 oO 9 (.alloc 39),
 oE (.store 39 (.t 9) (.t 36))])
(.seq (.seq (.region false [] [
 oO 37 (.faddr 0 (.t 4) 1),
 oO 38 (.load 9 (.t 37)),
 oO 39 (.len 9 (.t 38)),
 oO 40 (.move (.c (.int .i64 0)))])
(.block 0 (.loop (.seq (.region false [] [
 oO 41 (.bin .lss 2 (.t 40) (.t 39))])
(.seq (.cond (.t 41) (.skip) (.exit 0))
(.seq (.block 1 (.region true [] [
 oO 42 (.faddr 39 (.t 9) 1),
 oO 43 (.load 9 (.t 42)),
 oO 44 (.faddr 0 (.t 4) 0),
 oO 45 (.load 10 (.t 44)),
 oO 46 (.len 10 (.t 45)),
 oO 47 (.mkslice false 6 (.t 46) (.t 46)),
 oO 48 (.bslice false 9 1 [(0, (.t 47))]),
 oO 49 (.append 0 9 9 (.t 43) (.t 48)),
 oO 50 (.faddr 39 (.t 9) 1),
 oE (.store 9 (.t 50) (.t 49))]))
(.region false [] [
 oO 51 (.bin .add 2 (.t 40) (.c (.int .i64 1))),
 oM 40 51])))))))
(.seq (.region false [] [
 oM 52 2,
 oO 53 (.conv 13 2 (.t 52)),
 oM 54 1,
 oO 55 (.len 38 (.t 54)),
 oO 56 (.bin .add 2 (.t 55) (.c (.int .i64 1))),
 oO 57 (.bin .rem 2 (.t 53) (.t 56)),
 oO 10 (.assign (.t 57))])
(.seq (.region true [] [
 oO 58 (.bslice false 38 0 []),
 oM 59 1,
 oM 60 10,
 oO 61 (.slice 38 (.t 59) none (some (.t 60)) none),
 oO 62 (.append 0 38 38 (.t 58) (.t 61)),
 oO 63 (.load 39 (.t 9)),
 oO 64 (.bslice false 38 1 [(0, (.t 63))]),
 oO 65 (.append 0 38 38 (.t 62) (.t 64)),
 oM 66 1,
 oM 67 10,
 oO 68 (.slice 38 (.t 66) (some (.t 67)) none none),
 oO 69 (.append 0 38 38 (.t 65) (.t 68)),
 oO 11 (.assign (.t 69))])
(.seq (.seq (.region false [] [
 oO 70 (.load 0 (.t 4)),
 oM 71 11,
 oO 72 (.call 0 (.f 181) [(.t 70), (.t 71)]),
 oO 73 (.bin .neq 3 (.t 72) (.c (.int .i64 0)))])
(.cond (.t 73) (.seq (.region false [] [
 oM 74 3,
 oO 75 (.bin .lss 2 (.t 74) (.c (.int .i64 0))),
 oM 76 75,
⟨(some 77), .move (.t 3), (some (76, false))⟩,
⟨(some 78), .bin .gtr 2 (.t 77) (.c (.int .i64 1048576)), (some (76, false))⟩,
 oO 79 (.pick (.t 76) (.c (.bool true)) (.t 78)),
 oO 8 (.assign (.t 79))])
(.ret)) (.skip)))
(.seq (.region false [] [
 oO 81 (.load 0 (.t 4)),
 oM 82 1,
 oO 83 (.call 0 (.f 180) [(.t 81), (.t 82)]),
 oM 80 83,
 oO 84 (.extract (.t 80) 0),
 oO 85 (.extract (.t 80) 1),
 oO 12 (.assign (.t 84)),
 oO 13 (.assign (.t 85))])
(.seq (.region false [] [
 oO 87 (.load 0 (.t 4)),
 oM 88 11,
 oO 89 (.call 0 (.f 180) [(.t 87), (.t 88)]),
 oM 86 89,
 oO 90 (.extract (.t 86) 0),
 oO 91 (.extract (.t 86) 1),
 oO 14 (.assign (.t 90)),
 oO 15 (.assign (.t 91))])
(.seq (.seq (.region false [] [
 oM 92 13,
 oO 93 (.bin .neq 3 (.t 92) (.c (.int .i64 0))),
 oM 94 93,
⟨(some 95), .move (.t 15), (some (94, false))⟩,
⟨(some 96), .bin .neq 3 (.t 95) (.c (.int .i64 0)), (some (94, false))⟩,
 oO 97 (.pick (.t 94) (.c (.bool true)) (.t 96)),
 oM 98 97,
⟨(some 99), .move (.t 12), (some (98, false))⟩,
⟨(some 100), .len 36 (.t 99), (some (98, false))⟩,
⟨(some 101), .move (.t 14), (some (98, false))⟩,
⟨(some 102), .len 36 (.t 101), (some (98, false))⟩,
⟨(some 103), .bin .neq 2 (.t 100) (.t 102), (some (98, false))⟩,
 oO 104 (.pick (.t 98) (.c (.bool true)) (.t 103))])
(.cond (.t 104) (.seq (.region false [] [
 oO 8 (.assign (.c (.bool false)))])
(.ret)) (.skip)))
(.seq (.seq (.region false [] [
 oM 105 12,
 oO 106 (.len 36 (.t 105)),
 oO 107 (.move (.c (.int .i64 0)))])
(.block 2 (.loop (.seq (.region false [] [
 oO 108 (.bin .lss 2 (.t 107) (.t 106))])
(.seq (.cond (.t 108) (.skip) (.exit 2))
(.seq (.block 3 (.seq (.region false [] [
 oM 109 107,
 oO 110 (.iaddr 36 (.t 105) (.t 107)),
 oO 111 (.load 37 (.t 110)),
 oO 17 (.alloc 37),
 oO 16 (.assign (.t 109)),
 oE (.store 37 (.t 17) (.t 111))])
(.seq (.seq (.region false [] [
 oO 112 (.faddr 37 (.t 17) 0),
 oO 113 (.load 2 (.t 112)),
 oM 114 10,
 oO 115 (.bin .geq 2 (.t 113) (.t 114))])
(.cond (.t 115) (.region false [] [
 oO 116 (.faddr 37 (.t 17) 0),
 oO 117 (.load 2 (.t 116)),
 oO 118 (.bin .add 2 (.t 117) (.c (.int .i64 1))),
 oO 119 (.faddr 37 (.t 17) 0),
 oE (.store 2 (.t 119) (.t 118))]) (.skip)))
(.seq (.region true [] [
 oM 120 14,
 oM 121 16,
 oO 122 (.iaddr 36 (.t 120) (.t 121)),
 oO 123 (.load 37 (.t 122)),
 oO 124 (.load 37 (.t 17)),
 oO 125 (.bin .neq 37 (.t 123) (.t 124))])
(.cond (.t 125) (.seq (.region false [] [
 oO 8 (.assign (.c (.bool false)))])
(.ret)) (.skip))))))
(.region false [] [
 oO 126 (.bin .add 2 (.t 107) (.c (.int .i64 1))),
 oM 107 126])))))))
(.seq (.region false [] [
 oO 8 (.assign (.c (.bool true)))])
(.ret)))))))))))))⟩

def f186 : DFn := ⟨100, [.tmp 6],
    .seq (.region false [] [
 oO 3 (.box 0 (.t 0)),
 oO 6 (.assign (.c (.bool false)))])
(.seq (.seq (.region false [] [
 oO 16 (.call 0 (.f 178) []),
 oO 17 (.un .not (.t 16))])
(.cond (.t 17) (.seq (.region false [] [
 oO 6 (.assign (.c (.bool false)))])
(.ret)) (.skip)))
(.seq (.seq (.region false [] [
 oO 18 (.load 0 (.t 3)),
 oM 19 1,
 oO 20 (.call 0 (.f 179) [(.t 18), (.t 19)]),
 oO 21 (.un .not (.t 20)),
 oM 22 21,
⟨(some 23), .load 0 (.t 3), (some (22, false))⟩,
⟨(some 24), .move (.t 1), (some (22, false))⟩,
⟨(some 25), .call 0 (.f 181) [(.t 23), (.t 24)], (some (22, false))⟩,
⟨(some 26), .bin .neq 3 (.t 25) (.c (.int .i64 0)), (some (22, false))⟩,
 oO 27 (.pick (.t 22) (.c (.bool true)) (.t 26))])
(.cond (.t 27) (.seq (.region false [] [
 oO 6 (.assign (.c (.bool true)))])
(.ret)) (.skip)))
(.seq (.region false [] [
 oO 28 (.bslice false 38 0 []),
 oM 29 1,
 oO 30 (.append 1 38 38 (.t 28) (.t 29)),
 oO 7 (.assign (.t 30))])
(.seq (.seq (.region false [] [
 oM 31 7,
 oO 32 (.len 38 (.t 31)),
 oO 33 (.move (.c (.int .i64 0)))])
(.block 0 (.loop (.seq (.region false [] [
 oO 34 (.bin .lss 2 (.t 33) (.t 32))])
(.seq (.cond (.t 34) (.skip) (.exit 0))
(.seq (.block 1 (.seq (.region false [] [
 oM 35 33,
 oO 8 (.assign (.t 35))])
(.region false [] [
 oM 36 7,
 oM 37 8,
 oM 38 2,
 oO 39 (.conv 13 2 (.t 38)),
 oO 40 (.iaddr 38 (.t 36) (.t 37)),
 oO 41 (.faddr 39 (.t 40) 0),
 oE (.store 2 (.t 41) (.t 39))])))
(.region false [] [
 oO 42 (.bin .add 2 (.t 33) (.c (.int .i64 1))),
 oM 33 42])))))))
(.seq (.region false [] [
 oO 44 (.load 0 (.t 3)),
 oM 45 1,
 oO 46 (.call 0 (.f 180) [(.t 44), (.t 45)]),
 oM 43 46,
 oO 47 (.extract (.t 43) 0),
 oO 48 (.extract (.t 43) 1),
 oO 9 (.assign (.t 47)),
 oO 10 (.assign (.t 48))])
(.seq (.region false [] [
 oO 50 (.load 0 (.t 3)),
 oM 51 7,
 oO 52 (.call 1 (.f 180) [(.t 50), (.t 51)]),
 oM 49 52,
 oO 53 (.extract (.t 49) 0),
 oO 54 (.extract (.t 49) 1),
 oO 11 (.assign (.t 53)),
 oO 12 (.assign (.t 54))])
(.seq (.seq (.region false [] [
 oM 55 10,
 oO 56 (.bin .neq 3 (.t 55) (.c (.int .i64 0))),
 oM 57 56,
⟨(some 58), .move (.t 12), (some (57, false))⟩,
⟨(some 59), .bin .neq 3 (.t 58) (.c (.int .i64 0)), (some (57, false))⟩,
 oO 60 (.pick (.t 57) (.c (.bool true)) (.t 59)),
 oM 61 60,
⟨(some 62), .move (.t 9), (some (61, false))⟩,
⟨(some 63), .move (.t 11), (some (61, false))⟩,
⟨(some 64), .call 0 (.f 187) [(.t 62), (.t 63)], (some (61, false))⟩,
⟨(some 65), .un .not (.t 64), (some (61, false))⟩,
 oO 66 (.pick (.t 61) (.c (.bool true)) (.t 65))])
(.cond (.t 66) (.seq (.region false [] [
 oO 6 (.assign (.c (.bool false)))])
(.ret)) (.skip)))
(.seq (.seq (.region false [] [
 oM 67 1,
 oO 68 (.len 38 (.t 67)),
 oO 69 (.bin .add 2 (.t 68) (.c (.int .i64 1))),
 oO 70 (.move (.c (.int .i64 0)))])
(.block 2 (.loop (.seq (.region false [] [
 oO 71 (.bin .lss 2 (.t 70) (.t 69))])
(.seq (.cond (.t 71) (.skip) (.exit 2))
(.seq (.block 3 (.seq (.region false [] [
 oM 72 70,
 oO 13 (.assign (.t 72))])
(.seq (.region false [] [
 oO 74 (.load 0 (.t 3)),
 oM 75 1,
 oM 76 13,
 oO 77 (.call 0 (.f 183) [(.t 74), (.t 75), (.t 76)]),
 oM 73 77,
 oO 78 (.extract (.t 73) 0),
 oO 79 (.extract (.t 73) 1),
 oO 14 (.alloc 0),
 oE (.store 0 (.t 14) (.t 78)),
 oO 15 (.assign (.t 79))])
(.seq (.region false [] [
 oM 80 15,
 oO 81 (.bin .neq 3 (.t 80) (.c (.int .i64 0))),
 oM 82 81,
⟨(some 83), .load 0 (.t 14), (some (82, false))⟩,
⟨(some 84), .call 0 (.f 15) [(.t 83)], (some (82, false))⟩,
⟨(some 85), .bin .neq 3 (.t 84) (.c (.int .i64 0)), (some (82, false))⟩,
 oO 86 (.pick (.t 82) (.c (.bool true)) (.t 85)),
 oM 87 86,
⟨(some 88), .move (.t 13), (some (87, false))⟩,
⟨(some 89), .move (.t 1), (some (87, false))⟩,
⟨(some 90), .len 38 (.t 89), (some (87, false))⟩,
⟨(some 91), .bin .eql 2 (.t 88) (.t 90), (some (87, false))⟩,
⟨(some 92), .move (.t 91), (some (87, false))⟩,
⟨(some 93), .load 0 (.t 14), (some (92, true))⟩,
⟨(some 94), .load 0 (.t 3), (some (92, true))⟩,
⟨(some 95), .call 0 (.f 188) [(.t 93), (.t 94)], (some (92, true))⟩,
⟨(some 96), .un .not (.t 95), (some (92, true))⟩,
⟨(some 97), .pick (.t 92) (.t 96) (.c (.bool false)), (some (87, false))⟩,
 oO 98 (.pick (.t 87) (.c (.bool true)) (.t 97))])
(.cond (.t 98) (.seq (.region false [] [
 oO 6 (.assign (.c (.bool false)))])
(.ret)) (.skip))))))
(.region false [] [
 oO 99 (.bin .add 2 (.t 70) (.c (.int .i64 1))),
 oM 70 99])))))))
(.seq (.region false [] [
 oO 6 (.assign (.c (.bool true)))])
(.ret))))))))))⟩

def f187 : DFn := ⟨26, [.tmp 4],
    .seq (.region false [] [
 oO 4 (.assign (.c (.bool false)))])
(.seq (.seq (.region false [] [
 oM 6 0,
 oO 7 (.len 36 (.t 6)),
 oM 8 1,
 oO 9 (.len 36 (.t 8)),
 oO 10 (.bin .neq 2 (.t 7) (.t 9))])
(.cond (.t 10) (.seq (.region false [] [
 oO 4 (.assign (.c (.bool false)))])
(.ret)) (.skip)))
(.seq (.seq (.region false [] [
 oO 5 (.assign (.c (.int .i64 0)))])
(.block 0 (.loop (.seq (.seq (.region false [] [
 oM 11 5,
 oM 12 0,
 oO 13 (.len 36 (.t 12)),
 oO 14 (.bin .lss 2 (.t 11) (.t 13))])
(.cond (.t 14) (.skip) (.exit 0)))
(.seq (.block 1 (.seq (.region true [] [
 oM 17 0,
 oM 18 5,
 oO 19 (.iaddr 36 (.t 17) (.t 18)),
 oO 20 (.load 37 (.t 19)),
 oM 21 1,
 oM 22 5,
 oO 23 (.iaddr 36 (.t 21) (.t 22)),
 oO 24 (.load 37 (.t 23)),
 oO 25 (.bin .neq 37 (.t 20) (.t 24))])
(.cond (.t 25) (.seq (.region false [] [
 oO 4 (.assign (.c (.bool false)))])
(.ret)) (.skip))))
(.region false [] [
 oM 15 5,
 oO 16 (.bin .add 2 (.t 15) (.c (.int .i64 1))),
 oO 5 (.assign (.t 16))]))))))
(.seq (.region false [] [
 oO 4 (.assign (.c (.bool true)))])
(.ret))))⟩

def f188 : DFn := ⟨89, [.tmp 4],
    .seq (.region false [] [
 oO 2 (.box 0 (.t 0)),
 oO 3 (.box 0 (.t 1)),
 oO 4 (.assign (.c (.bool false)))])
(.seq (.seq (.region false [] [
 oO 8 (.faddr 0 (.t 2) 0),
 oO 9 (.load 10 (.t 8)),
 oO 10 (.len 10 (.t 9)),
 oO 11 (.faddr 0 (.t 3) 0),
 oO 12 (.load 10 (.t 11)),
 oO 13 (.len 10 (.t 12)),
 oO 14 (.bin .neq 2 (.t 10) (.t 13)),
 oM 15 14,
⟨(some 16), .faddr 0 (.t 2) 1, (some (15, false))⟩,
⟨(some 17), .load 9 (.t 16), (some (15, false))⟩,
⟨(some 18), .len 9 (.t 17), (some (15, false))⟩,
⟨(some 19), .faddr 0 (.t 3) 1, (some (15, false))⟩,
⟨(some 20), .load 9 (.t 19), (some (15, false))⟩,
⟨(some 21), .len 9 (.t 20), (some (15, false))⟩,
⟨(some 22), .bin .neq 2 (.t 18) (.t 21), (some (15, false))⟩,
 oO 23 (.pick (.t 15) (.c (.bool true)) (.t 22)),
 oM 24 23,
⟨(some 25), .faddr 0 (.t 2) 2, (some (24, false))⟩,
⟨(some 26), .load 14 (.t 25), (some (24, false))⟩,
⟨(some 27), .len 14 (.t 26), (some (24, false))⟩,
⟨(some 28), .faddr 0 (.t 3) 2, (some (24, false))⟩,
⟨(some 29), .load 14 (.t 28), (some (24, false))⟩,
⟨(some 30), .len 14 (.t 29), (some (24, false))⟩,
⟨(some 31), .bin .neq 2 (.t 27) (.t 30), (some (24, false))⟩,
 oO 32 (.pick (.t 24) (.c (.bool true)) (.t 31))])
(.cond (.t 32) (.seq (.region false [] [
 oO 4 (.assign (.c (.bool false)))])
(.ret)) (.skip)))
(.seq (.seq (.region false [] [
 oO 5 (.assign (.c (.int .i64 0)))])
(.block 0 (.loop (.seq (.seq (.region false [] [
 oM 33 5,
 oO 34 (.faddr 0 (.t 2) 0),
 oO 35 (.load 10 (.t 34)),
 oO 36 (.len 10 (.t 35)),
 oO 37 (.bin .lss 2 (.t 33) (.t 36))])
(.cond (.t 37) (.skip) (.exit 0)))
(.seq (.block 1 (.seq (.region true [] [
 oO 40 (.faddr 0 (.t 2) 0),
 oO 41 (.load 10 (.t 40)),
 oM 42 5,
 oO 43 (.iaddr 10 (.t 41) (.t 42)),
 oO 44 (.load 20 (.t 43)),
 oO 45 (.faddr 0 (.t 3) 0),
 oO 46 (.load 10 (.t 45)),
 oM 47 5,
 oO 48 (.iaddr 10 (.t 46) (.t 47)),
 oO 49 (.load 20 (.t 48)),
 oO 50 (.bin .neq 20 (.t 44) (.t 49))])
(.cond (.t 50) (.seq (.region false [] [
 oO 4 (.assign (.c (.bool false)))])
(.ret)) (.skip))))
(.region false [] [
 oM 38 5,
 oO 39 (.bin .add 2 (.t 38) (.c (.int .i64 1))),
 oO 5 (.assign (.t 39))]))))))
(.seq (.seq (.region false [] [
 oO 6 (.assign (.c (.int .i64 0)))])
(.block 2 (.loop (.seq (.seq (.region false [] [
 oM 51 6,
 oO 52 (.faddr 0 (.t 2) 1),
 oO 53 (.load 9 (.t 52)),
 oO 54 (.len 9 (.t 53)),
 oO 55 (.bin .lss 2 (.t 51) (.t 54))])
(.cond (.t 55) (.skip) (.exit 2)))
(.seq (.block 3 (.seq (.region true [] [
 oO 58 (.faddr 0 (.t 2) 1),
 oO 59 (.load 9 (.t 58)),
 oM 60 6,
 oO 61 (.iaddr 9 (.t 59) (.t 60)),
 oO 62 (.load 6 (.t 61)),
 oO 63 (.faddr 0 (.t 3) 1),
 oO 64 (.load 9 (.t 63)),
 oM 65 6,
 oO 66 (.iaddr 9 (.t 64) (.t 65)),
 oO 67 (.load 6 (.t 66)),
 oO 68 (.call 0 (.f 20) [(.t 62), (.t 67)]),
 oO 69 (.un .not (.t 68))])
(.cond (.t 69) (.seq (.region false [] [
 oO 4 (.assign (.c (.bool false)))])
(.ret)) (.skip))))
(.region false [] [
 oM 56 6,
 oO 57 (.bin .add 2 (.t 56) (.c (.int .i64 1))),
 oO 6 (.assign (.t 57))]))))))
(.seq (.seq (.region false [] [
 oO 7 (.assign (.c (.int .i64 0)))])
(.block 4 (.loop (.seq (.seq (.region false [] [
 oM 70 7,
 oO 71 (.faddr 0 (.t 2) 2),
 oO 72 (.load 14 (.t 71)),
 oO 73 (.len 14 (.t 72)),
 oO 74 (.bin .lss 2 (.t 70) (.t 73))])
(.cond (.t 74) (.skip) (.exit 4)))
(.seq (.block 5 (.seq (.region true [] [
 oO 77 (.faddr 0 (.t 2) 2),
 oO 78 (.load 14 (.t 77)),
 oM 79 7,
 oO 80 (.iaddr 14 (.t 78) (.t 79)),
 oO 81 (.load 15 (.t 80)),
 oO 82 (.faddr 0 (.t 3) 2),
 oO 83 (.load 14 (.t 82)),
 oM 84 7,
 oO 85 (.iaddr 14 (.t 83) (.t 84)),
 oO 86 (.load 15 (.t 85)),
 oO 87 (.call 0 (.f 196) [(.t 81), (.t 86)]),
 oO 88 (.un .not (.t 87))])
(.cond (.t 88) (.seq (.region false [] [
 oO 4 (.assign (.c (.bool false)))])
(.ret)) (.skip))))
(.region false [] [
 oM 75 7,
 oO 76 (.bin .add 2 (.t 75) (.c (.int .i64 1))),
 oO 7 (.assign (.t 76))]))))))
(.seq (.region false [] [
 oO 4 (.assign (.c (.bool true)))])
(.ret))))))⟩

def f189 : DFn := ⟨115, [.tmp 8],
    .seq (.region false [] [
 oO 4 (.box 0 (.t 0)),
 oO 8 (.assign (.c (.bool false)))])
(.seq (.seq (.region false [] [
 oO 21 (.call 0 (.f 178) []),
 oO 22 (.un .not (.t 21))])
(.cond (.t 22) (.seq (.region false [] [
 oO 8 (.assign (.c (.bool false)))])
(.ret)) (.skip)))
(.seq (.seq (.region false [] [
 oO 23 (.load 0 (.t 4)),
 oM 24 1,
 oO 25 (.call 0 (.f 179) [(.t 23), (.t 24)]),
 oO 26 (.un .not (.t 25)),
 oM 27 26,
⟨(some 28), .load 0 (.t 4), (some (27, false))⟩,
⟨(some 29), .move (.t 1), (some (27, false))⟩,
⟨(some 30), .call 0 (.f 181) [(.t 28), (.t 29)], (some (27, false))⟩,
⟨(some 31), .bin .neq 3 (.t 30) (.c (.int .i64 0)), (some (27, false))⟩,
 oO 32 (.pick (.t 27) (.c (.bool true)) (.t 31))])
(.cond (.t 32) (.seq (.region false [] [
 oO 8 (.assign (.c (.bool true)))])
(.ret)) (.skip)))
(.seq (.region true [] [
 oM 33 2,
 oO 34 (.conv 13 2 (.t 33)),
 oM 35 1,
 oO 36 (.len 38 (.t 35)),
 oO 37 (.bin .add 2 (.t 36) (.c (.int .i64 1))),
 oO 38 (.bin .rem 2 (.t 34) (.t 37)),
 oM 39 3,
 oO 40 (.conv 13 2 (.t 39)),
 oM 41 1,
 oO 42 (.len 38 (.t 41)),
 oO 43 (.bin .add 2 (.t 42) (.c (.int .i64 1))),
 oO 44 (.bin .rem 2 (.t 40) (.t 43)),
 oO 9 (.assign (.t 38)),
 oO 10 (.assign (.t 44))])
(.seq (.seq (.region false [] [
 oM 45 9,
 oM 46 10,
 oO 47 (.bin .gtr 2 (.t 45) (.t 46))])
(.cond (.t 47) (.region false [] [
 oM 48 10,
 oM 49 9,
 oO 9 (.assign (.t 48)),
 oO 10 (.assign (.t 49))]) (.skip)))
(.seq (.region false [] [
 oO 51 (.load 0 (.t 4)),
 oM 52 1,
 oM 53 9,
 oO 54 (.call 0 (.f 183) [(.t 51), (.t 52), (.t 53)]),
 oM 50 54,
 oO 55 (.extract (.t 50) 0),
 oO 56 (.extract (.t 50) 1),
 oO 11 (.alloc 0),
 oE (.store 0 (.t 11) (.t 55)),
 oO 12 (.assign (.t 56))])
(.seq (.region false [] [
 oO 58 (.load 0 (.t 4)),
 oM 59 1,
 oM 60 10,
 oO 61 (.call 0 (.f 183) [(.t 58), (.t 59), (.t 60)]),
 oM 57 61,
 oO 62 (.extract (.t 57) 0),
 oO 63 (.extract (.t 57) 1),
 oO 13 (.alloc 0),
 oE (.store 0 (.t 13) (.t 62)),
 oO 14 (.assign (.t 63))])
(.seq (.region false [] [
 oO 65 (.load 0 (.t 11)),
 oO 66 (.call 0 (.f 131) [(.t 65)]),
 oM 64 66,
 oO 67 (.extract (.t 64) 0),
 oO 68 (.extract (.t 64) 1),
 oO 15 (.alloc 29),
 oE (.store 29 (.t 15) (.t 67)),
 oO 16 (.assign (.t 68))])
(.seq (.region false [] [
 oO 70 (.load 0 (.t 13)),
 oO 71 (.call 0 (.f 131) [(.t 70)]),
 oM 69 71,
 oO 72 (.extract (.t 69) 0),
 oO 73 (.extract (.t 69) 1),
 oO 17 (.alloc 29),
 oE (.store 29 (.t 17) (.t 72)),
 oO 18 (.assign (.t 73))])
(.seq (.region false [] [
 oO 75 (.faddr 29 (.t 15) 1),
 oO 76 (.load 6 (.t 75)),
 oO 77 (.faddr 29 (.t 17) 1),
 oO 78 (.load 6 (.t 77)),
 oO 79 (.call 0 (.f 30) [(.t 76), (.t 78)]),
 oM 74 79,
 oO 80 (.extract (.t 74) 0),
 oO 81 (.extract (.t 74) 1),
 oO 19 (.assign (.t 80)),
 oO 20 (.assign (.t 81))])
(.seq (.region true [] [
 oM 82 12,
 oO 83 (.bin .eql 3 (.t 82) (.c (.int .i64 0))),
 oM 84 83,
⟨(some 85), .move (.t 14), (some (84, true))⟩,
⟨(some 86), .bin .eql 3 (.t 85) (.c (.int .i64 0)), (some (84, true))⟩,
 oO 87 (.pick (.t 84) (.t 86) (.c (.bool false))),
 oM 88 87,
⟨(some 89), .move (.t 16), (some (88, true))⟩,
⟨(some 90), .bin .eql 3 (.t 89) (.c (.int .i64 0)), (some (88, true))⟩,
 oO 91 (.pick (.t 88) (.t 90) (.c (.bool false))),
 oM 92 91,
⟨(some 93), .move (.t 18), (some (92, true))⟩,
⟨(some 94), .bin .eql 3 (.t 93) (.c (.int .i64 0)), (some (92, true))⟩,
 oO 95 (.pick (.t 92) (.t 94) (.c (.bool false))),
 oM 96 95,
⟨(some 97), .move (.t 20), (some (96, true))⟩,
⟨(some 98), .bin .eql 3 (.t 97) (.c (.int .i64 0)), (some (96, true))⟩,
 oO 99 (.pick (.t 96) (.t 98) (.c (.bool false))),
 oM 100 99,
⟨(some 101), .move (.t 19), (some (100, true))⟩,
⟨(some 102), .bin .leq 2 (.t 101) (.c (.int .i64 0)), (some (100, true))⟩,
 oO 103 (.pick (.t 100) (.t 102) (.c (.bool false))),
 oM 104 103,
⟨(some 105), .faddr 29 (.t 15) 1, (some (104, true))⟩,
⟨(some 106), .load 6 (.t 105), (some (104, true))⟩,
⟨(some 107), .iaddr 6 (.t 106) (.c (.int .i64 0)), (some (104, true))⟩,
⟨(some 108), .load 2 (.t 107), (some (104, true))⟩,
⟨(some 109), .faddr 29 (.t 17) 1, (some (104, true))⟩,
⟨(some 110), .load 6 (.t 109), (some (104, true))⟩,
⟨(some 111), .iaddr 6 (.t 110) (.c (.int .i64 0)), (some (104, true))⟩,
⟨(some 112), .load 2 (.t 111), (some (104, true))⟩,
⟨(some 113), .bin .leq 2 (.t 108) (.t 112), (some (104, true))⟩,
 oO 114 (.pick (.t 104) (.t 113) (.c (.bool false))),
 oO 8 (.assign (.t 114))])
(.ret)))))))))))⟩

def f190 : DFn := ⟨29, [.cell 0 0, .tmp 1],
    .seq (.region false [] [
 oO 0 (.alloc 0),
 oO 1 (.assign (.c (.imm .exact [])))])
(.seq (.region false [] [
 oO 5 (.build 20 [(2, (.c (.int .i64 5)))]),
 oO 6 (.build 20 [(2, (.c (.int .i64 6)))]),
 oO 7 (.bslice false 10 2 [(0, (.t 5)), (1, (.t 6))]),
 oO 2 (.alloc 10),
 oE (.store 10 (.t 2) (.t 7))])
(.seq (.region false [] [
 oO 8 (.mkfn 197 [(.t 2)]),
 oO 3 (.assign (.t 8))])
(.seq (.region false [] [
 oO 9 (.bslice false 6 1 [(0, (.c (.int .i64 0)))]),
 oM 10 3,
 oO 11 (.call 1 (.t 10) [(.c (.int .i64 0))]),
 oO 12 (.build 17 [(3, (.t 11))]),
 oM 13 3,
 oO 14 (.call 1 (.t 13) [(.c (.int .i64 1))]),
 oO 15 (.build 17 [(0, (.c (.int .i64 10))), (1, (.c (.int .i64 10))), (3, (.t 14))]),
 oO 16 (.bslice false 16 2 [(0, (.t 12)), (1, (.t 15))]),
 oO 17 (.build 15 [(2, (.t 9)), (3, (.t 16))]),
 oO 4 (.alloc 15),
 oE (.store 15 (.t 4) (.t 17))])
(.seq (.region false [] [
 oO 18 (.load 10 (.t 2)),
 oO 19 (.bslice false 6 2 [(0, (.c (.int .i64 1))), (1, (.c (.int .i64 2)))]),
 oO 20 (.bslice false 9 1 [(0, (.t 19))]),
 oO 21 (.load 15 (.t 4)),
 oO 22 (.load 15 (.t 4)),
 oO 23 (.bslice false 14 2 [(0, (.t 21)), (1, (.t 22))]),
 oO 24 (.build 0 [(0, (.t 18)), (1, (.t 20)), (2, (.t 23))]),
 oO 25 (.bslice false 6 2 [(0, (.c (.int .i64 1))), (1, (.c (.int .i64 0)))]),
 oO 26 (.bslice false 9 1 [(0, (.t 25))]),
 oO 27 (.build 39 [(0, (.c (.int .i64 7))), (1, (.t 26))]),
 oO 28 (.bslice false 38 1 [(0, (.t 27))]),
 oE (.store 0 (.t 0) (.t 24)),
 oO 1 (.assign (.t 28))])
(.ret)))))⟩

def f191 : DFn := ⟨35, [],
    .seq (.seq (.region false [] [
 oM 8 1,
 oO 9 (.len 6 (.t 8)),
 oO 10 (.move (.c (.int .i64 0)))])
(.block 0 (.loop (.seq (.region false [] [
 oO 11 (.bin .lss 2 (.t 10) (.t 9))])
(.seq (.cond (.t 11) (.skip) (.exit 0))
(.seq (.block 1 (.seq (.region false [] [
 oM 12 10,
 oO 13 (.iaddr 6 (.t 8) (.t 10)),
 oO 14 (.load 2 (.t 13)),
 oO 6 (.assign (.t 12)),
 oO 7 (.assign (.t 14))])
(.seq (.region false [] [
 oM 15 7,
 oO 16 (.load 6 (.t 2)),
 oM 17 6,
 oO 18 (.iaddr 6 (.t 16) (.t 17)),
 oO 19 (.load 2 (.t 18)),
 oO 20 (.bin .neq 2 (.t 15) (.t 19))])
(.cond (.t 20) (.region true [] [
 oO 21 (.load 36 (.t 3)),
 oM 22 0,
 oM 23 6,
 oM 24 7,
 oO 25 (.load 6 (.t 2)),
 oM 26 6,
 oO 27 (.iaddr 6 (.t 25) (.t 26)),
 oO 28 (.load 2 (.t 27)),
 oO 29 (.bin .sub 2 (.t 24) (.t 28)),
 oO 30 (.build 37 [(0, (.t 22)), (1, (.t 23)), (2, (.t 29))]),
 oO 31 (.bslice false 36 1 [(0, (.t 30))]),
 oO 32 (.append 0 36 36 (.t 21) (.t 31)),
 oE (.store 36 (.t 3) (.t 32))]) (.skip)))))
(.region false [] [
 oO 33 (.bin .add 2 (.t 10) (.c (.int .i64 1))),
 oM 10 33])))))))
(.region false [] [
 oM 34 1,
 oE (.store 6 (.t 2) (.t 34))])⟩

def f192 : DFn := ⟨6, [.tmp 4],
    .seq (.region false [] [
 oO 2 (.box 0 (.t 0)),
 oO 3 (.box 38 (.t 1)),
 oO 4 (.assign (.c .nilfn))])
(.seq (.region false [] [
 oO 5 (.mkfn 198 [(.t 3), (.t 2)]),
 oO 4 (.assign (.t 5))])
(.ret))⟩

def f193 : DFn := ⟨27, [.tmp 3],
    .seq (.region false [] [
 oO 2 (.box 39 (.t 0)),
 oO 3 (.assign (.c (.bool false)))])
(.seq (.region false [] [
 oO 4 (.faddr 39 (.t 2) 0),
 oO 5 (.load 2 (.t 4)),
 oO 6 (.bin .lss 2 (.t 5) (.c (.int .i64 0))),
 oM 7 6,
⟨(some 8), .faddr 39 (.t 2) 0, (some (7, false))⟩,
⟨(some 9), .load 2 (.t 8), (some (7, false))⟩,
⟨(some 10), .bin .gtr 2 (.t 9) (.c (.int .i64 1048576)), (some (7, false))⟩,
 oO 11 (.pick (.t 7) (.c (.bool true)) (.t 10)),
 oM 12 11,
⟨(some 13), .faddr 39 (.t 2) 1, (some (12, false))⟩,
⟨(some 14), .load 9 (.t 13), (some (12, false))⟩,
⟨(some 15), .len 9 (.t 14), (some (12, false))⟩,
⟨(some 16), .faddr 0 (.t 1) 1, (some (12, false))⟩,
⟨(some 17), .load 9 (.t 16), (some (12, false))⟩,
⟨(some 18), .len 9 (.t 17), (some (12, false))⟩,
⟨(some 19), .bin .neq 2 (.t 15) (.t 18), (some (12, false))⟩,
 oO 20 (.pick (.t 12) (.c (.bool true)) (.t 19)),
 oM 21 20,
⟨(some 22), .faddr 39 (.t 2) 1, (some (21, false))⟩,
⟨(some 23), .load 9 (.t 22), (some (21, false))⟩,
⟨(some 24), .mkfn 199 [(.t 1)], (some (21, false))⟩,
⟨(some 25), .call 0 (.f 94) [(.t 23), (.t 24)], (some (21, false))⟩,
 oO 26 (.pick (.t 21) (.c (.bool true)) (.t 25)),
 oO 3 (.assign (.t 26))])
(.ret))⟩

def f194 : DFn := ⟨9, [.tmp 4],
    .seq (.region false [] [
 oO 4 (.assign (.c (.bool false)))])
(.seq (.region false [] [
 oM 5 0,
 oM 6 1,
 oO 7 (.call 0 (.f 201) [(.t 5), (.t 6)]),
 oO 8 (.bin .geq 2 (.t 7) (.c (.int .i64 0))),
 oO 4 (.assign (.t 8))])
(.ret))⟩

def f195 : DFn := ⟨54, [.cell 6 0],
    .seq (.region false [] [
 oO 3 (.box 0 (.t 0)),
 oO 6 (.alloc 0)])
(.seq (.region false [] [
 oO 13 (.faddr 0 (.t 3) 0),
 oO 14 (.load 10 (.t 13)),
 oO 15 (.faddr 0 (.t 3) 2),
 oO 16 (.load 14 (.t 15)),
 oO 17 (.build 0 [(0, (.t 14)), (2, (.t 16))]),
 oO 7 (.alloc 0),
 oE (.store 0 (.t 7) (.t 17))])
(.seq (.seq (.region false [] [
 oO 18 (.faddr 0 (.t 3) 1),
 oO 19 (.load 9 (.t 18)),
 oO 20 (.len 9 (.t 19)),
 oO 21 (.move (.c (.int .i64 0)))])
(.block 0 (.loop (.seq (.region false [] [
 oO 22 (.bin .lss 2 (.t 21) (.t 20))])
(.seq (.cond (.t 22) (.skip) (.exit 0))
(.seq (.block 1 (.seq (.region false [] [
 oM 23 21,
 oO 24 (.iaddr 9 (.t 19) (.t 21)),
 oO 25 (.load 6 (.t 24)),
 oO 8 (.assign (.t 23)),
 oO 9 (.assign (.t 25))])
(.seq (.region false [] [
 oM 26 9,
 oO 27 (.bslice false 9 1 [(0, (.t 26))]),
 oO 10 (.assign (.t 27))])
(.seq (.seq (.region false [] [
 oM 28 1,
 oM 29 2,
 oO 30 (.slice 38 (.t 28) (some (.t 29)) none none),
 oO 31 (.len 38 (.t 30)),
 oO 32 (.move (.c (.int .i64 0)))])
(.block 2 (.loop (.seq (.region false [] [
 oO 33 (.bin .lss 2 (.t 32) (.t 31))])
(.seq (.cond (.t 33) (.skip) (.exit 2))
(.seq (.block 3 (.seq (.region false [] [
 oO 34 (.iaddr 38 (.t 30) (.t 32)),
 oO 35 (.load 39 (.t 34)),
 oO 12 (.alloc 39),
 oE (.store 39 (.t 12) (.t 35))])
(.region false [] [
 oM 36 10,
 oO 37 (.faddr 39 (.t 12) 1),
 oO 38 (.load 9 (.t 37)),
 oM 39 8,
 oO 40 (.iaddr 9 (.t 38) (.t 39)),
 oO 41 (.load 6 (.t 40)),
 oO 42 (.bslice false 9 1 [(0, (.t 41))]),
 oO 43 (.append 0 9 9 (.t 36) (.t 42)),
 oO 10 (.assign (.t 43))])))
(.region false [] [
 oO 44 (.bin .add 2 (.t 32) (.c (.int .i64 1))),
 oM 32 44])))))))
(.region true [] [
 oO 45 (.faddr 0 (.t 7) 1),
 oO 46 (.load 9 (.t 45)),
 oM 47 10,
 oO 48 (.call 0 (.f 202) [(.t 47)]),
 oO 49 (.bslice false 9 1 [(0, (.t 48))]),
 oO 50 (.append 0 9 9 (.t 46) (.t 49)),
 oO 51 (.faddr 0 (.t 7) 1),
 oE (.store 9 (.t 51) (.t 50))])))))
(.region false [] [
 oO 52 (.bin .add 2 (.t 21) (.c (.int .i64 1))),
 oM 21 52])))))))
(.seq (.region false [] [
 oO 53 (.load 0 (.t 7)),
 oE (.store 0 (.t 6) (.t 53))])
(.ret))))⟩

def f196 : DFn := ⟨101, [.tmp 4],
    .seq (.region false [] [
 oO 2 (.box 15 (.t 0)),
 oO 3 (.box 15 (.t 1)),
 oO 4 (.assign (.c (.bool false)))])
(.seq (.seq (.region false [] [
 oO 9 (.faddr 15 (.t 2) 0),
 oO 10 (.load 2 (.t 9)),
 oO 11 (.faddr 15 (.t 3) 0),
 oO 12 (.load 2 (.t 11)),
 oO 13 (.bin .neq 2 (.t 10) (.t 12)),
 oM 14 13,
⟨(some 15), .faddr 15 (.t 2) 1, (some (14, false))⟩,
⟨(some 16), .load 2 (.t 15), (some (14, false))⟩,
⟨(some 17), .faddr 15 (.t 3) 1, (some (14, false))⟩,
⟨(some 18), .load 2 (.t 17), (some (14, false))⟩,
⟨(some 19), .bin .neq 2 (.t 16) (.t 18), (some (14, false))⟩,
 oO 20 (.pick (.t 14) (.c (.bool true)) (.t 19)),
 oM 21 20,
⟨(some 22), .faddr 15 (.t 2) 2, (some (21, false))⟩,
⟨(some 23), .load 6 (.t 22), (some (21, false))⟩,
⟨(some 24), .faddr 15 (.t 3) 2, (some (21, false))⟩,
⟨(some 25), .load 6 (.t 24), (some (21, false))⟩,
⟨(some 26), .call 0 (.f 20) [(.t 23), (.t 25)], (some (21, false))⟩,
⟨(some 27), .un .not (.t 26), (some (21, false))⟩,
 oO 28 (.pick (.t 21) (.c (.bool true)) (.t 27)),
 oM 29 28,
⟨(some 30), .faddr 15 (.t 2) 3, (some (29, false))⟩,
⟨(some 31), .load 16 (.t 30), (some (29, false))⟩,
⟨(some 32), .len 16 (.t 31), (some (29, false))⟩,
⟨(some 33), .faddr 15 (.t 3) 3, (some (29, false))⟩,
⟨(some 34), .load 16 (.t 33), (some (29, false))⟩,
⟨(some 35), .len 16 (.t 34), (some (29, false))⟩,
⟨(some 36), .bin .neq 2 (.t 32) (.t 35), (some (29, false))⟩,
 oO 37 (.pick (.t 29) (.c (.bool true)) (.t 36))])
(.cond (.t 37) (.seq (.region false [] [
 oO 4 (.assign (.c (.bool false)))])
(.ret)) (.skip)))
(.seq (.seq (.region false [] [
 oO 5 (.assign (.c (.int .i64 0)))])
(.block 0 (.loop (.seq (.seq (.region false [] [
 oM 38 5,
 oO 39 (.faddr 15 (.t 2) 3),
 oO 40 (.load 16 (.t 39)),
 oO 41 (.len 16 (.t 40)),
 oO 42 (.bin .lss 2 (.t 38) (.t 41))])
(.cond (.t 42) (.skip) (.exit 0)))
(.seq (.block 1 (.seq (.region false [] [
 oO 45 (.faddr 15 (.t 2) 3),
 oO 46 (.load 16 (.t 45)),
 oM 47 5,
 oO 48 (.iaddr 16 (.t 46) (.t 47)),
 oO 49 (.load 17 (.t 48)),
 oO 6 (.alloc 17),
 oE (.store 17 (.t 6) (.t 49))])
(.seq (.region false [] [
 oO 50 (.faddr 15 (.t 3) 3),
 oO 51 (.load 16 (.t 50)),
 oM 52 5,
 oO 53 (.iaddr 16 (.t 51) (.t 52)),
 oO 54 (.load 17 (.t 53)),
 oO 7 (.alloc 17),
 oE (.store 17 (.t 7) (.t 54))])
(.seq (.seq (.region false [] [
 oO 55 (.faddr 17 (.t 6) 0),
 oO 56 (.load 2 (.t 55)),
 oO 57 (.faddr 17 (.t 7) 0),
 oO 58 (.load 2 (.t 57)),
 oO 59 (.bin .neq 2 (.t 56) (.t 58)),
 oM 60 59,
⟨(some 61), .faddr 17 (.t 6) 1, (some (60, false))⟩,
⟨(some 62), .load 2 (.t 61), (some (60, false))⟩,
⟨(some 63), .faddr 17 (.t 7) 1, (some (60, false))⟩,
⟨(some 64), .load 2 (.t 63), (some (60, false))⟩,
⟨(some 65), .bin .neq 2 (.t 62) (.t 64), (some (60, false))⟩,
 oO 66 (.pick (.t 60) (.c (.bool true)) (.t 65)),
 oM 67 66,
⟨(some 68), .faddr 17 (.t 6) 2, (some (67, false))⟩,
⟨(some 69), .load 2 (.t 68), (some (67, false))⟩,
⟨(some 70), .faddr 17 (.t 7) 2, (some (67, false))⟩,
⟨(some 71), .load 2 (.t 70), (some (67, false))⟩,
⟨(some 72), .bin .neq 2 (.t 69) (.t 71), (some (67, false))⟩,
 oO 73 (.pick (.t 67) (.c (.bool true)) (.t 72)),
 oM 74 73,
⟨(some 75), .faddr 17 (.t 6) 3, (some (74, false))⟩,
⟨(some 76), .load 18 (.t 75), (some (74, false))⟩,
⟨(some 77), .len 18 (.t 76), (some (74, false))⟩,
⟨(some 78), .faddr 17 (.t 7) 3, (some (74, false))⟩,
⟨(some 79), .load 18 (.t 78), (some (74, false))⟩,
⟨(some 80), .len 18 (.t 79), (some (74, false))⟩,
⟨(some 81), .bin .neq 2 (.t 77) (.t 80), (some (74, false))⟩,
 oO 82 (.pick (.t 74) (.c (.bool true)) (.t 81))])
(.cond (.t 82) (.seq (.region false [] [
 oO 4 (.assign (.c (.bool false)))])
(.ret)) (.skip)))
(.seq (.region false [] [
 oO 8 (.assign (.c (.int .i64 0)))])
(.block 2 (.loop (.seq (.seq (.region false [] [
 oM 83 8,
 oO 84 (.faddr 17 (.t 6) 3),
 oO 85 (.load 18 (.t 84)),
 oO 86 (.len 18 (.t 85)),
 oO 87 (.bin .lss 2 (.t 83) (.t 86))])
(.cond (.t 87) (.skip) (.exit 2)))
(.seq (.block 3 (.seq (.region true [] [
 oO 90 (.faddr 17 (.t 6) 3),
 oO 91 (.load 18 (.t 90)),
 oM 92 8,
 oO 93 (.iaddr 18 (.t 91) (.t 92)),
 oO 94 (.load 19 (.t 93)),
 oO 95 (.faddr 17 (.t 7) 3),
 oO 96 (.load 18 (.t 95)),
 oM 97 8,
 oO 98 (.iaddr 18 (.t 96) (.t 97)),
 oO 99 (.load 19 (.t 98)),
 oO 100 (.bin .neq 19 (.t 94) (.t 99))])
(.cond (.t 100) (.seq (.region false [] [
 oO 4 (.assign (.c (.bool false)))])
(.ret)) (.skip))))
(.region false [] [
 oM 88 8,
 oO 89 (.bin .add 2 (.t 88) (.c (.int .i64 1))),
 oO 8 (.assign (.t 89))]))))))))))
(.region false [] [
 oM 43 5,
 oO 44 (.bin .add 2 (.t 43) (.c (.int .i64 1))),
 oO 5 (.assign (.t 44))]))))))
(.seq (.region false [] [
 oO 4 (.assign (.c (.bool true)))])
(.ret))))⟩

def f197 : DFn := ⟨10, [.tmp 3],
    .seq (.region false [] [
 oO 3 (.assign (.c (.imm .exact [])))])
(.seq (.region false [] [
 oO 4 (.load 10 (.t 1)),
 oM 5 0,
 oO 6 (.iaddr 10 (.t 4) (.t 5)),
 oO 7 (.load 20 (.t 6)),
 oO 8 (.build 19 [(0, (.t 7)), (1, (.c (.int .i64 1)))]),
 oO 9 (.bslice false 18 1 [(0, (.t 8))]),
 oO 3 (.assign (.t 9))])
(.ret))⟩

def f198 : DFn := ⟨21, [],
    .seq (.region false [] [
 oO 5 (.load 38 (.t 1)),
 oO 6 (.len 38 (.t 5)),
 oO 7 (.bin .add 2 (.t 6) (.c (.int .i64 1))),
 oO 8 (.move (.c (.int .i64 0)))])
(.block 0 (.loop (.seq (.region false [] [
 oO 9 (.bin .lss 2 (.t 8) (.t 7))])
(.seq (.cond (.t 9) (.skip) (.exit 0))
(.seq (.block 1 (.seq (.region false [] [
 oM 10 8,
 oO 4 (.assign (.t 10))])
(.seq (.region false [] [
 oM 11 0,
 oM 12 4,
 oO 13 (.bin .sub 2 (.t 12) (.c (.int .i64 1))),
 oO 14 (.load 0 (.t 2)),
 oO 15 (.load 38 (.t 1)),
 oM 16 4,
 oO 17 (.call 0 (.f 195) [(.t 14), (.t 15), (.t 16)]),
 oO 18 (.call 2 (.t 11) [(.t 13), (.t 17)]),
 oO 19 (.un .not (.t 18))])
(.cond (.t 19) (.ret) (.skip)))))
(.region false [] [
 oO 20 (.bin .add 2 (.t 8) (.c (.int .i64 1))),
 oM 8 20]))))))⟩

def f199 : DFn := ⟨14, [.tmp 3],
    .seq (.region false [] [
 oO 3 (.assign (.c (.bool false)))])
(.seq (.region false [] [
 oM 4 0,
 oO 5 (.len 6 (.t 4)),
 oO 6 (.faddr 0 (.t 1) 0),
 oO 7 (.load 10 (.t 6)),
 oO 8 (.len 10 (.t 7)),
 oO 9 (.bin .neq 2 (.t 5) (.t 8)),
 oM 10 9,
⟨(some 11), .move (.t 0), (some (10, false))⟩,
⟨(some 12), .call 0 (.f 71) [(.t 11), (.f 200)], (some (10, false))⟩,
 oO 13 (.pick (.t 10) (.c (.bool true)) (.t 12)),
 oO 3 (.assign (.t 13))])
(.ret))⟩

def f200 : DFn := ⟨9, [.tmp 2],
    .seq (.region false [] [
 oO 2 (.assign (.c (.bool false)))])
(.seq (.region false [] [
 oM 3 0,
 oO 4 (.bin .lss 2 (.t 3) (.c (.int .i64 0))),
 oM 5 4,
⟨(some 6), .move (.t 0), (some (5, false))⟩,
⟨(some 7), .bin .gtr 2 (.t 6) (.c (.int .i64 4096)), (some (5, false))⟩,
 oO 8 (.pick (.t 5) (.c (.bool true)) (.t 7)),
 oO 2 (.assign (.t 8))])
(.ret))⟩

def f201 : DFn := ⟨19, [.tmp 4],
    .seq (.region false [] [
 oO 4 (.assign (.c (.int .i64 0)))])
(.seq (.seq (.region false [] [
 oM 6 0,
 oO 7 (.len 38 (.t 6)),
 oO 8 (.move (.c (.int .i64 0)))])
(.block 0 (.loop (.seq (.region false [] [
 oO 9 (.bin .lss 2 (.t 8) (.t 7))])
(.seq (.cond (.t 9) (.skip) (.exit 0))
(.seq (.block 1 (.seq (.region false [] [
 oM 10 8,
 oO 5 (.assign (.t 10))])
(.seq (.region false [] [
 oM 11 1,
 oM 12 0,
 oM 13 5,
 oO 14 (.iaddr 38 (.t 12) (.t 13)),
 oO 15 (.load 39 (.t 14)),
 oO 16 (.call 0 (.t 11) [(.t 15)])])
(.cond (.t 16) (.seq (.region false [] [
 oM 17 5,
 oO 4 (.assign (.t 17))])
(.ret)) (.skip)))))
(.region false [] [
 oO 18 (.bin .add 2 (.t 8) (.c (.int .i64 1))),
 oM 8 18])))))))
(.seq (.region false [] [
 oO 4 (.assign (.c (.int .i64 (-1))))])
(.ret)))⟩

def f202 : DFn := ⟨39, [.tmp 2],
    .seq (.region false [] [
 oO 2 (.assign (.c (.imm .exact [])))])
(.seq (.region false [] [
 oM 8 0,
 oO 9 (.iaddr 9 (.t 8) (.c (.int .i64 0))),
 oO 10 (.load 6 (.t 9)),
 oO 11 (.call 2 (.f 96) [(.t 10)]),
 oO 3 (.assign (.t 11))])
(.seq (.seq (.region false [] [
 oM 12 0,
 oO 13 (.slice 9 (.t 12) (some (.c (.int .i64 1))) none none),
 oO 14 (.len 9 (.t 13)),
 oO 15 (.move (.c (.int .i64 0)))])
(.block 0 (.loop (.seq (.region false [] [
 oO 16 (.bin .lss 2 (.t 15) (.t 14))])
(.seq (.cond (.t 16) (.skip) (.exit 0))
(.seq (.block 1 (.seq (.region false [] [
 oO 17 (.iaddr 9 (.t 13) (.t 15)),
 oO 18 (.load 6 (.t 17)),
 oO 5 (.assign (.t 18))])
(.seq (.region false [] [
 oM 19 5,
 oO 20 (.len 6 (.t 19)),
 oO 21 (.move (.c (.int .i64 0)))])
(.block 2 (.loop (.seq (.region false [] [
 oO 22 (.bin .lss 2 (.t 21) (.t 20))])
(.seq (.cond (.t 22) (.skip) (.exit 2))
(.seq (.block 3 (.seq (.region false [] [
 oM 23 21,
 oO 24 (.iaddr 6 (.t 19) (.t 21)),
 oO 25 (.load 2 (.t 24)),
 oO 6 (.assign (.t 23)),
 oO 7 (.assign (.t 25))])
(.region false [] [
 oM 26 3,
 oM 27 6,
 oM 28 3,
 oM 29 6,
 oO 30 (.iaddr 6 (.t 28) (.t 29)),
 oO 31 (.load 2 (.t 30)),
 oM 32 7,
 oO 33 (.bin .add 2 (.t 31) (.t 32)),
 oO 34 (.mini [(.t 33), (.c (.int .i64 4096))]),
 oO 35 (.iaddr 6 (.t 26) (.t 27)),
 oE (.store 2 (.t 35) (.t 34))])))
(.region false [] [
 oO 36 (.bin .add 2 (.t 21) (.c (.int .i64 1))),
 oM 21 36])))))))))
(.region false [] [
 oO 37 (.bin .add 2 (.t 15) (.c (.int .i64 1))),
 oM 15 37])))))))
(.seq (.region false [] [
 oM 38 3,
 oO 2 (.assign (.t 38))])
(.ret))))⟩

def tyTab : Nat → TI
  | 0 => ⟨.struct [(0, 10), (1, 9), (2, 14)], 3, 72, [(.imm .exact []), (.imm .exact []), (.imm .exact [])], false⟩
  | 1 => ⟨.slice 2, 1, 24, [(.imm .exact [])], false⟩
  | 2 => ⟨.int .i64, 1, 8, [(.int .i64 0)], false⟩
  | 3 => ⟨.int .i64, 1, 8, [(.int .i64 0)], false⟩
  | 4 => ⟨.slice 1, 1, 24, [(.imm .exact [])], false⟩
  | 6 => ⟨.slice 2, 1, 24, [(.imm .exact [])], false⟩
  | 7 => ⟨.bool, 1, 1, [(.bool false)], false⟩
  | 9 => ⟨.slice 6, 1, 24, [(.imm .exact [])], false⟩
  | 10 => ⟨.slice 20, 1, 24, [(.imm .exact [])], false⟩
  | 11 => ⟨.struct [(0, 2), (1, 2)], 2, 16, [(.int .i64 0), (.int .i64 0)], true⟩
  | 13 => ⟨.int .u8, 1, 1, [(.int .u8 0)], false⟩
  | 14 => ⟨.slice 15, 1, 24, [(.imm .exact [])], false⟩
  | 15 => ⟨.struct [(0, 2), (1, 2), (2, 6), (3, 16)], 4, 64, [(.int .i64 0), (.int .i64 0), (.imm .exact []), (.imm .exact [])], false⟩
  | 16 => ⟨.slice 17, 1, 24, [(.imm .exact [])], false⟩
  | 17 => ⟨.struct [(0, 2), (1, 2), (2, 2), (3, 18)], 4, 48, [(.int .i64 0), (.int .i64 0), (.int .i64 0), (.imm .exact [])], false⟩
  | 18 => ⟨.slice 19, 1, 24, [(.imm .exact [])], false⟩
  | 19 => ⟨.struct [(0, 20), (3, 2)], 4, 32, [(.bool false), (.int .i64 0), (.int .i64 0), (.int .i64 0)], true⟩
  | 20 => ⟨.struct [(0, 7), (1, 2), (2, 2)], 3, 24, [(.bool false), (.int .i64 0), (.int .i64 0)], true⟩
  | 21 => ⟨.map 20 7, 1, 8, [(.map none)], false⟩
  | 22 => ⟨.arr 4 2, 4, 32, [(.int .i64 0), (.int .i64 0), (.int .i64 0), (.int .i64 0)], true⟩
  | 26 => ⟨.map 20 2, 1, 8, [(.map none)], false⟩
  | 28 => ⟨.struct [(0, 4), (1, 6), (2, 6), (3, 31)], 4, 96, [(.imm .exact []), (.imm .exact []), (.imm .exact []), (.imm .exact [])], false⟩
  | 29 => ⟨.struct [(0, 6), (1, 6), (2, 31)], 3, 72, [(.imm .exact []), (.imm .exact []), (.imm .exact [])], false⟩
  | 31 => ⟨.slice 32, 1, 24, [(.imm .exact [])], false⟩
  | 32 => ⟨.struct [(0, 1), (1, 2), (2, 9)], 3, 56, [(.imm .exact []), (.int .i64 0), (.imm .exact [])], false⟩
  | 33 => ⟨.func, 1, 8, [.nilfn], false⟩
  | 35 => ⟨.slice 1, 1, 24, [(.imm .exact [])], false⟩
  | 36 => ⟨.slice 37, 1, 24, [(.imm .exact [])], false⟩
  | 37 => ⟨.struct [(0, 2), (1, 2), (2, 2)], 3, 24, [(.int .i64 0), (.int .i64 0), (.int .i64 0)], true⟩
  | 38 => ⟨.slice 39, 1, 24, [(.imm .exact [])], false⟩
  | 39 => ⟨.struct [(0, 2), (1, 9)], 2, 32, [(.int .i64 0), (.imm .exact [])], false⟩
  | 40 => ⟨.func, 1, 8, [.nilfn], false⟩
  | _ => ⟨.other, 0, 0, [], false⟩

def fnTab : Nat → Option DFn
  | 2 => some f2
  | 3 => some f3
  | 7 => some f7
  | 14 => some f14
  | 15 => some f15
  | 20 => some f20
  | 22 => some f22
  | 30 => some f30
  | 61 => some f61
  | 62 => some f62
  | 63 => some f63
  | 66 => some f66
  | 67 => some f67
  | 68 => some f68
  | 69 => some f69
  | 70 => some f70
  | 71 => some f71
  | 72 => some f72
  | 73 => some f73
  | 74 => some f74
  | 75 => some f75
  | 76 => some f76
  | 83 => some f83
  | 84 => some f84
  | 87 => some f87
  | 94 => some f94
  | 96 => some f96
  | 102 => some f102
  | 104 => some f104
  | 105 => some f105
  | 106 => some f106
  | 107 => some f107
  | 110 => some f110
  | 113 => some f113
  | 122 => some f122
  | 123 => some f123
  | 129 => some f129
  | 131 => some f131
  | 133 => some f133
  | 139 => some f139
  | 140 => some f140
  | 142 => some f142
  | 150 => some f150
  | 151 => some f151
  | 157 => some f157
  | 158 => some f158
  | 159 => some f159
  | 160 => some f160
  | 161 => some f161
  | 162 => some f162
  | 165 => some f165
  | 166 => some f166
  | 167 => some f167
  | 168 => some f168
  | 169 => some f169
  | 172 => some f172
  | 173 => some f173
  | 174 => some f174
  | 175 => some f175
  | 176 => some f176
  | 177 => some f177
  | 178 => some f178
  | 179 => some f179
  | 180 => some f180
  | 181 => some f181
  | 182 => some f182
  | 183 => some f183
  | 184 => some f184
  | 185 => some f185
  | 186 => some f186
  | 187 => some f187
  | 188 => some f188
  | 189 => some f189
  | 190 => some f190
  | 191 => some f191
  | 192 => some f192
  | 193 => some f193
  | 194 => some f194
  | 195 => some f195
  | 196 => some f196
  | 197 => some f197
  | 198 => some f198
  | 199 => some f199
  | 200 => some f200
  | 201 => some f201
  | 202 => some f202
  | _ => none

def keepTab : Nat → Bool
  | 166 => true
  | 168 => true
  | 175 => true
  | _ => false

def E : Env := ⟨tyTab, fnTab, keepTab⟩

end Dv
