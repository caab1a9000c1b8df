/- Texts that a proof of this claim uses, joined: Dv.Code. -/
import Derived.Test.YtffnaiofjjgcgaaDva
set_option linter.all false
/- The code of the functions in the short form, as printed by program from the translation; YtLink.lean ties each to the given program. -/
namespace Dv
open Go (IntKind BinOp UnOp)

def f0 : DFn := ⟨39, [.tmp 4],
    .seq (.region false [] [
⟨(some 2), .box 0 (.t 0), none⟩,
⟨(some 4), .assign (.c (.bool false)), none⟩])
    (.seq (.seq (.region false [] [
⟨(some 9), .call 0 (.f 1) [], none⟩,
⟨(some 10), .un .not (.t 9), none⟩])
    (.cond (.t 10) (.seq (.region false [] [
⟨(some 4), .assign (.c (.bool false)), none⟩])
    (.ret)) (.skip)))
    (.seq (.seq (.region false [] [
⟨(some 11), .load 0 (.t 2), none⟩,
⟨(some 12), .call 0 (.f 2) [(.t 11)], none⟩,
⟨(some 13), .un .not (.t 12), none⟩,
⟨(some 14), .move (.t 13), none⟩,
⟨(some 15), .move (.t 1), (some (14, false))⟩,
⟨(some 16), .len 1 (.t 15), (some (14, false))⟩,
⟨(some 17), .bin .gtr 2 (.t 16) (.c (.int .i64 20)), (some (14, false))⟩,
⟨(some 18), .pick (.t 14) (.c (.bool true)) (.t 17), none⟩])
    (.cond (.t 18) (.seq (.region false [] [
⟨(some 4), .assign (.c (.bool true)), none⟩])
    (.ret)) (.skip)))
    (.seq (.region false [] [
⟨(some 20), .load 0 (.t 2), none⟩,
⟨(some 21), .move (.t 1), none⟩,
⟨(some 22), .call 0 (.f 3) [(.t 20), (.t 21)], none⟩,
⟨(some 19), .move (.t 22), none⟩,
⟨(some 23), .extract (.t 19) 0, none⟩,
⟨(some 24), .extract (.t 19) 1, none⟩,
⟨(some 5), .assign (.t 23), none⟩,
⟨(some 6), .assign (.t 24), none⟩])
    (.seq (.region false [] [
⟨(some 26), .load 0 (.t 2), none⟩,
⟨(some 27), .move (.t 1), none⟩,
⟨(some 28), .call 0 (.f 4) [(.t 26), (.t 27)], none⟩,
⟨(some 25), .move (.t 28), none⟩,
⟨(some 29), .extract (.t 25) 0, none⟩,
⟨(some 30), .extract (.t 25) 1, none⟩,
⟨(some 7), .assign (.t 29), none⟩,
⟨(some 8), .assign (.t 30), none⟩])
    (.seq (.region false [] [
⟨(some 31), .move (.t 5), none⟩,
⟨(some 32), .move (.t 7), none⟩,
⟨(some 33), .call 0 (.f 5) [(.t 31), (.t 32)], none⟩,
⟨(some 34), .move (.t 33), none⟩,
⟨(some 35), .move (.t 6), (some (34, true))⟩,
⟨(some 36), .move (.t 8), (some (34, true))⟩,
⟨(some 37), .bin .eql 3 (.t 35) (.t 36), (some (34, true))⟩,
⟨(some 38), .pick (.t 34) (.t 37) (.c (.bool false)), none⟩,
⟨(some 4), .assign (.t 38), none⟩])
    (.ret))))))⟩

def f1 : DFn := ⟨135, [.tmp 0],
    .seq (.region false [] [
⟨(some 0), .assign (.c (.bool false)), none⟩])
    (.seq (.region false [] [
⟨(some 20), .call 0 (.f 60) [], none⟩,
⟨(some 1), .alloc 0, none⟩,
⟨none, .store 0 (.t 1) (.t 20), none⟩])
    (.seq (.region false [] [
⟨(some 22), .bslice false 9 1 [(0, (.c (.imm .exact [])))], none⟩,
⟨(some 23), .build 0 [(1, (.t 22))], none⟩,
⟨(some 24), .call 0 (.f 3) [(.t 23), (.c (.imm .exact []))], none⟩,
⟨(some 21), .move (.t 24), none⟩,
⟨(some 25), .extract (.t 21) 0, none⟩,
⟨(some 26), .extract (.t 21) 1, none⟩,
⟨(some 2), .assign (.t 25), none⟩,
⟨(some 3), .assign (.t 26), none⟩])
    (.seq (.region false [] [
⟨(some 28), .load 0 (.t 1), none⟩,
⟨(some 29), .call 0 (.f 3) [(.t 28), (.c (.imm .exact []))], none⟩,
⟨(some 27), .move (.t 29), none⟩,
⟨(some 30), .extract (.t 27) 0, none⟩,
⟨(some 31), .extract (.t 27) 1, none⟩,
⟨(some 4), .assign (.t 30), none⟩,
⟨(some 5), .assign (.t 31), none⟩])
    (.seq (.region false [] [
⟨(some 33), .load 0 (.t 1), none⟩,
⟨(some 34), .bslice false 1 1 [(0, (.c (.int .i64 0)))], none⟩,
⟨(some 35), .call 0 (.f 3) [(.t 33), (.t 34)], none⟩,
⟨(some 32), .move (.t 35), none⟩,
⟨(some 36), .extract (.t 32) 0, none⟩,
⟨(some 37), .extract (.t 32) 1, none⟩,
⟨(some 6), .assign (.t 36), none⟩,
⟨(some 7), .assign (.t 37), none⟩])
    (.seq (.region false [] [
⟨(some 39), .load 0 (.t 1), none⟩,
⟨(some 40), .bslice false 1 2 [(0, (.c (.int .i64 1))), (1, (.c (.int .i64 0)))], none⟩,
⟨(some 41), .call 0 (.f 3) [(.t 39), (.t 40)], none⟩,
⟨(some 38), .move (.t 41), none⟩,
⟨(some 42), .extract (.t 38) 0, none⟩,
⟨(some 43), .extract (.t 38) 1, none⟩,
⟨(some 8), .assign (.t 42), none⟩,
⟨(some 9), .assign (.t 43), none⟩])
    (.seq (.region false [] [
⟨(some 45), .load 0 (.t 1), none⟩,
⟨(some 46), .bslice false 1 3 [(0, (.c (.int .i64 1))), (1, (.c (.int .i64 0))), (2, (.c (.int .i64 0)))], none⟩,
⟨(some 47), .call 0 (.f 3) [(.t 45), (.t 46)], none⟩,
⟨(some 44), .move (.t 47), none⟩,
⟨(some 48), .extract (.t 44) 0, none⟩,
⟨(some 49), .extract (.t 44) 1, none⟩,
⟨(some 10), .assign (.t 48), none⟩,
⟨(some 11), .assign (.t 49), none⟩])
    (.seq (.region false [] [
⟨(some 51), .load 0 (.t 1), none⟩,
⟨(some 52), .call 0 (.f 7) [(.t 51), (.c (.imm .exact []))], none⟩,
⟨(some 50), .move (.t 52), none⟩,
⟨(some 53), .extract (.t 50) 0, none⟩,
⟨(some 54), .extract (.t 50) 1, none⟩,
⟨(some 12), .assign (.t 53), none⟩,
⟨(some 13), .assign (.t 54), none⟩])
    (.seq (.region false [] [
⟨(some 56), .load 0 (.t 1), none⟩,
⟨(some 57), .bslice false 1 2 [(0, (.c (.int .i64 1))), (1, (.c (.int .i64 0)))], none⟩,
⟨(some 58), .call 0 (.f 7) [(.t 56), (.t 57)], none⟩,
⟨(some 55), .move (.t 58), none⟩,
⟨(some 59), .extract (.t 55) 0, none⟩,
⟨(some 60), .extract (.t 55) 1, none⟩,
⟨(some 14), .assign (.t 59), none⟩,
⟨(some 15), .assign (.t 60), none⟩])
    (.seq (.region false [] [
⟨(some 62), .load 0 (.t 1), none⟩,
⟨(some 63), .call 0 (.f 9) [(.t 62), (.c (.imm .exact []))], none⟩,
⟨(some 61), .move (.t 63), none⟩,
⟨(some 64), .extract (.t 61) 0, none⟩,
⟨(some 65), .extract (.t 61) 1, none⟩,
⟨(some 16), .assign (.t 64), none⟩,
⟨(some 17), .assign (.t 65), none⟩])
    (.seq (.region false [] [
⟨(some 67), .build 0 [], none⟩,
⟨(some 68), .call 0 (.f 3) [(.t 67), (.c (.imm .exact []))], none⟩,
⟨(some 66), .move (.t 68), none⟩,
⟨(some 69), .extract (.t 66) 0, none⟩,
⟨(some 70), .extract (.t 66) 1, none⟩,
⟨(some 18), .assign (.t 69), none⟩,
⟨(some 19), .assign (.t 70), none⟩])
    (.seq (.seq (.region false [] [
⟨(some 71), .move (.t 3), none⟩,
⟨(some 72), .bin .neq 3 (.t 71) (.c (.int .i64 0)), none⟩,
⟨(some 73), .move (.t 72), none⟩,
⟨(some 74), .move (.t 5), (some (73, false))⟩,
⟨(some 75), .bin .neq 3 (.t 74) (.c (.int .i64 0)), (some (73, false))⟩,
⟨(some 76), .pick (.t 73) (.c (.bool true)) (.t 75), none⟩,
⟨(some 77), .move (.t 76), none⟩,
⟨(some 78), .move (.t 7), (some (77, false))⟩,
⟨(some 79), .bin .neq 3 (.t 78) (.c (.int .i64 0)), (some (77, false))⟩,
⟨(some 80), .pick (.t 77) (.c (.bool true)) (.t 79), none⟩,
⟨(some 81), .move (.t 80), none⟩,
⟨(some 82), .move (.t 9), (some (81, false))⟩,
⟨(some 83), .bin .neq 3 (.t 82) (.c (.int .i64 0)), (some (81, false))⟩,
⟨(some 84), .pick (.t 81) (.c (.bool true)) (.t 83), none⟩,
⟨(some 85), .move (.t 84), none⟩,
⟨(some 86), .move (.t 11), (some (85, false))⟩,
⟨(some 87), .bin .neq 3 (.t 86) (.c (.int .i64 280)), (some (85, false))⟩,
⟨(some 88), .pick (.t 85) (.c (.bool true)) (.t 87), none⟩,
⟨(some 89), .move (.t 88), none⟩,
⟨(some 90), .move (.t 13), (some (89, false))⟩,
⟨(some 91), .bin .neq 3 (.t 90) (.c (.int .i64 0)), (some (89, false))⟩,
⟨(some 92), .pick (.t 89) (.c (.bool true)) (.t 91), none⟩,
⟨(some 93), .move (.t 92), none⟩,
⟨(some 94), .move (.t 15), (some (93, false))⟩,
⟨(some 95), .bin .neq 3 (.t 94) (.c (.int .i64 280)), (some (93, false))⟩,
⟨(some 96), .pick (.t 93) (.c (.bool true)) (.t 95), none⟩,
⟨(some 97), .move (.t 96), none⟩,
⟨(some 98), .move (.t 17), (some (97, false))⟩,
⟨(some 99), .bin .neq 3 (.t 98) (.c (.int .i64 0)), (some (97, false))⟩,
⟨(some 100), .pick (.t 97) (.c (.bool true)) (.t 99), none⟩,
⟨(some 101), .move (.t 100), none⟩,
⟨(some 102), .move (.t 19), (some (101, false))⟩,
⟨(some 103), .bin .neq 3 (.t 102) (.c (.int .i64 270)), (some (101, false))⟩,
⟨(some 104), .pick (.t 101) (.c (.bool true)) (.t 103), none⟩])
    (.cond (.t 104) (.seq (.region false [] [
⟨(some 0), .assign (.c (.bool false)), none⟩])
    (.ret)) (.skip)))
    (.seq (.region false [] [
⟨(some 105), .move (.t 2), none⟩,
⟨(some 106), .bslice false 6 4 [(0, (.c (.int .i64 0))), (1, (.c (.int .i64 0))), (2, (.c (.int .i64 0))), (3, (.c (.int .i64 0)))], none⟩,
⟨(some 107), .call 0 (.f 5) [(.t 105), (.t 106)], none⟩,
⟨(some 108), .move (.t 107), none⟩,
⟨(some 109), .move (.t 4), (some (108, true))⟩,
⟨(some 110), .bslice false 6 4 [(0, (.c (.int .i64 0))), (1, (.c (.int .i64 5))), (2, (.c (.int .i64 7))), (3, (.c (.int .i64 0)))], (some (108, true))⟩,
⟨(some 111), .call 0 (.f 5) [(.t 109), (.t 110)], (some (108, true))⟩,
⟨(some 112), .pick (.t 108) (.t 111) (.c (.bool false)), none⟩,
⟨(some 113), .move (.t 112), none⟩,
⟨(some 114), .move (.t 6), (some (113, true))⟩,
⟨(some 115), .bslice false 6 4 [(0, (.c (.int .i64 1))), (1, (.c (.int .i64 5))), (2, (.c (.int .i64 7))), (3, (.c (.int .i64 0)))], (some (113, true))⟩,
⟨(some 116), .call 0 (.f 5) [(.t 114), (.t 115)], (some (113, true))⟩,
⟨(some 117), .pick (.t 113) (.t 116) (.c (.bool false)), none⟩,
⟨(some 118), .move (.t 117), none⟩,
⟨(some 119), .move (.t 8), (some (118, true))⟩,
⟨(some 120), .bslice false 6 4 [(0, (.c (.int .i64 0))), (1, (.c (.int .i64 10))), (2, (.c (.int .i64 27))), (3, (.c (.int .i64 1)))], (some (118, true))⟩,
⟨(some 121), .call 0 (.f 5) [(.t 119), (.t 120)], (some (118, true))⟩,
⟨(some 122), .pick (.t 118) (.t 121) (.c (.bool false)), none⟩,
⟨(some 123), .move (.t 122), none⟩,
⟨(some 124), .move (.t 12), (some (123, true))⟩,
⟨(some 125), .bslice false 1 1 [(0, (.c (.int .i64 0)))], (some (123, true))⟩,
⟨(some 126), .bslice false 1 1 [(0, (.c (.int .i64 1)))], (some (123, true))⟩,
⟨(some 127), .bslice false 4 2 [(0, (.t 125)), (1, (.t 126))], (some (123, true))⟩,
⟨(some 128), .call 0 (.f 11) [(.t 124), (.t 127)], (some (123, true))⟩,
⟨(some 129), .pick (.t 123) (.t 128) (.c (.bool false)), none⟩,
⟨(some 130), .move (.t 129), none⟩,
⟨(some 131), .move (.t 16), (some (130, true))⟩,
⟨(some 132), .bslice false 6 2 [(0, (.c (.int .i64 0))), (1, (.c (.int .i64 0)))], (some (130, true))⟩,
⟨(some 133), .call 0 (.f 5) [(.t 131), (.t 132)], (some (130, true))⟩,
⟨(some 134), .pick (.t 130) (.t 133) (.c (.bool false)), none⟩,
⟨(some 0), .assign (.t 134), none⟩])
    (.ret)))))))))))))⟩

def f2 : DFn := ⟨77, [.tmp 2],
    .seq (.region false [] [
⟨(some 1), .box 0 (.t 0), none⟩,
⟨(some 2), .assign (.c (.bool false)), none⟩])
    (.seq (.seq (.region false [] [
⟨(some 7), .faddr 0 (.t 1) 0, none⟩,
⟨(some 8), .load 10 (.t 7), none⟩,
⟨(some 9), .len 10 (.t 8), none⟩,
⟨(some 10), .bin .gtr 2 (.t 9) (.c (.int .i64 12)), none⟩,
⟨(some 11), .move (.t 10), none⟩,
⟨(some 12), .faddr 0 (.t 1) 1, (some (11, false))⟩,
⟨(some 13), .load 9 (.t 12), (some (11, false))⟩,
⟨(some 14), .len 9 (.t 13), (some (11, false))⟩,
⟨(some 15), .bin .gtr 2 (.t 14) (.c (.int .i64 4)), (some (11, false))⟩,
⟨(some 16), .pick (.t 11) (.c (.bool true)) (.t 15), none⟩,
⟨(some 17), .move (.t 16), none⟩,
⟨(some 18), .faddr 0 (.t 1) 2, (some (17, false))⟩,
⟨(some 19), .load 14 (.t 18), (some (17, false))⟩,
⟨(some 20), .len 14 (.t 19), (some (17, false))⟩,
⟨(some 21), .bin .gtr 2 (.t 20) (.c (.int .i64 6)), (some (17, false))⟩,
⟨(some 22), .pick (.t 17) (.c (.bool true)) (.t 21), none⟩])
    (.cond (.t 22) (.seq (.region false [] [
⟨(some 2), .assign (.c (.bool false)), none⟩])
    (.ret)) (.skip)))
    (.seq (.seq (.region false [] [
⟨(some 3), .assign (.c (.int .i64 0)), none⟩])
    (.block 0 (.loop (.seq (.seq (.region false [] [
⟨(some 23), .move (.t 3), none⟩,
⟨(some 24), .faddr 0 (.t 1) 1, none⟩,
⟨(some 25), .load 9 (.t 24), none⟩,
⟨(some 26), .len 9 (.t 25), none⟩,
⟨(some 27), .bin .lss 2 (.t 23) (.t 26), none⟩])
    (.cond (.t 27) (.skip) (.exit 0)))
    (.seq (.block 1 (.seq (.region false [] [
⟨(some 30), .faddr 0 (.t 1) 1, none⟩,
⟨(some 31), .load 9 (.t 30), none⟩,
⟨(some 32), .move (.t 3), none⟩,
⟨(some 33), .iaddr 9 (.t 31) (.t 32), none⟩,
⟨(some 34), .load 6 (.t 33), none⟩,
⟨(some 35), .len 6 (.t 34), none⟩,
⟨(some 36), .bin .gtr 2 (.t 35) (.c (.int .i64 16)), none⟩])
    (.cond (.t 36) (.seq (.region false [] [
⟨(some 2), .assign (.c (.bool false)), none⟩])
    (.ret)) (.skip))))
    (.region false [] [
⟨(some 28), .move (.t 3), none⟩,
⟨(some 29), .bin .add 2 (.t 28) (.c (.int .i64 1)), none⟩,
⟨(some 3), .assign (.t 29), none⟩]))))))
    (.seq (.seq (.region false [] [
⟨(some 4), .assign (.c (.int .i64 0)), none⟩])
    (.block 2 (.loop (.seq (.seq (.region false [] [
⟨(some 37), .move (.t 4), none⟩,
⟨(some 38), .faddr 0 (.t 1) 2, none⟩,
⟨(some 39), .load 14 (.t 38), none⟩,
⟨(some 40), .len 14 (.t 39), none⟩,
⟨(some 41), .bin .lss 2 (.t 37) (.t 40), none⟩])
    (.cond (.t 41) (.skip) (.exit 2)))
    (.seq (.block 3 (.seq (.region false [] [
⟨(some 44), .faddr 0 (.t 1) 2, none⟩,
⟨(some 45), .load 14 (.t 44), none⟩,
⟨(some 46), .move (.t 4), none⟩,
⟨(some 47), .iaddr 14 (.t 45) (.t 46), none⟩,
⟨(some 48), .load 15 (.t 47), none⟩,
⟨(some 5), .alloc 15, none⟩,
⟨none, .store 15 (.t 5) (.t 48), none⟩])
    (.seq (.seq (.region false [] [
⟨(some 49), .faddr 15 (.t 5) 2, none⟩,
⟨(some 50), .load 6 (.t 49), none⟩,
⟨(some 51), .len 6 (.t 50), none⟩,
⟨(some 52), .bin .gtr 2 (.t 51) (.c (.int .i64 8)), none⟩,
⟨(some 53), .move (.t 52), none⟩,
⟨(some 54), .faddr 15 (.t 5) 3, (some (53, false))⟩,
⟨(some 55), .load 16 (.t 54), (some (53, false))⟩,
⟨(some 56), .len 16 (.t 55), (some (53, false))⟩,
⟨(some 57), .bin .gtr 2 (.t 56) (.c (.int .i64 8)), (some (53, false))⟩,
⟨(some 58), .pick (.t 53) (.c (.bool true)) (.t 57), none⟩])
    (.cond (.t 58) (.seq (.region false [] [
⟨(some 2), .assign (.c (.bool false)), none⟩])
    (.ret)) (.skip)))
    (.seq (.region false [] [
⟨(some 6), .assign (.c (.int .i64 0)), none⟩])
    (.block 4 (.loop (.seq (.seq (.region false [] [
⟨(some 59), .move (.t 6), none⟩,
⟨(some 60), .faddr 15 (.t 5) 3, none⟩,
⟨(some 61), .load 16 (.t 60), none⟩,
⟨(some 62), .len 16 (.t 61), none⟩,
⟨(some 63), .bin .lss 2 (.t 59) (.t 62), none⟩])
    (.cond (.t 63) (.skip) (.exit 4)))
    (.seq (.block 5 (.seq (.region false [] [
⟨(some 66), .faddr 15 (.t 5) 3, none⟩,
⟨(some 67), .load 16 (.t 66), none⟩,
⟨(some 68), .move (.t 6), none⟩,
⟨(some 69), .iaddr 16 (.t 67) (.t 68), none⟩,
⟨(some 70), .faddr 17 (.t 69) 3, none⟩,
⟨(some 71), .load 18 (.t 70), none⟩,
⟨(some 72), .len 18 (.t 71), none⟩,
⟨(some 73), .bin .gtr 2 (.t 72) (.c (.int .i64 12)), none⟩])
    (.cond (.t 73) (.seq (.region false [] [
⟨(some 2), .assign (.c (.bool false)), none⟩])
    (.ret)) (.skip))))
    (.region false [] [
⟨(some 64), .move (.t 6), none⟩,
⟨(some 65), .bin .add 2 (.t 64) (.c (.int .i64 1)), none⟩,
⟨(some 6), .assign (.t 65), none⟩])))))))))
    (.region false [] [
⟨(some 42), .move (.t 4), none⟩,
⟨(some 43), .bin .add 2 (.t 42) (.c (.int .i64 1)), none⟩,
⟨(some 4), .assign (.t 43), none⟩]))))))
    (.seq (.region false [] [
⟨(some 74), .load 0 (.t 1), none⟩,
⟨(some 75), .call 0 (.f 61) [(.t 74), (.c (.int .i64 2000))], none⟩,
⟨(some 76), .bin .lss 2 (.t 75) (.c (.int .i64 2000)), none⟩,
⟨(some 2), .assign (.t 76), none⟩])
    (.ret)))))⟩

def f3 : DFn := ⟨89, [.cell 4 6, .tmp 5],
    .seq (.region false [] [
⟨(some 2), .box 0 (.t 0), none⟩,
⟨(some 4), .alloc 6, none⟩,
⟨(some 5), .assign (.c (.int .i64 0)), none⟩])
    (.seq (.seq (.region false [] [
⟨(some 14), .load 0 (.t 2), none⟩,
⟨(some 15), .move (.t 1), none⟩,
⟨(some 16), .call 0 (.f 62) [(.t 14), (.t 15)], none⟩,
⟨(some 5), .assign (.t 16), none⟩])
    (.seq (.region false [] [
⟨(some 17), .move (.t 5), none⟩,
⟨(some 18), .bin .neq 3 (.t 17) (.c (.int .i64 0)), none⟩])
    (.cond (.t 18) (.seq (.region false [] [
⟨(some 19), .move (.t 5), none⟩,
⟨none, .store 6 (.t 4) (.c (.imm .exact [])), none⟩,
⟨(some 5), .assign (.t 19), none⟩])
    (.ret)) (.skip))))
    (.seq (.region false [] [
⟨(some 20), .mkslice true 6 (.c (.int .i64 4)) (.c (.int .i64 4)), none⟩,
⟨none, .store 6 (.t 4) (.t 20), none⟩])
    (.seq (.seq (.region false [] [
⟨(some 21), .faddr 0 (.t 2) 1, none⟩,
⟨(some 22), .load 9 (.t 21), none⟩,
⟨(some 23), .len 9 (.t 22), none⟩,
⟨(some 24), .move (.c (.int .i64 0)), none⟩])
    (.block 0 (.loop (.seq (.region false [] [
⟨(some 25), .bin .lss 2 (.t 24) (.t 23), none⟩])
    (.seq (.cond (.t 25) (.skip) (.exit 0))
    (.seq (.block 1 (.seq (.region false [] [
⟨(some 26), .move (.t 24), none⟩,
⟨(some 27), .iaddr 9 (.t 22) (.t 24), none⟩,
⟨(some 28), .load 6 (.t 27), none⟩,
⟨(some 6), .assign (.t 26), none⟩,
⟨(some 7), .assign (.t 28), none⟩])
    (.seq (.region false [] [
⟨(some 30), .load 0 (.t 2), none⟩,
⟨(some 31), .move (.t 1), none⟩,
⟨(some 32), .move (.t 6), none⟩,
⟨(some 33), .call 0 (.f 14) [(.t 30), (.t 31), (.t 32)], none⟩,
⟨(some 29), .move (.t 33), none⟩,
⟨(some 34), .extract (.t 29) 0, none⟩,
⟨(some 35), .extract (.t 29) 1, none⟩,
⟨(some 8), .assign (.t 34), none⟩,
⟨(some 9), .assign (.t 35), none⟩])
    (.seq (.region false [] [
⟨(some 36), .move (.t 8), none⟩,
⟨(some 37), .len 6 (.t 36), none⟩,
⟨(some 38), .move (.c (.int .i64 0)), none⟩])
    (.block 2 (.loop (.seq (.region false [] [
⟨(some 39), .bin .lss 2 (.t 38) (.t 37), none⟩])
    (.seq (.cond (.t 39) (.skip) (.exit 2))
    (.seq (.block 3 (.seq (.region false [] [
⟨(some 40), .move (.t 38), none⟩,
⟨(some 41), .iaddr 6 (.t 36) (.t 38), none⟩,
⟨(some 42), .load 2 (.t 41), none⟩,
⟨(some 10), .assign (.t 40), none⟩,
⟨(some 11), .assign (.t 42), none⟩])
    (.region true [] [
⟨(some 43), .load 6 (.t 4), none⟩,
⟨(some 44), .iaddr 6 (.t 43) (.c (.int .i64 0)), none⟩,
⟨(some 45), .load 2 (.t 44), none⟩,
⟨(some 46), .move (.t 11), none⟩,
⟨(some 47), .move (.t 7), none⟩,
⟨(some 48), .move (.t 10), none⟩,
⟨(some 49), .iaddr 6 (.t 47) (.t 48), none⟩,
⟨(some 50), .load 2 (.t 49), none⟩,
⟨(some 51), .bin .sub 2 (.t 46) (.t 50), none⟩,
⟨(some 52), .maxi [(.t 51), (.c (.int .i64 0))], none⟩,
⟨(some 53), .bin .add 2 (.t 45) (.t 52), none⟩,
⟨(some 54), .iaddr 6 (.t 43) (.c (.int .i64 0)), none⟩,
⟨none, .store 2 (.t 54) (.t 53), none⟩])))
    (.region false [] [
⟨(some 55), .bin .add 2 (.t 38) (.c (.int .i64 1)), none⟩,
⟨(some 38), .move (.t 55), none⟩]))))))))))
    (.region false [] [
⟨(some 56), .bin .add 2 (.t 24) (.c (.int .i64 1)), none⟩,
⟨(some 24), .move (.t 56), none⟩])))))))
    (.seq (.seq (.region false [] [
⟨(some 57), .load 0 (.t 2), none⟩,
⟨(some 58), .move (.t 1), none⟩,
⟨(some 59), .call 0 (.f 63) [(.t 57), (.t 58)], none⟩])
    (.block 4 (.rfunc (.t 59) [60, 61] (.seq (.region false [] [
⟨(some 12), .assign (.t 60), none⟩])
    (.region false [] [
⟨(some 13), .alloc 17, none⟩,
⟨none, .store 17 (.t 13) (.t 61), none⟩])) (.block 5 (.seq (.region true [] [
⟨(some 62), .load 6 (.t 4), none⟩,
⟨(some 63), .load 6 (.t 4), none⟩,
⟨(some 64), .iaddr 6 (.t 63) (.c (.int .i64 1)), none⟩,
⟨(some 65), .load 2 (.t 64), none⟩,
⟨(some 66), .faddr 17 (.t 13) 0, none⟩,
⟨(some 67), .load 2 (.t 66), none⟩,
⟨(some 68), .maxi [(.t 65), (.t 67)], none⟩,
⟨(some 69), .iaddr 6 (.t 62) (.c (.int .i64 1)), none⟩,
⟨none, .store 2 (.t 69) (.t 68), none⟩])
    (.seq (.region true [] [
⟨(some 70), .load 6 (.t 4), none⟩,
⟨(some 71), .iaddr 6 (.t 70) (.c (.int .i64 2)), none⟩,
⟨(some 72), .load 2 (.t 71), none⟩,
⟨(some 73), .faddr 17 (.t 13) 1, none⟩,
⟨(some 74), .load 2 (.t 73), none⟩,
⟨(some 75), .move (.t 12), none⟩,
⟨(some 76), .bin .mul 2 (.t 74) (.t 75), none⟩,
⟨(some 77), .bin .add 2 (.t 72) (.t 76), none⟩,
⟨(some 78), .iaddr 6 (.t 70) (.c (.int .i64 2)), none⟩,
⟨none, .store 2 (.t 78) (.t 77), none⟩])
    (.region true [] [
⟨(some 79), .load 6 (.t 4), none⟩,
⟨(some 80), .iaddr 6 (.t 79) (.c (.int .i64 3)), none⟩,
⟨(some 81), .load 2 (.t 80), none⟩,
⟨(some 82), .faddr 17 (.t 13) 2, none⟩,
⟨(some 83), .load 2 (.t 82), none⟩,
⟨(some 84), .move (.t 12), none⟩,
⟨(some 85), .bin .mul 2 (.t 83) (.t 84), none⟩,
⟨(some 86), .bin .add 2 (.t 81) (.t 85), none⟩,
⟨(some 87), .iaddr 6 (.t 79) (.c (.int .i64 3)), none⟩,
⟨none, .store 2 (.t 87) (.t 86), none⟩])))))))
    (.seq (.region false [] [
⟨(some 88), .load 6 (.t 4), none⟩,
⟨none, .store 6 (.t 4) (.t 88), none⟩,
⟨(some 5), .assign (.c (.int .i64 0)), none⟩])
    (.ret))))))⟩

def f4 : DFn := ⟨136, [.tmp 4, .tmp 5],
    .seq (.region false [] [
⟨(some 2), .box 0 (.t 0), none⟩,
⟨(some 4), .assign (.c (.imm .exact [])), none⟩,
⟨(some 5), .assign (.c (.int .i64 0)), none⟩])
    (.seq (.region false [] [
⟨(some 15), .load 0 (.t 2), none⟩,
⟨(some 16), .move (.t 1), none⟩,
⟨(some 17), .call 0 (.f 64) [(.t 15), (.t 16)], none⟩,
⟨(some 6), .assign (.t 17), none⟩])
    (.seq (.seq (.region false [] [
⟨(some 18), .move (.t 6), none⟩,
⟨(some 19), .bin .neq 3 (.t 18) (.c (.int .i64 0)), none⟩])
    (.cond (.t 19) (.seq (.region false [] [
⟨(some 20), .move (.t 6), none⟩,
⟨(some 4), .assign (.c (.imm .exact [])), none⟩,
⟨(some 5), .assign (.t 20), none⟩])
    (.ret)) (.skip)))
    (.seq (.region false [] [
⟨(some 21), .bslice true 6 4 [(0, (.c (.int .i64 0))), (1, (.c (.int .i64 0))), (2, (.c (.int .i64 0))), (3, (.c (.int .i64 0)))], none⟩,
⟨(some 7), .assign (.t 21), none⟩])
    (.seq (.seq (.region false [] [
⟨(some 8), .assign (.c (.int .i64 0)), none⟩])
    (.block 0 (.loop (.seq (.seq (.region false [] [
⟨(some 22), .move (.t 8), none⟩,
⟨(some 23), .faddr 0 (.t 2) 1, none⟩,
⟨(some 24), .load 9 (.t 23), none⟩,
⟨(some 25), .len 9 (.t 24), none⟩,
⟨(some 26), .bin .lss 2 (.t 22) (.t 25), none⟩])
    (.cond (.t 26) (.skip) (.exit 0)))
    (.seq (.block 1 (.seq (.region false [] [
⟨(some 30), .load 0 (.t 2), none⟩,
⟨(some 31), .move (.t 1), none⟩,
⟨(some 32), .move (.t 8), none⟩,
⟨(some 33), .call 0 (.f 18) [(.t 30), (.t 31), (.t 32)], none⟩,
⟨(some 29), .move (.t 33), none⟩,
⟨(some 34), .extract (.t 29) 0, none⟩,
⟨(some 35), .extract (.t 29) 1, none⟩,
⟨(some 9), .assign (.t 34), none⟩,
⟨(some 10), .assign (.t 35), none⟩])
    (.seq (.region false [] [
⟨(some 11), .assign (.c (.int .i64 0)), none⟩])
    (.block 2 (.loop (.seq (.seq (.region false [] [
⟨(some 36), .move (.t 11), none⟩,
⟨(some 37), .move (.t 9), none⟩,
⟨(some 38), .len 6 (.t 37), none⟩,
⟨(some 39), .bin .lss 2 (.t 36) (.t 38), none⟩])
    (.cond (.t 39) (.skip) (.exit 2)))
    (.seq (.block 3 (.seq (.region true [] [
⟨(some 42), .move (.t 9), none⟩,
⟨(some 43), .move (.t 11), none⟩,
⟨(some 44), .iaddr 6 (.t 42) (.t 43), none⟩,
⟨(some 45), .load 2 (.t 44), none⟩,
⟨(some 46), .faddr 0 (.t 2) 1, none⟩,
⟨(some 47), .load 9 (.t 46), none⟩,
⟨(some 48), .move (.t 8), none⟩,
⟨(some 49), .iaddr 9 (.t 47) (.t 48), none⟩,
⟨(some 50), .load 6 (.t 49), none⟩,
⟨(some 51), .move (.t 11), none⟩,
⟨(some 52), .iaddr 6 (.t 50) (.t 51), none⟩,
⟨(some 53), .load 2 (.t 52), none⟩,
⟨(some 54), .bin .gtr 2 (.t 45) (.t 53), none⟩])
    (.cond (.t 54) (.region true [] [
⟨(some 55), .move (.t 7), none⟩,
⟨(some 56), .move (.t 7), none⟩,
⟨(some 57), .iaddr 6 (.t 56) (.c (.int .i64 0)), none⟩,
⟨(some 58), .load 2 (.t 57), none⟩,
⟨(some 59), .move (.t 9), none⟩,
⟨(some 60), .move (.t 11), none⟩,
⟨(some 61), .iaddr 6 (.t 59) (.t 60), none⟩,
⟨(some 62), .load 2 (.t 61), none⟩,
⟨(some 63), .bin .add 2 (.t 58) (.t 62), none⟩,
⟨(some 64), .faddr 0 (.t 2) 1, none⟩,
⟨(some 65), .load 9 (.t 64), none⟩,
⟨(some 66), .move (.t 8), none⟩,
⟨(some 67), .iaddr 9 (.t 65) (.t 66), none⟩,
⟨(some 68), .load 6 (.t 67), none⟩,
⟨(some 69), .move (.t 11), none⟩,
⟨(some 70), .iaddr 6 (.t 68) (.t 69), none⟩,
⟨(some 71), .load 2 (.t 70), none⟩,
⟨(some 72), .bin .sub 2 (.t 63) (.t 71), none⟩,
⟨(some 73), .iaddr 6 (.t 55) (.c (.int .i64 0)), none⟩,
⟨none, .store 2 (.t 73) (.t 72), none⟩]) (.skip))))
    (.region false [] [
⟨(some 40), .move (.t 11), none⟩,
⟨(some 41), .bin .add 2 (.t 40) (.c (.int .i64 1)), none⟩,
⟨(some 11), .assign (.t 41), none⟩]))))))))
    (.region false [] [
⟨(some 27), .move (.t 8), none⟩,
⟨(some 28), .bin .add 2 (.t 27) (.c (.int .i64 1)), none⟩,
⟨(some 8), .assign (.t 28), none⟩]))))))
    (.seq (.seq (.region false [] [
⟨(some 12), .assign (.c (.int .i64 0)), none⟩])
    (.block 4 (.loop (.seq (.seq (.region false [] [
⟨(some 74), .move (.t 12), none⟩,
⟨(some 75), .faddr 0 (.t 2) 2, none⟩,
⟨(some 76), .load 14 (.t 75), none⟩,
⟨(some 77), .len 14 (.t 76), none⟩,
⟨(some 78), .bin .lss 2 (.t 74) (.t 77), none⟩])
    (.cond (.t 78) (.skip) (.exit 4)))
    (.seq (.block 5 (.seq (.region false [] [
⟨(some 81), .faddr 0 (.t 2) 2, none⟩,
⟨(some 82), .load 14 (.t 81), none⟩,
⟨(some 83), .move (.t 12), none⟩,
⟨(some 84), .iaddr 14 (.t 82) (.t 83), none⟩,
⟨(some 85), .load 15 (.t 84), none⟩,
⟨(some 13), .alloc 15, none⟩,
⟨none, .store 15 (.t 13) (.t 85), none⟩])
    (.seq (.region false [] [
⟨(some 86), .faddr 15 (.t 13) 3, none⟩,
⟨(some 87), .load 16 (.t 86), none⟩,
⟨(some 88), .call 0 (.f 65) [(.t 87)], none⟩,
⟨(some 14), .alloc 17, none⟩,
⟨none, .store 17 (.t 14) (.t 88), none⟩])
    (.seq (.seq (.region false [] [
⟨(some 89), .move (.t 12), none⟩,
⟨(some 90), .move (.t 1), none⟩,
⟨(some 91), .len 1 (.t 90), none⟩,
⟨(some 92), .bin .lss 2 (.t 89) (.t 91), none⟩])
    (.cond (.t 92) (.region true [] [
⟨(some 93), .faddr 15 (.t 13) 3, none⟩,
⟨(some 94), .load 16 (.t 93), none⟩,
⟨(some 95), .move (.t 1), none⟩,
⟨(some 96), .move (.t 12), none⟩,
⟨(some 97), .iaddr 1 (.t 95) (.t 96), none⟩,
⟨(some 98), .load 2 (.t 97), none⟩,
⟨(some 99), .iaddr 16 (.t 94) (.t 98), none⟩,
⟨(some 100), .load 17 (.t 99), none⟩,
⟨none, .store 17 (.t 14) (.t 100), none⟩]) (.skip)))
    (.seq (.seq (.region true [] [
⟨(some 101), .faddr 17 (.t 14) 0, none⟩,
⟨(some 102), .load 2 (.t 101), none⟩,
⟨(some 103), .move (.t 7), none⟩,
⟨(some 104), .iaddr 6 (.t 103) (.c (.int .i64 1)), none⟩,
⟨(some 105), .load 2 (.t 104), none⟩,
⟨(some 106), .bin .gtr 2 (.t 102) (.t 105), none⟩])
    (.cond (.t 106) (.region false [] [
⟨(some 107), .move (.t 7), none⟩,
⟨(some 108), .faddr 17 (.t 14) 0, none⟩,
⟨(some 109), .load 2 (.t 108), none⟩,
⟨(some 110), .iaddr 6 (.t 107) (.c (.int .i64 1)), none⟩,
⟨none, .store 2 (.t 110) (.t 109), none⟩]) (.skip)))
    (.seq (.region true [] [
⟨(some 111), .move (.t 7), none⟩,
⟨(some 112), .move (.t 7), none⟩,
⟨(some 113), .iaddr 6 (.t 112) (.c (.int .i64 2)), none⟩,
⟨(some 114), .load 2 (.t 113), none⟩,
⟨(some 115), .faddr 17 (.t 14) 1, none⟩,
⟨(some 116), .load 2 (.t 115), none⟩,
⟨(some 117), .faddr 15 (.t 13) 2, none⟩,
⟨(some 118), .load 6 (.t 117), none⟩,
⟨(some 119), .len 6 (.t 118), none⟩,
⟨(some 120), .bin .mul 2 (.t 116) (.t 119), none⟩,
⟨(some 121), .bin .add 2 (.t 114) (.t 120), none⟩,
⟨(some 122), .iaddr 6 (.t 111) (.c (.int .i64 2)), none⟩,
⟨none, .store 2 (.t 122) (.t 121), none⟩])
    (.region true [] [
⟨(some 123), .move (.t 7), none⟩,
⟨(some 124), .move (.t 7), none⟩,
⟨(some 125), .iaddr 6 (.t 124) (.c (.int .i64 3)), none⟩,
⟨(some 126), .load 2 (.t 125), none⟩,
⟨(some 127), .faddr 17 (.t 14) 2, none⟩,
⟨(some 128), .load 2 (.t 127), none⟩,
⟨(some 129), .faddr 15 (.t 13) 2, none⟩,
⟨(some 130), .load 6 (.t 129), none⟩,
⟨(some 131), .len 6 (.t 130), none⟩,
⟨(some 132), .bin .mul 2 (.t 128) (.t 131), none⟩,
⟨(some 133), .bin .add 2 (.t 126) (.t 132), none⟩,
⟨(some 134), .iaddr 6 (.t 123) (.c (.int .i64 3)), none⟩,
⟨none, .store 2 (.t 134) (.t 133), none⟩])))))))
    (.region false [] [
⟨(some 79), .move (.t 12), none⟩,
⟨(some 80), .bin .add 2 (.t 79) (.c (.int .i64 1)), none⟩,
⟨(some 12), .assign (.t 80), none⟩]))))))
    (.seq (.region false [] [
⟨(some 135), .move (.t 7), none⟩,
⟨(some 4), .assign (.t 135), none⟩,
⟨(some 5), .assign (.c (.int .i64 0)), none⟩])
    (.ret)))))))⟩

def f5 : DFn := ⟨15, [.tmp 4],
    .seq (.region false [] [
⟨(some 4), .assign (.c (.bool false)), none⟩])
    (.seq (.region false [] [
⟨(some 5), .move (.t 0), none⟩,
⟨(some 6), .len 6 (.t 5), none⟩,
⟨(some 7), .move (.t 1), none⟩,
⟨(some 8), .len 6 (.t 7), none⟩,
⟨(some 9), .bin .eql 2 (.t 6) (.t 8), none⟩,
⟨(some 10), .move (.t 9), none⟩,
⟨(some 11), .move (.t 0), (some (10, true))⟩,
⟨(some 12), .move (.t 1), (some (10, true))⟩,
⟨(some 13), .call 0 (.f 57) [(.t 11), (.t 12)], (some (10, true))⟩,
⟨(some 14), .pick (.t 10) (.t 13) (.c (.bool false)), none⟩,
⟨(some 4), .assign (.t 14), none⟩])
    (.ret))⟩

def f7 : DFn := ⟨43, [.tmp 4, .tmp 5],
    .seq (.region false [] [
⟨(some 2), .box 0 (.t 0), none⟩,
⟨(some 4), .assign (.c (.imm .exact [])), none⟩,
⟨(some 5), .assign (.c (.int .i64 0)), none⟩])
    (.seq (.seq (.region false [] [
⟨(some 8), .load 0 (.t 2), none⟩,
⟨(some 9), .move (.t 1), none⟩,
⟨(some 10), .call 0 (.f 62) [(.t 8), (.t 9)], none⟩,
⟨(some 5), .assign (.t 10), none⟩])
    (.seq (.region false [] [
⟨(some 11), .move (.t 5), none⟩,
⟨(some 12), .bin .neq 3 (.t 11) (.c (.int .i64 0)), none⟩])
    (.cond (.t 12) (.seq (.region false [] [
⟨(some 13), .move (.t 5), none⟩,
⟨(some 4), .assign (.c (.imm .exact [])), none⟩,
⟨(some 5), .assign (.t 13), none⟩])
    (.ret)) (.skip))))
    (.seq (.region false [] [
⟨(some 14), .move (.t 1), none⟩,
⟨(some 15), .len 1 (.t 14), none⟩,
⟨(some 6), .assign (.t 15), none⟩])
    (.seq (.seq (.region false [] [
⟨(some 16), .move (.t 6), none⟩,
⟨(some 17), .faddr 0 (.t 2) 2, none⟩,
⟨(some 18), .load 14 (.t 17), none⟩,
⟨(some 19), .len 14 (.t 18), none⟩,
⟨(some 20), .bin .eql 2 (.t 16) (.t 19), none⟩])
    (.cond (.t 20) (.seq (.region false [] [
⟨(some 4), .assign (.c (.imm .exact [])), none⟩,
⟨(some 5), .assign (.c (.int .i64 280)), none⟩])
    (.ret)) (.skip)))
    (.seq (.seq (.region false [] [
⟨(some 21), .faddr 0 (.t 2) 2, none⟩,
⟨(some 22), .load 14 (.t 21), none⟩,
⟨(some 23), .move (.t 6), none⟩,
⟨(some 24), .iaddr 14 (.t 22) (.t 23), none⟩,
⟨(some 25), .faddr 15 (.t 24) 3, none⟩,
⟨(some 26), .load 16 (.t 25), none⟩,
⟨(some 27), .len 16 (.t 26), none⟩,
⟨(some 28), .move (.c (.int .i64 0)), none⟩])
    (.block 0 (.loop (.seq (.region false [] [
⟨(some 29), .bin .lss 2 (.t 28) (.t 27), none⟩])
    (.seq (.cond (.t 29) (.skip) (.exit 0))
    (.seq (.block 1 (.seq (.region false [] [
⟨(some 30), .move (.t 28), none⟩,
⟨(some 7), .assign (.t 30), none⟩])
    (.region false [] [
⟨(some 31), .move (.t 4), none⟩,
⟨(some 32), .move (.t 1), none⟩,
⟨(some 33), .move (.t 6), none⟩,
⟨(some 34), .move (.t 6), none⟩,
⟨(some 35), .slice 1 (.t 32) none (some (.t 33)) (some (.t 34)), none⟩,
⟨(some 36), .move (.t 7), none⟩,
⟨(some 37), .bslice false 1 1 [(0, (.t 36))], none⟩,
⟨(some 38), .append 0 1 1 (.t 35) (.t 37), none⟩,
⟨(some 39), .bslice false 4 1 [(0, (.t 38))], none⟩,
⟨(some 40), .append 0 4 4 (.t 31) (.t 39), none⟩,
⟨(some 4), .assign (.t 40), none⟩])))
    (.region false [] [
⟨(some 41), .bin .add 2 (.t 28) (.c (.int .i64 1)), none⟩,
⟨(some 28), .move (.t 41), none⟩])))))))
    (.seq (.region false [] [
⟨(some 42), .move (.t 4), none⟩,
⟨(some 4), .assign (.t 42), none⟩,
⟨(some 5), .assign (.c (.int .i64 0)), none⟩])
    (.ret))))))⟩

def f9 : DFn := ⟨20, [.tmp 4, .tmp 5],
    .seq (.region false [] [
⟨(some 2), .box 0 (.t 0), none⟩,
⟨(some 4), .assign (.c (.imm .exact [])), none⟩,
⟨(some 5), .assign (.c (.int .i64 0)), none⟩])
    (.seq (.seq (.region false [] [
⟨(some 6), .load 0 (.t 2), none⟩,
⟨(some 7), .move (.t 1), none⟩,
⟨(some 8), .call 0 (.f 62) [(.t 6), (.t 7)], none⟩,
⟨(some 5), .assign (.t 8), none⟩])
    (.seq (.region false [] [
⟨(some 9), .move (.t 5), none⟩,
⟨(some 10), .bin .neq 3 (.t 9) (.c (.int .i64 0)), none⟩])
    (.cond (.t 10) (.seq (.region false [] [
⟨(some 11), .move (.t 5), none⟩,
⟨(some 4), .assign (.c (.imm .exact [])), none⟩,
⟨(some 5), .assign (.t 11), none⟩])
    (.ret)) (.skip))))
    (.seq (.region false [] [
⟨(some 12), .faddr 0 (.t 2) 2, none⟩,
⟨(some 13), .load 14 (.t 12), none⟩,
⟨(some 14), .len 14 (.t 13), none⟩,
⟨(some 15), .mkslice true 6 (.t 14) (.t 14), none⟩,
⟨(some 4), .assign (.t 15), none⟩])
    (.seq (.region false [] [
⟨(some 16), .move (.t 4), none⟩,
⟨(some 17), .move (.t 1), none⟩,
⟨(some 18), .copy 6 1 (.t 16) (.t 17), none⟩])
    (.seq (.region false [] [
⟨(some 19), .move (.t 4), none⟩,
⟨(some 4), .assign (.t 19), none⟩,
⟨(some 5), .assign (.c (.int .i64 0)), none⟩])
    (.ret)))))⟩

def f11 : DFn := ⟨27, [.tmp 4],
    .seq (.region false [] [
⟨(some 4), .assign (.c (.bool false)), none⟩])
    (.seq (.seq (.region false [] [
⟨(some 6), .move (.t 0), none⟩,
⟨(some 7), .len 4 (.t 6), none⟩,
⟨(some 8), .move (.t 1), none⟩,
⟨(some 9), .len 4 (.t 8), none⟩,
⟨(some 10), .bin .neq 2 (.t 7) (.t 9), none⟩])
    (.cond (.t 10) (.seq (.region false [] [
⟨(some 4), .assign (.c (.bool false)), none⟩])
    (.ret)) (.skip)))
    (.seq (.seq (.region false [] [
⟨(some 5), .assign (.c (.int .i64 0)), none⟩])
    (.block 0 (.loop (.seq (.seq (.region false [] [
⟨(some 11), .move (.t 5), none⟩,
⟨(some 12), .move (.t 0), none⟩,
⟨(some 13), .len 4 (.t 12), none⟩,
⟨(some 14), .bin .lss 2 (.t 11) (.t 13), none⟩])
    (.cond (.t 14) (.skip) (.exit 0)))
    (.seq (.block 1 (.seq (.region true [] [
⟨(some 17), .move (.t 0), none⟩,
⟨(some 18), .move (.t 5), none⟩,
⟨(some 19), .iaddr 4 (.t 17) (.t 18), none⟩,
⟨(some 20), .load 1 (.t 19), none⟩,
⟨(some 21), .move (.t 1), none⟩,
⟨(some 22), .move (.t 5), none⟩,
⟨(some 23), .iaddr 4 (.t 21) (.t 22), none⟩,
⟨(some 24), .load 1 (.t 23), none⟩,
⟨(some 25), .call 0 (.f 5) [(.t 20), (.t 24)], none⟩,
⟨(some 26), .un .not (.t 25), none⟩])
    (.cond (.t 26) (.seq (.region false [] [
⟨(some 4), .assign (.c (.bool false)), none⟩])
    (.ret)) (.skip))))
    (.region false [] [
⟨(some 15), .move (.t 5), none⟩,
⟨(some 16), .bin .add 2 (.t 15) (.c (.int .i64 1)), none⟩,
⟨(some 5), .assign (.t 16), none⟩]))))))
    (.seq (.region false [] [
⟨(some 4), .assign (.c (.bool true)), none⟩])
    (.ret))))⟩

def f14 : DFn := ⟨27, [.tmp 6, .tmp 7],
    .seq (.region false [] [
⟨(some 3), .box 0 (.t 0), none⟩,
⟨(some 6), .assign (.c (.imm .exact [])), none⟩,
⟨(some 7), .assign (.c (.int .i64 0)), none⟩])
    (.seq (.seq (.region false [] [
⟨(some 8), .load 0 (.t 3), none⟩,
⟨(some 9), .move (.t 1), none⟩,
⟨(some 10), .call 0 (.f 66) [(.t 8), (.t 9)], none⟩,
⟨(some 7), .assign (.t 10), none⟩])
    (.seq (.region false [] [
⟨(some 11), .move (.t 7), none⟩,
⟨(some 12), .bin .neq 3 (.t 11) (.c (.int .i64 0)), none⟩])
    (.cond (.t 12) (.seq (.region false [] [
⟨(some 13), .move (.t 7), none⟩,
⟨(some 6), .assign (.c (.imm .exact [])), none⟩,
⟨(some 7), .assign (.t 13), none⟩])
    (.ret)) (.skip))))
    (.seq (.seq (.region false [] [
⟨(some 14), .move (.t 2), none⟩,
⟨(some 15), .faddr 0 (.t 3) 1, none⟩,
⟨(some 16), .load 9 (.t 15), none⟩,
⟨(some 17), .len 9 (.t 16), none⟩,
⟨(some 18), .bin .sub 2 (.t 17) (.c (.int .i64 1)), none⟩,
⟨(some 19), .call 0 (.f 67) [(.t 14), (.c (.int .i64 0)), (.t 18)], none⟩,
⟨(some 20), .un .not (.t 19), none⟩])
    (.cond (.t 20) (.seq (.region false [] [
⟨(some 6), .assign (.c (.imm .exact [])), none⟩,
⟨(some 7), .assign (.c (.int .i64 270)), none⟩])
    (.ret)) (.skip)))
    (.seq (.region false [] [
⟨(some 21), .load 0 (.t 3), none⟩,
⟨(some 22), .move (.t 1), none⟩,
⟨(some 23), .call 0 (.f 68) [(.t 21), (.t 22)], none⟩,
⟨(some 24), .move (.t 2), none⟩,
⟨(some 25), .iaddr 9 (.t 23) (.t 24), none⟩,
⟨(some 26), .load 6 (.t 25), none⟩,
⟨(some 6), .assign (.t 26), none⟩,
⟨(some 7), .assign (.c (.int .i64 0)), none⟩])
    (.ret))))⟩

def f15 : DFn := ⟨173, [.tmp 2],
    .seq (.region false [] [
⟨(some 1), .box 0 (.t 0), none⟩,
⟨(some 2), .assign (.c (.int .i64 0)), none⟩])
    (.seq (.seq (.region false [] [
⟨(some 15), .faddr 0 (.t 1) 0, none⟩,
⟨(some 16), .load 10 (.t 15), none⟩,
⟨(some 17), .len 10 (.t 16), none⟩,
⟨(some 18), .bin .gtr 2 (.t 17) (.c (.int .i64 4096)), none⟩,
⟨(some 19), .move (.t 18), none⟩,
⟨(some 20), .faddr 0 (.t 1) 1, (some (19, false))⟩,
⟨(some 21), .load 9 (.t 20), (some (19, false))⟩,
⟨(some 22), .len 9 (.t 21), (some (19, false))⟩,
⟨(some 23), .call 0 (.f 67) [(.t 22), (.c (.int .i64 1)), (.c (.int .i64 32))], (some (19, false))⟩,
⟨(some 24), .un .not (.t 23), (some (19, false))⟩,
⟨(some 25), .pick (.t 19) (.c (.bool true)) (.t 24), none⟩,
⟨(some 26), .move (.t 25), none⟩,
⟨(some 27), .faddr 0 (.t 1) 2, (some (26, false))⟩,
⟨(some 28), .load 14 (.t 27), (some (26, false))⟩,
⟨(some 29), .len 14 (.t 28), (some (26, false))⟩,
⟨(some 30), .bin .gtr 2 (.t 29) (.c (.int .i64 64)), (some (26, false))⟩,
⟨(some 31), .pick (.t 26) (.c (.bool true)) (.t 30), none⟩,
⟨(some 32), .move (.t 31), none⟩,
⟨(some 33), .faddr 0 (.t 1) 0, (some (32, false))⟩,
⟨(some 34), .load 10 (.t 33), (some (32, false))⟩,
⟨(some 35), .call 0 (.f 69) [(.t 34), (.f 70)], (some (32, false))⟩,
⟨(some 36), .un .not (.t 35), (some (32, false))⟩,
⟨(some 37), .pick (.t 32) (.c (.bool true)) (.t 36), none⟩])
    (.cond (.t 37) (.seq (.region false [] [
⟨(some 2), .assign (.c (.int .i64 270)), none⟩])
    (.ret)) (.skip)))
    (.seq (.region false [] [
⟨(some 38), .mkmap 21, none⟩,
⟨(some 3), .assign (.t 38), none⟩])
    (.seq (.seq (.region false [] [
⟨(some 39), .faddr 0 (.t 1) 0, none⟩,
⟨(some 40), .load 10 (.t 39), none⟩,
⟨(some 41), .len 10 (.t 40), none⟩,
⟨(some 42), .move (.c (.int .i64 0)), none⟩])
    (.block 0 (.loop (.seq (.region false [] [
⟨(some 43), .bin .lss 2 (.t 42) (.t 41), none⟩])
    (.seq (.cond (.t 43) (.skip) (.exit 0))
    (.seq (.block 1 (.seq (.region false [] [
⟨(some 44), .iaddr 10 (.t 40) (.t 42), none⟩,
⟨(some 45), .load 20 (.t 44), none⟩,
⟨(some 5), .alloc 20, none⟩,
⟨none, .store 20 (.t 5) (.t 45), none⟩])
    (.seq (.seq (.region false [] [
⟨(some 46), .faddr 20 (.t 5) 1, none⟩,
⟨(some 47), .load 2 (.t 46), none⟩,
⟨(some 48), .bin .lss 2 (.t 47) (.c (.int .i64 0)), none⟩,
⟨(some 49), .move (.t 48), none⟩,
⟨(some 50), .faddr 20 (.t 5) 2, (some (49, false))⟩,
⟨(some 51), .load 2 (.t 50), (some (49, false))⟩,
⟨(some 52), .bin .lss 2 (.t 51) (.c (.int .i64 0)), (some (49, false))⟩,
⟨(some 53), .pick (.t 49) (.c (.bool true)) (.t 52), none⟩])
    (.cond (.t 53) (.seq (.region false [] [
⟨(some 2), .assign (.c (.int .i64 270)), none⟩])
    (.ret)) (.skip)))
    (.region false [] [
⟨(some 54), .move (.t 3), none⟩,
⟨(some 55), .load 20 (.t 5), none⟩,
⟨none, .mapset 21 (.t 54) (.t 55) (.c (.bool true)), none⟩]))))
    (.region false [] [
⟨(some 56), .bin .add 2 (.t 42) (.c (.int .i64 1)), none⟩,
⟨(some 42), .move (.t 56), none⟩])))))))
    (.seq (.seq (.region false [] [
⟨(some 57), .faddr 0 (.t 1) 1, none⟩,
⟨(some 58), .load 9 (.t 57), none⟩,
⟨(some 59), .len 9 (.t 58), none⟩,
⟨(some 60), .move (.c (.int .i64 0)), none⟩])
    (.block 2 (.loop (.seq (.region false [] [
⟨(some 61), .bin .lss 2 (.t 60) (.t 59), none⟩])
    (.seq (.cond (.t 61) (.skip) (.exit 2))
    (.seq (.block 3 (.seq (.region false [] [
⟨(some 62), .iaddr 9 (.t 58) (.t 60), none⟩,
⟨(some 63), .load 6 (.t 62), none⟩,
⟨(some 7), .assign (.t 63), none⟩])
    (.seq (.region false [] [
⟨(some 64), .move (.t 7), none⟩,
⟨(some 65), .len 6 (.t 64), none⟩,
⟨(some 66), .faddr 0 (.t 1) 0, none⟩,
⟨(some 67), .load 10 (.t 66), none⟩,
⟨(some 68), .len 10 (.t 67), none⟩,
⟨(some 69), .bin .neq 2 (.t 65) (.t 68), none⟩,
⟨(some 70), .move (.t 69), none⟩,
⟨(some 71), .move (.t 7), (some (70, false))⟩,
⟨(some 72), .call 0 (.f 71) [(.t 71), (.f 72)], (some (70, false))⟩,
⟨(some 73), .pick (.t 70) (.c (.bool true)) (.t 72), none⟩])
    (.cond (.t 73) (.seq (.region false [] [
⟨(some 2), .assign (.c (.int .i64 270)), none⟩])
    (.ret)) (.skip)))))
    (.region false [] [
⟨(some 74), .bin .add 2 (.t 60) (.c (.int .i64 1)), none⟩,
⟨(some 60), .move (.t 74), none⟩])))))))
    (.seq (.seq (.region false [] [
⟨(some 75), .faddr 0 (.t 1) 2, none⟩,
⟨(some 76), .load 14 (.t 75), none⟩,
⟨(some 77), .len 14 (.t 76), none⟩,
⟨(some 78), .move (.c (.int .i64 0)), none⟩])
    (.block 4 (.loop (.seq (.region false [] [
⟨(some 79), .bin .lss 2 (.t 78) (.t 77), none⟩])
    (.seq (.cond (.t 79) (.skip) (.exit 4))
    (.seq (.block 5 (.seq (.region false [] [
⟨(some 80), .iaddr 14 (.t 76) (.t 78), none⟩,
⟨(some 81), .load 15 (.t 80), none⟩,
⟨(some 9), .alloc 15, none⟩,
⟨none, .store 15 (.t 9) (.t 81), none⟩])
    (.seq (.seq (.region true [] [
⟨(some 82), .faddr 15 (.t 9) 2, none⟩,
⟨(some 83), .load 6 (.t 82), none⟩,
⟨(some 84), .len 6 (.t 83), none⟩,
⟨(some 85), .bin .eql 2 (.t 84) (.c (.int .i64 0)), none⟩,
⟨(some 86), .move (.t 85), none⟩,
⟨(some 87), .faddr 15 (.t 9) 3, (some (86, false))⟩,
⟨(some 88), .load 16 (.t 87), (some (86, false))⟩,
⟨(some 89), .len 16 (.t 88), (some (86, false))⟩,
⟨(some 90), .call 0 (.f 67) [(.t 89), (.c (.int .i64 1)), (.c (.int .i64 96))], (some (86, false))⟩,
⟨(some 91), .un .not (.t 90), (some (86, false))⟩,
⟨(some 92), .pick (.t 86) (.c (.bool true)) (.t 91), none⟩,
⟨(some 93), .move (.t 92), none⟩,
⟨(some 94), .faddr 15 (.t 9) 2, (some (93, false))⟩,
⟨(some 95), .load 6 (.t 94), (some (93, false))⟩,
⟨(some 96), .call 0 (.f 73) [(.t 95), (.f 74)], (some (93, false))⟩,
⟨(some 97), .un .not (.t 96), (some (93, false))⟩,
⟨(some 98), .pick (.t 93) (.c (.bool true)) (.t 97), none⟩,
⟨(some 99), .move (.t 98), none⟩,
⟨(some 100), .faddr 15 (.t 9) 2, (some (99, false))⟩,
⟨(some 101), .load 6 (.t 100), (some (99, false))⟩,
⟨(some 102), .iaddr 6 (.t 101) (.c (.int .i64 0)), (some (99, false))⟩,
⟨(some 103), .load 2 (.t 102), (some (99, false))⟩,
⟨(some 104), .bin .lss 2 (.t 103) (.c (.int .i64 0)), (some (99, false))⟩,
⟨(some 105), .pick (.t 99) (.c (.bool true)) (.t 104), none⟩,
⟨(some 106), .move (.t 105), none⟩,
⟨(some 107), .faddr 15 (.t 9) 2, (some (106, false))⟩,
⟨(some 108), .load 6 (.t 107), (some (106, false))⟩,
⟨(some 109), .faddr 15 (.t 9) 2, (some (106, false))⟩,
⟨(some 110), .load 6 (.t 109), (some (106, false))⟩,
⟨(some 111), .len 6 (.t 110), (some (106, false))⟩,
⟨(some 112), .bin .sub 2 (.t 111) (.c (.int .i64 1)), (some (106, false))⟩,
⟨(some 113), .iaddr 6 (.t 108) (.t 112), (some (106, false))⟩,
⟨(some 114), .load 2 (.t 113), (some (106, false))⟩,
⟨(some 115), .faddr 0 (.t 1) 1, (some (106, false))⟩,
⟨(some 116), .load 9 (.t 115), (some (106, false))⟩,
⟨(some 117), .len 9 (.t 116), (some (106, false))⟩,
⟨(some 118), .bin .geq 2 (.t 114) (.t 117), (some (106, false))⟩,
⟨(some 119), .pick (.t 106) (.c (.bool true)) (.t 118), none⟩])
    (.cond (.t 119) (.seq (.region false [] [
⟨(some 2), .assign (.c (.int .i64 270)), none⟩])
    (.ret)) (.skip)))
    (.seq (.region false [] [
⟨(some 120), .faddr 15 (.t 9) 3, none⟩,
⟨(some 121), .load 16 (.t 120), none⟩,
⟨(some 122), .len 16 (.t 121), none⟩,
⟨(some 123), .move (.c (.int .i64 0)), none⟩])
    (.block 6 (.loop (.seq (.region false [] [
⟨(some 124), .bin .lss 2 (.t 123) (.t 122), none⟩])
    (.seq (.cond (.t 124) (.skip) (.exit 6))
    (.seq (.block 7 (.seq (.region false [] [
⟨(some 125), .iaddr 16 (.t 121) (.t 123), none⟩,
⟨(some 126), .load 17 (.t 125), none⟩,
⟨(some 11), .alloc 17, none⟩,
⟨none, .store 17 (.t 11) (.t 126), none⟩])
    (.seq (.region false [] [
⟨(some 12), .assign (.c (.int .i64 1048576)), none⟩])
    (.seq (.seq (.region false [] [
⟨(some 127), .faddr 17 (.t 11) 0, none⟩,
⟨(some 128), .load 2 (.t 127), none⟩,
⟨(some 129), .move (.t 12), none⟩,
⟨(some 130), .call 0 (.f 67) [(.t 128), (.c (.int .i64 0)), (.t 129)], none⟩,
⟨(some 131), .un .not (.t 130), none⟩,
⟨(some 132), .move (.t 131), none⟩,
⟨(some 133), .faddr 17 (.t 11) 1, (some (132, false))⟩,
⟨(some 134), .load 2 (.t 133), (some (132, false))⟩,
⟨(some 135), .move (.t 12), (some (132, false))⟩,
⟨(some 136), .call 0 (.f 67) [(.t 134), (.c (.int .i64 0)), (.t 135)], (some (132, false))⟩,
⟨(some 137), .un .not (.t 136), (some (132, false))⟩,
⟨(some 138), .pick (.t 132) (.c (.bool true)) (.t 137), none⟩,
⟨(some 139), .move (.t 138), none⟩,
⟨(some 140), .faddr 17 (.t 11) 2, (some (139, false))⟩,
⟨(some 141), .load 2 (.t 140), (some (139, false))⟩,
⟨(some 142), .move (.t 12), (some (139, false))⟩,
⟨(some 143), .call 0 (.f 67) [(.t 141), (.c (.int .i64 0)), (.t 142)], (some (139, false))⟩,
⟨(some 144), .un .not (.t 143), (some (139, false))⟩,
⟨(some 145), .pick (.t 139) (.c (.bool true)) (.t 144), none⟩,
⟨(some 146), .move (.t 145), none⟩,
⟨(some 147), .faddr 17 (.t 11) 3, (some (146, false))⟩,
⟨(some 148), .load 18 (.t 147), (some (146, false))⟩,
⟨(some 149), .call 0 (.f 75) [(.t 148), (.f 76)], (some (146, false))⟩,
⟨(some 150), .un .not (.t 149), (some (146, false))⟩,
⟨(some 151), .pick (.t 146) (.c (.bool true)) (.t 150), none⟩])
    (.cond (.t 151) (.seq (.region false [] [
⟨(some 2), .assign (.c (.int .i64 270)), none⟩])
    (.ret)) (.skip)))
    (.seq (.region false [] [
⟨(some 152), .faddr 17 (.t 11) 3, none⟩,
⟨(some 153), .load 18 (.t 152), none⟩,
⟨(some 154), .len 18 (.t 153), none⟩,
⟨(some 155), .move (.c (.int .i64 0)), none⟩])
    (.block 8 (.loop (.seq (.region false [] [
⟨(some 156), .bin .lss 2 (.t 155) (.t 154), none⟩])
    (.seq (.cond (.t 156) (.skip) (.exit 8))
    (.seq (.block 9 (.seq (.region false [] [
⟨(some 157), .iaddr 18 (.t 153) (.t 155), none⟩,
⟨(some 158), .load 19 (.t 157), none⟩,
⟨(some 14), .alloc 19, none⟩,
⟨none, .store 19 (.t 14) (.t 158), none⟩])
    (.seq (.region false [] [
⟨(some 159), .move (.t 3), none⟩,
⟨(some 160), .faddr 19 (.t 14) 0, none⟩,
⟨(some 161), .load 20 (.t 160), none⟩,
⟨(some 162), .lookup 21 (.t 159) (.t 161) false, none⟩,
⟨(some 163), .un .not (.t 162), none⟩,
⟨(some 164), .move (.t 163), none⟩,
⟨(some 165), .faddr 19 (.t 14) 1, (some (164, false))⟩,
⟨(some 166), .load 2 (.t 165), (some (164, false))⟩,
⟨(some 167), .call 0 (.f 67) [(.t 166), (.c (.int .i64 1)), (.c (.int .i64 8))], (some (164, false))⟩,
⟨(some 168), .un .not (.t 167), (some (164, false))⟩,
⟨(some 169), .pick (.t 164) (.c (.bool true)) (.t 168), none⟩])
    (.cond (.t 169) (.seq (.region false [] [
⟨(some 2), .assign (.c (.int .i64 270)), none⟩])
    (.ret)) (.skip)))))
    (.region false [] [
⟨(some 170), .bin .add 2 (.t 155) (.c (.int .i64 1)), none⟩,
⟨(some 155), .move (.t 170), none⟩])))))))))))
    (.region false [] [
⟨(some 171), .bin .add 2 (.t 123) (.c (.int .i64 1)), none⟩,
⟨(some 123), .move (.t 171), none⟩]))))))))))
    (.region false [] [
⟨(some 172), .bin .add 2 (.t 78) (.c (.int .i64 1)), none⟩,
⟨(some 78), .move (.t 172), none⟩])))))))
    (.seq (.region false [] [
⟨(some 2), .assign (.c (.int .i64 0)), none⟩])
    (.ret)))))))⟩

def f16 : DFn := ⟨50, [.tmp 6],
    .seq (.region false [] [
⟨(some 3), .box 0 (.t 0), none⟩,
⟨(some 6), .assign (.c (.bool false)), none⟩])
    (.seq (.seq (.region false [] [
⟨(some 11), .call 0 (.f 17) [], none⟩,
⟨(some 12), .un .not (.t 11), none⟩])
    (.cond (.t 12) (.seq (.region false [] [
⟨(some 6), .assign (.c (.bool false)), none⟩])
    (.ret)) (.skip)))
    (.seq (.seq (.region false [] [
⟨(some 13), .load 0 (.t 3), none⟩,
⟨(some 14), .call 0 (.f 2) [(.t 13)], none⟩,
⟨(some 15), .un .not (.t 14), none⟩,
⟨(some 16), .move (.t 15), none⟩,
⟨(some 17), .move (.t 1), (some (16, false))⟩,
⟨(some 18), .len 1 (.t 17), (some (16, false))⟩,
⟨(some 19), .bin .gtr 2 (.t 18) (.c (.int .i64 20)), (some (16, false))⟩,
⟨(some 20), .pick (.t 16) (.c (.bool true)) (.t 19), none⟩])
    (.cond (.t 20) (.seq (.region false [] [
⟨(some 6), .assign (.c (.bool true)), none⟩])
    (.ret)) (.skip)))
    (.seq (.region false [] [
⟨(some 22), .load 0 (.t 3), none⟩,
⟨(some 23), .move (.t 1), none⟩,
⟨(some 24), .move (.t 2), none⟩,
⟨(some 25), .call 0 (.f 14) [(.t 22), (.t 23), (.t 24)], none⟩,
⟨(some 21), .move (.t 25), none⟩,
⟨(some 26), .extract (.t 21) 0, none⟩,
⟨(some 27), .extract (.t 21) 1, none⟩,
⟨(some 7), .assign (.t 26), none⟩,
⟨(some 8), .assign (.t 27), none⟩])
    (.seq (.region false [] [
⟨(some 29), .load 0 (.t 3), none⟩,
⟨(some 30), .move (.t 1), none⟩,
⟨(some 31), .move (.t 2), none⟩,
⟨(some 32), .call 0 (.f 18) [(.t 29), (.t 30), (.t 31)], none⟩,
⟨(some 28), .move (.t 32), none⟩,
⟨(some 33), .extract (.t 28) 0, none⟩,
⟨(some 34), .extract (.t 28) 1, none⟩,
⟨(some 9), .assign (.t 33), none⟩,
⟨(some 10), .assign (.t 34), none⟩])
    (.seq (.region true [] [
⟨(some 35), .load 0 (.t 3), none⟩,
⟨(some 36), .call 0 (.f 15) [(.t 35)], none⟩,
⟨(some 37), .load 0 (.t 3), none⟩,
⟨(some 38), .call 0 (.f 19) [(.t 37)], none⟩,
⟨(some 39), .bin .eql 3 (.t 36) (.t 38), none⟩,
⟨(some 40), .move (.t 39), none⟩,
⟨(some 41), .move (.t 7), (some (40, true))⟩,
⟨(some 42), .move (.t 9), (some (40, true))⟩,
⟨(some 43), .call 0 (.f 20) [(.t 41), (.t 42)], (some (40, true))⟩,
⟨(some 44), .pick (.t 40) (.t 43) (.c (.bool false)), none⟩,
⟨(some 45), .move (.t 44), none⟩,
⟨(some 46), .move (.t 8), (some (45, true))⟩,
⟨(some 47), .move (.t 10), (some (45, true))⟩,
⟨(some 48), .bin .eql 3 (.t 46) (.t 47), (some (45, true))⟩,
⟨(some 49), .pick (.t 45) (.t 48) (.c (.bool false)), none⟩,
⟨(some 6), .assign (.t 49), none⟩])
    (.ret))))))⟩

def f17 : DFn := ⟨146, [.tmp 0],
    .seq (.region false [] [
⟨(some 0), .assign (.c (.bool false)), none⟩])
    (.seq (.region false [] [
⟨(some 19), .call 0 (.f 77) [], none⟩,
⟨(some 1), .alloc 0, none⟩,
⟨none, .store 0 (.t 1) (.t 19), none⟩])
    (.seq (.region false [] [
⟨(some 20), .bslice false 6 0 [], none⟩,
⟨(some 21), .bslice false 9 1 [(0, (.t 20))], none⟩,
⟨(some 22), .build 0 [(1, (.t 21))], none⟩,
⟨(some 2), .alloc 0, none⟩,
⟨none, .store 0 (.t 2) (.t 22), none⟩])
    (.seq (.region false [] [
⟨(some 24), .load 0 (.t 1), none⟩,
⟨(some 25), .bslice false 6 2 [(0, (.c (.int .i64 0))), (1, (.c (.int .i64 0)))], none⟩,
⟨(some 26), .call 0 (.f 22) [(.t 24), (.t 25)], none⟩,
⟨(some 23), .move (.t 26), none⟩,
⟨(some 27), .extract (.t 23) 0, none⟩,
⟨(some 28), .extract (.t 23) 1, none⟩,
⟨(some 3), .assign (.t 27), none⟩,
⟨(some 4), .assign (.t 28), none⟩])
    (.seq (.region false [] [
⟨(some 30), .load 0 (.t 1), none⟩,
⟨(some 31), .bslice false 6 2 [(0, (.c (.int .i64 0))), (1, (.c (.int .i64 1)))], none⟩,
⟨(some 32), .call 0 (.f 22) [(.t 30), (.t 31)], none⟩,
⟨(some 29), .move (.t 32), none⟩,
⟨(some 33), .extract (.t 29) 0, none⟩,
⟨(some 34), .extract (.t 29) 1, none⟩,
⟨(some 5), .assign (.t 33), none⟩,
⟨(some 6), .assign (.t 34), none⟩])
    (.seq (.region false [] [
⟨(some 36), .load 0 (.t 2), none⟩,
⟨(some 37), .call 0 (.f 22) [(.t 36), (.c (.imm .exact []))], none⟩,
⟨(some 35), .move (.t 37), none⟩,
⟨(some 38), .extract (.t 35) 0, none⟩,
⟨(some 39), .extract (.t 35) 1, none⟩,
⟨(some 7), .assign (.t 38), none⟩,
⟨(some 8), .assign (.t 39), none⟩])
    (.seq (.region false [] [
⟨(some 41), .load 0 (.t 1), none⟩,
⟨(some 42), .call 0 (.f 14) [(.t 41), (.c (.imm .exact [])), (.c (.int .i64 0))], none⟩,
⟨(some 40), .move (.t 42), none⟩,
⟨(some 43), .extract (.t 40) 0, none⟩,
⟨(some 44), .extract (.t 40) 1, none⟩,
⟨(some 9), .assign (.t 43), none⟩,
⟨(some 10), .assign (.t 44), none⟩])
    (.seq (.region false [] [
⟨(some 46), .load 0 (.t 1), none⟩,
⟨(some 47), .call 0 (.f 14) [(.t 46), (.c (.imm .exact [])), (.c (.int .i64 (-1)))], none⟩,
⟨(some 45), .move (.t 47), none⟩,
⟨(some 48), .extract (.t 45) 0, none⟩,
⟨(some 49), .extract (.t 45) 1, none⟩,
⟨(some 11), .assign (.t 48), none⟩,
⟨(some 12), .assign (.t 49), none⟩])
    (.seq (.region false [] [
⟨(some 51), .load 0 (.t 1), none⟩,
⟨(some 52), .bslice false 6 2 [(0, (.c (.int .i64 0))), (1, (.c (.int .i64 1)))], none⟩,
⟨(some 53), .bslice false 6 2 [(0, (.c (.int .i64 0))), (1, (.c (.int .i64 0)))], none⟩,
⟨(some 54), .call 0 (.f 24) [(.t 51), (.t 52), (.t 53)], none⟩,
⟨(some 50), .move (.t 54), none⟩,
⟨(some 55), .extract (.t 50) 0, none⟩,
⟨(some 56), .extract (.t 50) 1, none⟩,
⟨(some 13), .assign (.t 55), none⟩,
⟨(some 14), .assign (.t 56), none⟩])
    (.seq (.region false [] [
⟨(some 58), .load 0 (.t 1), none⟩,
⟨(some 59), .bslice false 6 2 [(0, (.c (.int .i64 0))), (1, (.c (.int .i64 1)))], none⟩,
⟨(some 60), .bslice false 6 2 [(0, (.c (.int .i64 0))), (1, (.c (.int .i64 1)))], none⟩,
⟨(some 61), .call 0 (.f 24) [(.t 58), (.t 59), (.t 60)], none⟩,
⟨(some 57), .move (.t 61), none⟩,
⟨(some 62), .extract (.t 57) 0, none⟩,
⟨(some 63), .extract (.t 57) 1, none⟩,
⟨(some 15), .assign (.t 62), none⟩,
⟨(some 16), .assign (.t 63), none⟩])
    (.seq (.region false [] [
⟨(some 65), .load 0 (.t 1), none⟩,
⟨(some 66), .bslice false 6 2 [(0, (.c (.int .i64 0))), (1, (.c (.int .i64 0)))], none⟩,
⟨(some 67), .call 0 (.f 26) [(.t 65), (.t 66)], none⟩,
⟨(some 64), .move (.t 67), none⟩,
⟨(some 68), .extract (.t 64) 0, none⟩,
⟨(some 69), .extract (.t 64) 1, none⟩,
⟨(some 17), .assign (.t 68), none⟩,
⟨(some 18), .assign (.t 69), none⟩])
    (.seq (.seq (.region false [] [
⟨(some 70), .move (.t 4), none⟩,
⟨(some 71), .bin .neq 3 (.t 70) (.c (.int .i64 0)), none⟩,
⟨(some 72), .move (.t 71), none⟩,
⟨(some 73), .move (.t 6), (some (72, false))⟩,
⟨(some 74), .bin .neq 3 (.t 73) (.c (.int .i64 0)), (some (72, false))⟩,
⟨(some 75), .pick (.t 72) (.c (.bool true)) (.t 74), none⟩,
⟨(some 76), .move (.t 75), none⟩,
⟨(some 77), .move (.t 8), (some (76, false))⟩,
⟨(some 78), .bin .neq 3 (.t 77) (.c (.int .i64 0)), (some (76, false))⟩,
⟨(some 79), .pick (.t 76) (.c (.bool true)) (.t 78), none⟩,
⟨(some 80), .move (.t 79), none⟩,
⟨(some 81), .move (.t 10), (some (80, false))⟩,
⟨(some 82), .bin .neq 3 (.t 81) (.c (.int .i64 0)), (some (80, false))⟩,
⟨(some 83), .pick (.t 80) (.c (.bool true)) (.t 82), none⟩,
⟨(some 84), .move (.t 83), none⟩,
⟨(some 85), .move (.t 12), (some (84, false))⟩,
⟨(some 86), .bin .neq 3 (.t 85) (.c (.int .i64 270)), (some (84, false))⟩,
⟨(some 87), .pick (.t 84) (.c (.bool true)) (.t 86), none⟩,
⟨(some 88), .move (.t 87), none⟩,
⟨(some 89), .move (.t 14), (some (88, false))⟩,
⟨(some 90), .bin .neq 3 (.t 89) (.c (.int .i64 0)), (some (88, false))⟩,
⟨(some 91), .pick (.t 88) (.c (.bool true)) (.t 90), none⟩,
⟨(some 92), .move (.t 91), none⟩,
⟨(some 93), .move (.t 16), (some (92, false))⟩,
⟨(some 94), .bin .neq 3 (.t 93) (.c (.int .i64 0)), (some (92, false))⟩,
⟨(some 95), .pick (.t 92) (.c (.bool true)) (.t 94), none⟩,
⟨(some 96), .move (.t 95), none⟩,
⟨(some 97), .move (.t 18), (some (96, false))⟩,
⟨(some 98), .bin .neq 3 (.t 97) (.c (.int .i64 0)), (some (96, false))⟩,
⟨(some 99), .pick (.t 96) (.c (.bool true)) (.t 98), none⟩,
⟨(some 100), .move (.t 99), none⟩,
⟨(some 101), .build 0 [], (some (100, false))⟩,
⟨(some 102), .call 0 (.f 15) [(.t 101)], (some (100, false))⟩,
⟨(some 103), .bin .neq 3 (.t 102) (.c (.int .i64 270)), (some (100, false))⟩,
⟨(some 104), .pick (.t 100) (.c (.bool true)) (.t 103), none⟩,
⟨(some 105), .move (.t 104), none⟩,
⟨(some 106), .load 0 (.t 1), (some (105, false))⟩,
⟨(some 107), .call 0 (.f 15) [(.t 106)], (some (105, false))⟩,
⟨(some 108), .bin .neq 3 (.t 107) (.c (.int .i64 0)), (some (105, false))⟩,
⟨(some 109), .pick (.t 105) (.c (.bool true)) (.t 108), none⟩,
⟨(some 110), .move (.t 109), none⟩,
⟨(some 111), .load 0 (.t 2), (some (110, false))⟩,
⟨(some 112), .call 0 (.f 15) [(.t 111)], (some (110, false))⟩,
⟨(some 113), .bin .neq 3 (.t 112) (.c (.int .i64 0)), (some (110, false))⟩,
⟨(some 114), .pick (.t 110) (.c (.bool true)) (.t 113), none⟩])
    (.cond (.t 114) (.seq (.region false [] [
⟨(some 0), .assign (.c (.bool false)), none⟩])
    (.ret)) (.skip)))
    (.seq (.region false [] [
⟨(some 115), .move (.t 3), none⟩,
⟨(some 116), .bslice false 6 4 [(0, (.c (.int .i64 1))), (1, (.c (.int .i64 0))), (2, (.c (.int .i64 0))), (3, (.c (.int .i64 0)))], none⟩,
⟨(some 117), .call 0 (.f 20) [(.t 115), (.t 116)], none⟩,
⟨(some 118), .move (.t 117), none⟩,
⟨(some 119), .move (.t 5), (some (118, true))⟩,
⟨(some 120), .bslice false 6 4 [(0, (.c (.int .i64 0))), (1, (.c (.int .i64 10))), (2, (.c (.int .i64 60))), (3, (.c (.int .i64 2)))], (some (118, true))⟩,
⟨(some 121), .call 0 (.f 20) [(.t 119), (.t 120)], (some (118, true))⟩,
⟨(some 122), .pick (.t 118) (.t 121) (.c (.bool false)), none⟩,
⟨(some 123), .move (.t 122), none⟩,
⟨(some 124), .move (.t 7), (some (123, true))⟩,
⟨(some 125), .bslice false 6 4 [(0, (.c (.int .i64 0))), (1, (.c (.int .i64 0))), (2, (.c (.int .i64 0))), (3, (.c (.int .i64 0)))], (some (123, true))⟩,
⟨(some 126), .call 0 (.f 20) [(.t 124), (.t 125)], (some (123, true))⟩,
⟨(some 127), .pick (.t 123) (.t 126) (.c (.bool false)), none⟩,
⟨(some 128), .move (.t 127), none⟩,
⟨(some 129), .move (.t 9), (some (128, true))⟩,
⟨(some 130), .bslice false 6 1 [(0, (.c (.int .i64 0)))], (some (128, true))⟩,
⟨(some 131), .call 0 (.f 20) [(.t 129), (.t 130)], (some (128, true))⟩,
⟨(some 132), .pick (.t 128) (.t 131) (.c (.bool false)), none⟩,
⟨(some 133), .move (.t 132), none⟩,
⟨(some 134), .move (.t 13), (some (133, true))⟩,
⟨(some 135), .pick (.t 133) (.t 134) (.c (.bool false)), none⟩,
⟨(some 136), .move (.t 135), none⟩,
⟨(some 137), .move (.t 15), (some (136, true))⟩,
⟨(some 138), .un .not (.t 137), (some (136, true))⟩,
⟨(some 139), .pick (.t 136) (.t 138) (.c (.bool false)), none⟩,
⟨(some 140), .move (.t 139), none⟩,
⟨(some 141), .move (.t 17), (some (140, true))⟩,
⟨(some 142), .build 11 [(0, (.c (.int .i64 0))), (1, (.c (.int .i64 0)))], (some (140, true))⟩,
⟨(some 143), .bslice false 8 1 [(0, (.t 142))], (some (140, true))⟩,
⟨(some 144), .call 0 (.f 28) [(.t 141), (.t 143)], (some (140, true))⟩,
⟨(some 145), .pick (.t 140) (.t 144) (.c (.bool false)), none⟩,
⟨(some 0), .assign (.t 145), none⟩])
    (.ret)))))))))))))⟩

def f18 : DFn := ⟨31, [.tmp 6, .tmp 7],
    .seq (.region false [] [
⟨(some 3), .box 0 (.t 0), none⟩,
⟨(some 6), .assign (.c (.imm .exact [])), none⟩,
⟨(some 7), .assign (.c (.int .i64 0)), none⟩])
    (.seq (.region false [] [
⟨(some 9), .load 0 (.t 3), none⟩,
⟨(some 10), .call 0 (.f 19) [(.t 9)], none⟩,
⟨(some 8), .assign (.t 10), none⟩])
    (.seq (.seq (.region false [] [
⟨(some 11), .move (.t 8), none⟩,
⟨(some 12), .bin .neq 3 (.t 11) (.c (.int .i64 0)), none⟩])
    (.cond (.t 12) (.seq (.region false [] [
⟨(some 13), .move (.t 8), none⟩,
⟨(some 6), .assign (.c (.imm .exact [])), none⟩,
⟨(some 7), .assign (.t 13), none⟩])
    (.ret)) (.skip)))
    (.seq (.seq (.region false [] [
⟨(some 14), .load 0 (.t 3), none⟩,
⟨(some 15), .move (.t 1), none⟩,
⟨(some 16), .call 0 (.f 78) [(.t 14), (.t 15)], none⟩,
⟨(some 17), .un .not (.t 16), none⟩,
⟨(some 18), .move (.t 17), none⟩,
⟨(some 19), .move (.t 2), (some (18, false))⟩,
⟨(some 20), .faddr 0 (.t 3) 1, (some (18, false))⟩,
⟨(some 21), .load 9 (.t 20), (some (18, false))⟩,
⟨(some 22), .len 9 (.t 21), (some (18, false))⟩,
⟨(some 23), .bin .sub 2 (.t 22) (.c (.int .i64 1)), (some (18, false))⟩,
⟨(some 24), .call 0 (.f 79) [(.t 19), (.c (.int .i64 0)), (.t 23)], (some (18, false))⟩,
⟨(some 25), .un .not (.t 24), (some (18, false))⟩,
⟨(some 26), .pick (.t 18) (.c (.bool true)) (.t 25), none⟩])
    (.cond (.t 26) (.seq (.region false [] [
⟨(some 6), .assign (.c (.imm .exact [])), none⟩,
⟨(some 7), .assign (.c (.int .i64 270)), none⟩])
    (.ret)) (.skip)))
    (.seq (.region false [] [
⟨(some 27), .load 0 (.t 3), none⟩,
⟨(some 28), .move (.t 1), none⟩,
⟨(some 29), .move (.t 2), none⟩,
⟨(some 30), .call 0 (.f 80) [(.t 27), (.t 28), (.t 29)], none⟩,
⟨(some 6), .assign (.t 30), none⟩,
⟨(some 7), .assign (.c (.int .i64 0)), none⟩])
    (.ret)))))⟩

def f19 : DFn := ⟨120, [.tmp 2],
    .seq (.region false [] [
⟨(some 1), .box 0 (.t 0), none⟩,
⟨(some 2), .assign (.c (.int .i64 0)), none⟩])
    (.seq (.seq (.region false [] [
⟨(some 7), .faddr 0 (.t 1) 0, none⟩,
⟨(some 8), .load 10 (.t 7), none⟩,
⟨(some 9), .len 10 (.t 8), none⟩,
⟨(some 10), .bin .gtr 2 (.t 9) (.c (.int .i64 4096)), none⟩,
⟨(some 11), .move (.t 10), none⟩,
⟨(some 12), .faddr 0 (.t 1) 1, (some (11, false))⟩,
⟨(some 13), .load 9 (.t 12), (some (11, false))⟩,
⟨(some 14), .len 9 (.t 13), (some (11, false))⟩,
⟨(some 15), .bin .lss 2 (.t 14) (.c (.int .i64 1)), (some (11, false))⟩,
⟨(some 16), .pick (.t 11) (.c (.bool true)) (.t 15), none⟩,
⟨(some 17), .move (.t 16), none⟩,
⟨(some 18), .faddr 0 (.t 1) 1, (some (17, false))⟩,
⟨(some 19), .load 9 (.t 18), (some (17, false))⟩,
⟨(some 20), .len 9 (.t 19), (some (17, false))⟩,
⟨(some 21), .bin .gtr 2 (.t 20) (.c (.int .i64 32)), (some (17, false))⟩,
⟨(some 22), .pick (.t 17) (.c (.bool true)) (.t 21), none⟩,
⟨(some 23), .move (.t 22), none⟩,
⟨(some 24), .faddr 0 (.t 1) 2, (some (23, false))⟩,
⟨(some 25), .load 14 (.t 24), (some (23, false))⟩,
⟨(some 26), .len 14 (.t 25), (some (23, false))⟩,
⟨(some 27), .bin .gtr 2 (.t 26) (.c (.int .i64 64)), (some (23, false))⟩,
⟨(some 28), .pick (.t 23) (.c (.bool true)) (.t 27), none⟩])
    (.cond (.t 28) (.seq (.region false [] [
⟨(some 2), .assign (.c (.int .i64 270)), none⟩])
    (.ret)) (.skip)))
    (.seq (.seq (.region false [] [
⟨(some 3), .assign (.c (.int .i64 0)), none⟩])
    (.block 0 (.loop (.seq (.seq (.region false [] [
⟨(some 29), .move (.t 3), none⟩,
⟨(some 30), .faddr 0 (.t 1) 0, none⟩,
⟨(some 31), .load 10 (.t 30), none⟩,
⟨(some 32), .len 10 (.t 31), none⟩,
⟨(some 33), .bin .lss 2 (.t 29) (.t 32), none⟩])
    (.cond (.t 33) (.skip) (.exit 0)))
    (.seq (.block 1 (.seq (.region true [] [
⟨(some 36), .faddr 0 (.t 1) 0, none⟩,
⟨(some 37), .load 10 (.t 36), none⟩,
⟨(some 38), .move (.t 3), none⟩,
⟨(some 39), .iaddr 10 (.t 37) (.t 38), none⟩,
⟨(some 40), .faddr 20 (.t 39) 1, none⟩,
⟨(some 41), .load 2 (.t 40), none⟩,
⟨(some 42), .bin .lss 2 (.t 41) (.c (.int .i64 0)), none⟩,
⟨(some 43), .move (.t 42), none⟩,
⟨(some 44), .faddr 0 (.t 1) 0, (some (43, false))⟩,
⟨(some 45), .load 10 (.t 44), (some (43, false))⟩,
⟨(some 46), .move (.t 3), (some (43, false))⟩,
⟨(some 47), .iaddr 10 (.t 45) (.t 46), (some (43, false))⟩,
⟨(some 48), .faddr 20 (.t 47) 2, (some (43, false))⟩,
⟨(some 49), .load 2 (.t 48), (some (43, false))⟩,
⟨(some 50), .bin .lss 2 (.t 49) (.c (.int .i64 0)), (some (43, false))⟩,
⟨(some 51), .pick (.t 43) (.c (.bool true)) (.t 50), none⟩,
⟨(some 52), .move (.t 51), none⟩,
⟨(some 53), .move (.t 3), (some (52, false))⟩,
⟨(some 54), .bin .gtr 2 (.t 53) (.c (.int .i64 0)), (some (52, false))⟩,
⟨(some 55), .move (.t 54), (some (52, false))⟩,
⟨(some 56), .faddr 0 (.t 1) 0, (some (55, true))⟩,
⟨(some 57), .load 10 (.t 56), (some (55, true))⟩,
⟨(some 58), .move (.t 3), (some (55, true))⟩,
⟨(some 59), .bin .sub 2 (.t 58) (.c (.int .i64 1)), (some (55, true))⟩,
⟨(some 60), .iaddr 10 (.t 57) (.t 59), (some (55, true))⟩,
⟨(some 61), .load 20 (.t 60), (some (55, true))⟩,
⟨(some 62), .faddr 0 (.t 1) 0, (some (55, true))⟩,
⟨(some 63), .load 10 (.t 62), (some (55, true))⟩,
⟨(some 64), .move (.t 3), (some (55, true))⟩,
⟨(some 65), .iaddr 10 (.t 63) (.t 64), (some (55, true))⟩,
⟨(some 66), .load 20 (.t 65), (some (55, true))⟩,
⟨(some 67), .call 0 (.f 81) [(.t 61), (.t 66)], (some (55, true))⟩,
⟨(some 68), .un .not (.t 67), (some (55, true))⟩,
⟨(some 69), .pick (.t 55) (.t 68) (.c (.bool false)), (some (52, false))⟩,
⟨(some 70), .pick (.t 52) (.c (.bool true)) (.t 69), none⟩])
    (.cond (.t 70) (.seq (.region false [] [
⟨(some 2), .assign (.c (.int .i64 270)), none⟩])
    (.ret)) (.skip))))
    (.region false [] [
⟨(some 34), .move (.t 3), none⟩,
⟨(some 35), .bin .add 2 (.t 34) (.c (.int .i64 1)), none⟩,
⟨(some 3), .assign (.t 35), none⟩]))))))
    (.seq (.seq (.region false [] [
⟨(some 4), .assign (.c (.int .i64 0)), none⟩])
    (.block 2 (.loop (.seq (.seq (.region false [] [
⟨(some 71), .move (.t 4), none⟩,
⟨(some 72), .faddr 0 (.t 1) 1, none⟩,
⟨(some 73), .load 9 (.t 72), none⟩,
⟨(some 74), .len 9 (.t 73), none⟩,
⟨(some 75), .bin .lss 2 (.t 71) (.t 74), none⟩])
    (.cond (.t 75) (.skip) (.exit 2)))
    (.seq (.block 3 (.seq (.seq (.region true [] [
⟨(some 78), .faddr 0 (.t 1) 1, none⟩,
⟨(some 79), .load 9 (.t 78), none⟩,
⟨(some 80), .move (.t 4), none⟩,
⟨(some 81), .iaddr 9 (.t 79) (.t 80), none⟩,
⟨(some 82), .load 6 (.t 81), none⟩,
⟨(some 83), .len 6 (.t 82), none⟩,
⟨(some 84), .faddr 0 (.t 1) 0, none⟩,
⟨(some 85), .load 10 (.t 84), none⟩,
⟨(some 86), .len 10 (.t 85), none⟩,
⟨(some 87), .bin .neq 2 (.t 83) (.t 86), none⟩])
    (.cond (.t 87) (.seq (.region false [] [
⟨(some 2), .assign (.c (.int .i64 270)), none⟩])
    (.ret)) (.skip)))
    (.seq (.region false [] [
⟨(some 5), .assign (.c (.int .i64 0)), none⟩])
    (.block 4 (.loop (.seq (.seq (.region false [] [
⟨(some 88), .move (.t 5), none⟩,
⟨(some 89), .faddr 0 (.t 1) 0, none⟩,
⟨(some 90), .load 10 (.t 89), none⟩,
⟨(some 91), .len 10 (.t 90), none⟩,
⟨(some 92), .bin .lss 2 (.t 88) (.t 91), none⟩])
    (.cond (.t 92) (.skip) (.exit 4)))
    (.seq (.block 5 (.seq (.region false [] [
⟨(some 95), .faddr 0 (.t 1) 1, none⟩,
⟨(some 96), .load 9 (.t 95), none⟩,
⟨(some 97), .move (.t 4), none⟩,
⟨(some 98), .iaddr 9 (.t 96) (.t 97), none⟩,
⟨(some 99), .load 6 (.t 98), none⟩,
⟨(some 100), .move (.t 5), none⟩,
⟨(some 101), .iaddr 6 (.t 99) (.t 100), none⟩,
⟨(some 102), .load 2 (.t 101), none⟩,
⟨(some 103), .call 0 (.f 79) [(.t 102), (.c (.int .i64 0)), (.c (.int .i64 4096))], none⟩,
⟨(some 104), .un .not (.t 103), none⟩])
    (.cond (.t 104) (.seq (.region false [] [
⟨(some 2), .assign (.c (.int .i64 270)), none⟩])
    (.ret)) (.skip))))
    (.region false [] [
⟨(some 93), .move (.t 5), none⟩,
⟨(some 94), .bin .add 2 (.t 93) (.c (.int .i64 1)), none⟩,
⟨(some 5), .assign (.t 94), none⟩]))))))))
    (.region false [] [
⟨(some 76), .move (.t 4), none⟩,
⟨(some 77), .bin .add 2 (.t 76) (.c (.int .i64 1)), none⟩,
⟨(some 4), .assign (.t 77), none⟩]))))))
    (.seq (.seq (.region false [] [
⟨(some 6), .assign (.c (.int .i64 0)), none⟩])
    (.block 6 (.loop (.seq (.seq (.region false [] [
⟨(some 105), .move (.t 6), none⟩,
⟨(some 106), .faddr 0 (.t 1) 2, none⟩,
⟨(some 107), .load 14 (.t 106), none⟩,
⟨(some 108), .len 14 (.t 107), none⟩,
⟨(some 109), .bin .lss 2 (.t 105) (.t 108), none⟩])
    (.cond (.t 109) (.skip) (.exit 6)))
    (.seq (.block 7 (.seq (.region true [] [
⟨(some 112), .load 0 (.t 1), none⟩,
⟨(some 113), .faddr 0 (.t 1) 2, none⟩,
⟨(some 114), .load 14 (.t 113), none⟩,
⟨(some 115), .move (.t 6), none⟩,
⟨(some 116), .iaddr 14 (.t 114) (.t 115), none⟩,
⟨(some 117), .load 15 (.t 116), none⟩,
⟨(some 118), .call 0 (.f 82) [(.t 112), (.t 117)], none⟩,
⟨(some 119), .un .not (.t 118), none⟩])
    (.cond (.t 119) (.seq (.region false [] [
⟨(some 2), .assign (.c (.int .i64 270)), none⟩])
    (.ret)) (.skip))))
    (.region false [] [
⟨(some 110), .move (.t 6), none⟩,
⟨(some 111), .bin .add 2 (.t 110) (.c (.int .i64 1)), none⟩,
⟨(some 6), .assign (.t 111), none⟩]))))))
    (.seq (.region false [] [
⟨(some 2), .assign (.c (.int .i64 0)), none⟩])
    (.ret))))))⟩

def f20 : DFn := ⟨26, [.tmp 4],
    .seq (.region false [] [
⟨(some 4), .assign (.c (.bool false)), none⟩])
    (.seq (.seq (.region false [] [
⟨(some 6), .move (.t 0), none⟩,
⟨(some 7), .len 6 (.t 6), none⟩,
⟨(some 8), .move (.t 1), none⟩,
⟨(some 9), .len 6 (.t 8), none⟩,
⟨(some 10), .bin .neq 2 (.t 7) (.t 9), none⟩])
    (.cond (.t 10) (.seq (.region false [] [
⟨(some 4), .assign (.c (.bool false)), none⟩])
    (.ret)) (.skip)))
    (.seq (.seq (.region false [] [
⟨(some 5), .assign (.c (.int .i64 0)), none⟩])
    (.block 0 (.loop (.seq (.seq (.region false [] [
⟨(some 11), .move (.t 5), none⟩,
⟨(some 12), .move (.t 0), none⟩,
⟨(some 13), .len 6 (.t 12), none⟩,
⟨(some 14), .bin .lss 2 (.t 11) (.t 13), none⟩])
    (.cond (.t 14) (.skip) (.exit 0)))
    (.seq (.block 1 (.seq (.region true [] [
⟨(some 17), .move (.t 0), none⟩,
⟨(some 18), .move (.t 5), none⟩,
⟨(some 19), .iaddr 6 (.t 17) (.t 18), none⟩,
⟨(some 20), .load 2 (.t 19), none⟩,
⟨(some 21), .move (.t 1), none⟩,
⟨(some 22), .move (.t 5), none⟩,
⟨(some 23), .iaddr 6 (.t 21) (.t 22), none⟩,
⟨(some 24), .load 2 (.t 23), none⟩,
⟨(some 25), .bin .neq 2 (.t 20) (.t 24), none⟩])
    (.cond (.t 25) (.seq (.region false [] [
⟨(some 4), .assign (.c (.bool false)), none⟩])
    (.ret)) (.skip))))
    (.region false [] [
⟨(some 15), .move (.t 5), none⟩,
⟨(some 16), .bin .add 2 (.t 15) (.c (.int .i64 1)), none⟩,
⟨(some 5), .assign (.t 16), none⟩]))))))
    (.seq (.region false [] [
⟨(some 4), .assign (.c (.bool true)), none⟩])
    (.ret))))⟩

def f21 : DFn := ⟨100, [.tmp 6],
    .seq (.region false [] [
⟨(some 3), .box 0 (.t 0), none⟩,
⟨(some 6), .assign (.c (.bool false)), none⟩])
    (.seq (.seq (.region false [] [
⟨(some 19), .call 0 (.f 17) [], none⟩,
⟨(some 20), .un .not (.t 19), none⟩])
    (.cond (.t 20) (.seq (.region false [] [
⟨(some 6), .assign (.c (.bool false)), none⟩])
    (.ret)) (.skip)))
    (.seq (.seq (.region false [] [
⟨(some 21), .load 0 (.t 3), none⟩,
⟨(some 22), .call 0 (.f 2) [(.t 21)], none⟩,
⟨(some 23), .un .not (.t 22), none⟩,
⟨(some 24), .move (.t 23), none⟩,
⟨(some 25), .move (.t 1), (some (24, false))⟩,
⟨(some 26), .len 6 (.t 25), (some (24, false))⟩,
⟨(some 27), .bin .gtr 2 (.t 26) (.c (.int .i64 20)), (some (24, false))⟩,
⟨(some 28), .pick (.t 24) (.c (.bool true)) (.t 27), none⟩,
⟨(some 29), .move (.t 28), none⟩,
⟨(some 30), .move (.t 2), (some (29, false))⟩,
⟨(some 31), .len 6 (.t 30), (some (29, false))⟩,
⟨(some 32), .bin .gtr 2 (.t 31) (.c (.int .i64 20)), (some (29, false))⟩,
⟨(some 33), .pick (.t 29) (.c (.bool true)) (.t 32), none⟩])
    (.cond (.t 33) (.seq (.region false [] [
⟨(some 6), .assign (.c (.bool true)), none⟩])
    (.ret)) (.skip)))
    (.seq (.region false [] [
⟨(some 35), .load 0 (.t 3), none⟩,
⟨(some 36), .move (.t 1), none⟩,
⟨(some 37), .call 0 (.f 22) [(.t 35), (.t 36)], none⟩,
⟨(some 34), .move (.t 37), none⟩,
⟨(some 38), .extract (.t 34) 0, none⟩,
⟨(some 39), .extract (.t 34) 1, none⟩,
⟨(some 7), .assign (.t 38), none⟩,
⟨(some 8), .assign (.t 39), none⟩])
    (.seq (.region false [] [
⟨(some 41), .load 0 (.t 3), none⟩,
⟨(some 42), .move (.t 1), none⟩,
⟨(some 43), .call 0 (.f 23) [(.t 41), (.t 42)], none⟩,
⟨(some 40), .move (.t 43), none⟩,
⟨(some 44), .extract (.t 40) 0, none⟩,
⟨(some 45), .extract (.t 40) 1, none⟩,
⟨(some 9), .assign (.t 44), none⟩,
⟨(some 10), .assign (.t 45), none⟩])
    (.seq (.region false [] [
⟨(some 47), .load 0 (.t 3), none⟩,
⟨(some 48), .move (.t 1), none⟩,
⟨(some 49), .move (.t 2), none⟩,
⟨(some 50), .call 0 (.f 24) [(.t 47), (.t 48), (.t 49)], none⟩,
⟨(some 46), .move (.t 50), none⟩,
⟨(some 51), .extract (.t 46) 0, none⟩,
⟨(some 52), .extract (.t 46) 1, none⟩,
⟨(some 11), .assign (.t 51), none⟩,
⟨(some 12), .assign (.t 52), none⟩])
    (.seq (.region false [] [
⟨(some 54), .load 0 (.t 3), none⟩,
⟨(some 55), .move (.t 1), none⟩,
⟨(some 56), .move (.t 2), none⟩,
⟨(some 57), .call 0 (.f 25) [(.t 54), (.t 55), (.t 56)], none⟩,
⟨(some 53), .move (.t 57), none⟩,
⟨(some 58), .extract (.t 53) 0, none⟩,
⟨(some 59), .extract (.t 53) 1, none⟩,
⟨(some 13), .assign (.t 58), none⟩,
⟨(some 14), .assign (.t 59), none⟩])
    (.seq (.region false [] [
⟨(some 61), .load 0 (.t 3), none⟩,
⟨(some 62), .move (.t 1), none⟩,
⟨(some 63), .call 0 (.f 26) [(.t 61), (.t 62)], none⟩,
⟨(some 60), .move (.t 63), none⟩,
⟨(some 64), .extract (.t 60) 0, none⟩,
⟨(some 65), .extract (.t 60) 1, none⟩,
⟨(some 15), .assign (.t 64), none⟩,
⟨(some 16), .assign (.t 65), none⟩])
    (.seq (.region false [] [
⟨(some 67), .load 0 (.t 3), none⟩,
⟨(some 68), .move (.t 1), none⟩,
⟨(some 69), .call 0 (.f 27) [(.t 67), (.t 68)], none⟩,
⟨(some 66), .move (.t 69), none⟩,
⟨(some 70), .extract (.t 66) 0, none⟩,
⟨(some 71), .extract (.t 66) 1, none⟩,
⟨(some 17), .assign (.t 70), none⟩,
⟨(some 18), .assign (.t 71), none⟩])
    (.seq (.region false [] [
⟨(some 72), .move (.t 7), none⟩,
⟨(some 73), .move (.t 9), none⟩,
⟨(some 74), .call 0 (.f 20) [(.t 72), (.t 73)], none⟩,
⟨(some 75), .move (.t 74), none⟩,
⟨(some 76), .move (.t 8), (some (75, true))⟩,
⟨(some 77), .move (.t 10), (some (75, true))⟩,
⟨(some 78), .bin .eql 3 (.t 76) (.t 77), (some (75, true))⟩,
⟨(some 79), .pick (.t 75) (.t 78) (.c (.bool false)), none⟩,
⟨(some 80), .move (.t 79), none⟩,
⟨(some 81), .move (.t 11), (some (80, true))⟩,
⟨(some 82), .move (.t 13), (some (80, true))⟩,
⟨(some 83), .bin .eql 7 (.t 81) (.t 82), (some (80, true))⟩,
⟨(some 84), .pick (.t 80) (.t 83) (.c (.bool false)), none⟩,
⟨(some 85), .move (.t 84), none⟩,
⟨(some 86), .move (.t 12), (some (85, true))⟩,
⟨(some 87), .move (.t 14), (some (85, true))⟩,
⟨(some 88), .bin .eql 3 (.t 86) (.t 87), (some (85, true))⟩,
⟨(some 89), .pick (.t 85) (.t 88) (.c (.bool false)), none⟩,
⟨(some 90), .move (.t 89), none⟩,
⟨(some 91), .move (.t 15), (some (90, true))⟩,
⟨(some 92), .move (.t 17), (some (90, true))⟩,
⟨(some 93), .call 0 (.f 28) [(.t 91), (.t 92)], (some (90, true))⟩,
⟨(some 94), .pick (.t 90) (.t 93) (.c (.bool false)), none⟩,
⟨(some 95), .move (.t 94), none⟩,
⟨(some 96), .move (.t 16), (some (95, true))⟩,
⟨(some 97), .move (.t 18), (some (95, true))⟩,
⟨(some 98), .bin .eql 3 (.t 96) (.t 97), (some (95, true))⟩,
⟨(some 99), .pick (.t 95) (.t 98) (.c (.bool false)), none⟩,
⟨(some 6), .assign (.t 99), none⟩])
    (.ret))))))))))⟩

def f22 : DFn := ⟨76, [.tmp 4, .tmp 5],
    .seq (.region false [] [
⟨(some 2), .box 0 (.t 0), none⟩,
⟨(some 4), .assign (.c (.imm .exact [])), none⟩,
⟨(some 5), .assign (.c (.int .i64 0)), none⟩])
    (.seq (.seq (.region false [] [
⟨(some 13), .load 0 (.t 2), none⟩,
⟨(some 14), .move (.t 1), none⟩,
⟨(some 15), .call 0 (.f 83) [(.t 13), (.t 14)], none⟩,
⟨(some 5), .assign (.t 15), none⟩])
    (.seq (.region false [] [
⟨(some 16), .move (.t 5), none⟩,
⟨(some 17), .bin .neq 3 (.t 16) (.c (.int .i64 0)), none⟩])
    (.cond (.t 17) (.seq (.region false [] [
⟨(some 18), .move (.t 5), none⟩,
⟨(some 4), .assign (.c (.imm .exact [])), none⟩,
⟨(some 5), .assign (.t 18), none⟩])
    (.ret)) (.skip))))
    (.seq (.region false [] [
⟨(some 6), .alloc 22, none⟩])
    (.seq (.seq (.region false [] [
⟨(some 19), .load 0 (.t 2), none⟩,
⟨(some 20), .move (.t 1), none⟩,
⟨(some 21), .call 0 (.f 84) [(.t 19), (.t 20)], none⟩])
    (.block 0 (.rfunc (.t 21) [22, 23] (.region false [] [
⟨(some 8), .assign (.t 23), none⟩]) (.block 1 (.region false [] [
⟨(some 24), .iaddr 22 (.t 6) (.c (.int .i64 0)), none⟩,
⟨(some 25), .load 2 (.t 24), none⟩,
⟨(some 26), .move (.t 8), none⟩,
⟨(some 27), .bin .add 2 (.t 25) (.t 26), none⟩,
⟨(some 28), .iaddr 22 (.t 6) (.c (.int .i64 0)), none⟩,
⟨none, .store 2 (.t 28) (.t 27), none⟩])))))
    (.seq (.seq (.region false [] [
⟨(some 29), .move (.t 1), none⟩,
⟨(some 30), .len 6 (.t 29), none⟩,
⟨(some 31), .move (.c (.int .i64 0)), none⟩])
    (.block 2 (.loop (.seq (.region false [] [
⟨(some 32), .bin .lss 2 (.t 31) (.t 30), none⟩])
    (.seq (.cond (.t 32) (.skip) (.exit 2))
    (.seq (.block 3 (.seq (.region false [] [
⟨(some 33), .move (.t 31), none⟩,
⟨(some 34), .iaddr 6 (.t 29) (.t 31), none⟩,
⟨(some 35), .load 2 (.t 34), none⟩,
⟨(some 9), .assign (.t 33), none⟩,
⟨(some 10), .assign (.t 35), none⟩])
    (.seq (.region true [(10, 17), (14, 17), (15, 17)] [
⟨(some 36), .faddr 0 (.t 2) 2, none⟩,
⟨(some 37), .load 14 (.t 36), none⟩,
⟨(some 38), .move (.t 9), none⟩,
⟨(some 39), .iaddr 14 (.t 37) (.t 38), none⟩,
⟨(some 40), .faddr 15 (.t 39) 3, none⟩,
⟨(some 41), .load 16 (.t 40), none⟩,
⟨(some 42), .move (.t 10), none⟩,
⟨(some 43), .iaddr 16 (.t 41) (.t 42), none⟩,
⟨(some 44), .load 17 (.t 43), none⟩,
⟨(some 45), .faddr 0 (.t 2) 2, none⟩,
⟨(some 46), .load 14 (.t 45), none⟩,
⟨(some 47), .move (.t 9), none⟩,
⟨(some 48), .iaddr 14 (.t 46) (.t 47), none⟩,
⟨(some 49), .faddr 15 (.t 48) 2, none⟩,
⟨(some 50), .load 6 (.t 49), none⟩,
⟨(some 51), .len 6 (.t 50), none⟩,
⟨(some 11), .alloc 17, none⟩,
⟨none, .store 17 (.t 11) (.t 44), none⟩,
⟨(some 12), .assign (.t 51), none⟩])
    (.seq (.region false [] [
⟨(some 52), .iaddr 22 (.t 6) (.c (.int .i64 1)), none⟩,
⟨(some 53), .load 2 (.t 52), none⟩,
⟨(some 54), .faddr 17 (.t 11) 0, none⟩,
⟨(some 55), .load 2 (.t 54), none⟩,
⟨(some 56), .maxi [(.t 53), (.t 55)], none⟩,
⟨(some 57), .iaddr 22 (.t 6) (.c (.int .i64 1)), none⟩,
⟨none, .store 2 (.t 57) (.t 56), none⟩])
    (.seq (.region false [] [
⟨(some 58), .iaddr 22 (.t 6) (.c (.int .i64 2)), none⟩,
⟨(some 59), .load 2 (.t 58), none⟩,
⟨(some 60), .faddr 17 (.t 11) 1, none⟩,
⟨(some 61), .load 2 (.t 60), none⟩,
⟨(some 62), .move (.t 12), none⟩,
⟨(some 63), .bin .mul 2 (.t 61) (.t 62), none⟩,
⟨(some 64), .bin .add 2 (.t 59) (.t 63), none⟩,
⟨(some 65), .iaddr 22 (.t 6) (.c (.int .i64 2)), none⟩,
⟨none, .store 2 (.t 65) (.t 64), none⟩])
    (.region false [] [
⟨(some 66), .iaddr 22 (.t 6) (.c (.int .i64 3)), none⟩,
⟨(some 67), .load 2 (.t 66), none⟩,
⟨(some 68), .faddr 17 (.t 11) 2, none⟩,
⟨(some 69), .load 2 (.t 68), none⟩,
⟨(some 70), .move (.t 12), none⟩,
⟨(some 71), .bin .mul 2 (.t 69) (.t 70), none⟩,
⟨(some 72), .bin .add 2 (.t 67) (.t 71), none⟩,
⟨(some 73), .iaddr 22 (.t 6) (.c (.int .i64 3)), none⟩,
⟨none, .store 2 (.t 73) (.t 72), none⟩]))))))
    (.region false [] [
⟨(some 74), .bin .add 2 (.t 31) (.c (.int .i64 1)), none⟩,
⟨(some 31), .move (.t 74), none⟩])))))))
    (.seq (.region false [] [
⟨(some 75), .slice 22 (.t 6) none none none, none⟩,
⟨(some 4), .assign (.t 75), none⟩,
⟨(some 5), .assign (.c (.int .i64 0)), none⟩])
    (.ret))))))⟩

def f23 : DFn := ⟨86, [.tmp 4, .tmp 5],
    .seq (.region false [] [
⟨(some 2), .box 0 (.t 0), none⟩,
⟨(some 4), .assign (.c (.imm .exact [])), none⟩,
⟨(some 5), .assign (.c (.int .i64 0)), none⟩])
    (.seq (.region false [] [
⟨(some 11), .load 0 (.t 2), none⟩,
⟨(some 12), .call 0 (.f 19) [(.t 11)], none⟩,
⟨(some 6), .assign (.t 12), none⟩])
    (.seq (.seq (.region false [] [
⟨(some 13), .move (.t 6), none⟩,
⟨(some 14), .bin .neq 3 (.t 13) (.c (.int .i64 0)), none⟩])
    (.cond (.t 14) (.seq (.region false [] [
⟨(some 15), .move (.t 6), none⟩,
⟨(some 4), .assign (.c (.imm .exact [])), none⟩,
⟨(some 5), .assign (.t 15), none⟩])
    (.ret)) (.skip)))
    (.seq (.seq (.region false [] [
⟨(some 16), .load 0 (.t 2), none⟩,
⟨(some 17), .move (.t 1), none⟩,
⟨(some 18), .call 0 (.f 78) [(.t 16), (.t 17)], none⟩,
⟨(some 19), .un .not (.t 18), none⟩,
⟨(some 20), .move (.t 19), none⟩,
⟨(some 21), .move (.t 1), (some (20, false))⟩,
⟨(some 22), .len 6 (.t 21), (some (20, false))⟩,
⟨(some 23), .faddr 0 (.t 2) 2, (some (20, false))⟩,
⟨(some 24), .load 14 (.t 23), (some (20, false))⟩,
⟨(some 25), .len 14 (.t 24), (some (20, false))⟩,
⟨(some 26), .bin .neq 2 (.t 22) (.t 25), (some (20, false))⟩,
⟨(some 27), .pick (.t 20) (.c (.bool true)) (.t 26), none⟩])
    (.cond (.t 27) (.seq (.region false [] [
⟨(some 4), .assign (.c (.imm .exact [])), none⟩,
⟨(some 5), .assign (.c (.int .i64 270)), none⟩])
    (.ret)) (.skip)))
    (.seq (.region false [] [
⟨(some 28), .load 0 (.t 2), none⟩,
⟨(some 29), .move (.t 1), none⟩,
⟨(some 30), .call 0 (.f 85) [(.t 28), (.t 29)], none⟩,
⟨(some 31), .bslice true 6 4 [(0, (.t 30)), (1, (.c (.int .i64 0))), (2, (.c (.int .i64 0))), (3, (.c (.int .i64 0)))], none⟩,
⟨(some 7), .assign (.t 31), none⟩])
    (.seq (.seq (.region false [] [
⟨(some 8), .assign (.c (.int .i64 0)), none⟩])
    (.block 0 (.loop (.seq (.seq (.region false [] [
⟨(some 32), .move (.t 8), none⟩,
⟨(some 33), .move (.t 1), none⟩,
⟨(some 34), .len 6 (.t 33), none⟩,
⟨(some 35), .bin .lss 2 (.t 32) (.t 34), none⟩])
    (.cond (.t 35) (.skip) (.exit 0)))
    (.seq (.block 1 (.seq (.region true [] [
⟨(some 38), .faddr 0 (.t 2) 2, none⟩,
⟨(some 39), .load 14 (.t 38), none⟩,
⟨(some 40), .move (.t 8), none⟩,
⟨(some 41), .iaddr 14 (.t 39) (.t 40), none⟩,
⟨(some 42), .faddr 15 (.t 41) 3, none⟩,
⟨(some 43), .load 16 (.t 42), none⟩,
⟨(some 44), .move (.t 1), none⟩,
⟨(some 45), .move (.t 8), none⟩,
⟨(some 46), .iaddr 6 (.t 44) (.t 45), none⟩,
⟨(some 47), .load 2 (.t 46), none⟩,
⟨(some 48), .iaddr 16 (.t 43) (.t 47), none⟩,
⟨(some 49), .load 17 (.t 48), none⟩,
⟨(some 9), .alloc 17, none⟩,
⟨none, .store 17 (.t 9) (.t 49), none⟩])
    (.seq (.region false [] [
⟨(some 50), .faddr 0 (.t 2) 2, none⟩,
⟨(some 51), .load 14 (.t 50), none⟩,
⟨(some 52), .move (.t 8), none⟩,
⟨(some 53), .iaddr 14 (.t 51) (.t 52), none⟩,
⟨(some 54), .faddr 15 (.t 53) 2, none⟩,
⟨(some 55), .load 6 (.t 54), none⟩,
⟨(some 56), .len 6 (.t 55), none⟩,
⟨(some 10), .assign (.t 56), none⟩])
    (.seq (.region true [] [
⟨(some 57), .move (.t 7), none⟩,
⟨(some 58), .move (.t 7), none⟩,
⟨(some 59), .iaddr 6 (.t 58) (.c (.int .i64 1)), none⟩,
⟨(some 60), .load 2 (.t 59), none⟩,
⟨(some 61), .faddr 17 (.t 9) 0, none⟩,
⟨(some 62), .load 2 (.t 61), none⟩,
⟨(some 63), .maxi [(.t 60), (.t 62)], none⟩,
⟨(some 64), .iaddr 6 (.t 57) (.c (.int .i64 1)), none⟩,
⟨none, .store 2 (.t 64) (.t 63), none⟩])
    (.seq (.region true [] [
⟨(some 65), .move (.t 7), none⟩,
⟨(some 66), .move (.t 7), none⟩,
⟨(some 67), .iaddr 6 (.t 66) (.c (.int .i64 2)), none⟩,
⟨(some 68), .load 2 (.t 67), none⟩,
⟨(some 69), .faddr 17 (.t 9) 1, none⟩,
⟨(some 70), .load 2 (.t 69), none⟩,
⟨(some 71), .move (.t 10), none⟩,
⟨(some 72), .bin .mul 2 (.t 70) (.t 71), none⟩,
⟨(some 73), .bin .add 2 (.t 68) (.t 72), none⟩,
⟨(some 74), .iaddr 6 (.t 65) (.c (.int .i64 2)), none⟩,
⟨none, .store 2 (.t 74) (.t 73), none⟩])
    (.region true [] [
⟨(some 75), .move (.t 7), none⟩,
⟨(some 76), .move (.t 7), none⟩,
⟨(some 77), .iaddr 6 (.t 76) (.c (.int .i64 3)), none⟩,
⟨(some 78), .load 2 (.t 77), none⟩,
⟨(some 79), .faddr 17 (.t 9) 2, none⟩,
⟨(some 80), .load 2 (.t 79), none⟩,
⟨(some 81), .move (.t 10), none⟩,
⟨(some 82), .bin .mul 2 (.t 80) (.t 81), none⟩,
⟨(some 83), .bin .add 2 (.t 78) (.t 82), none⟩,
⟨(some 84), .iaddr 6 (.t 75) (.c (.int .i64 3)), none⟩,
⟨none, .store 2 (.t 84) (.t 83), none⟩]))))))
    (.region false [] [
⟨(some 36), .move (.t 8), none⟩,
⟨(some 37), .bin .add 2 (.t 36) (.c (.int .i64 1)), none⟩,
⟨(some 8), .assign (.t 37), none⟩]))))))
    (.seq (.region false [] [
⟨(some 85), .move (.t 7), none⟩,
⟨(some 4), .assign (.t 85), none⟩,
⟨(some 5), .assign (.c (.int .i64 0)), none⟩])
    (.ret)))))))⟩

def f24 : DFn := ⟨62, [.tmp 6, .tmp 7],
    .seq (.region false [] [
⟨(some 3), .box 0 (.t 0), none⟩,
⟨(some 6), .assign (.c (.bool false)), none⟩,
⟨(some 7), .assign (.c (.int .i64 0)), none⟩])
    (.seq (.region false [] [
⟨(some 15), .load 0 (.t 3), none⟩,
⟨(some 16), .move (.t 1), none⟩,
⟨(some 17), .call 0 (.f 22) [(.t 15), (.t 16)], none⟩,
⟨(some 14), .move (.t 17), none⟩,
⟨(some 18), .extract (.t 14) 0, none⟩,
⟨(some 19), .extract (.t 14) 1, none⟩,
⟨(some 8), .assign (.t 18), none⟩,
⟨(some 7), .assign (.t 19), none⟩])
    (.seq (.seq (.region false [] [
⟨(some 20), .move (.t 7), none⟩,
⟨(some 21), .bin .neq 3 (.t 20) (.c (.int .i64 0)), none⟩])
    (.cond (.t 21) (.seq (.region false [] [
⟨(some 22), .move (.t 7), none⟩,
⟨(some 6), .assign (.c (.bool false)), none⟩,
⟨(some 7), .assign (.t 22), none⟩])
    (.ret)) (.skip)))
    (.seq (.region false [] [
⟨(some 24), .load 0 (.t 3), none⟩,
⟨(some 25), .move (.t 2), none⟩,
⟨(some 26), .call 0 (.f 22) [(.t 24), (.t 25)], none⟩,
⟨(some 23), .move (.t 26), none⟩,
⟨(some 27), .extract (.t 23) 0, none⟩,
⟨(some 28), .extract (.t 23) 1, none⟩,
⟨(some 9), .assign (.t 27), none⟩,
⟨(some 7), .assign (.t 28), none⟩])
    (.seq (.seq (.region false [] [
⟨(some 29), .move (.t 7), none⟩,
⟨(some 30), .bin .neq 3 (.t 29) (.c (.int .i64 0)), none⟩])
    (.cond (.t 30) (.seq (.region false [] [
⟨(some 31), .move (.t 7), none⟩,
⟨(some 6), .assign (.c (.bool false)), none⟩,
⟨(some 7), .assign (.t 31), none⟩])
    (.ret)) (.skip)))
    (.seq (.seq (.region false [] [
⟨(some 32), .move (.t 8), none⟩,
⟨(some 33), .move (.t 9), none⟩,
⟨(some 34), .build 23 [(0, (.t 32)), (1, (.t 33))], none⟩,
⟨(some 35), .move (.t 1), none⟩,
⟨(some 36), .move (.t 2), none⟩,
⟨(some 37), .build 23 [(0, (.t 35)), (1, (.t 36))], none⟩,
⟨(some 38), .bslice false 24 2 [(0, (.t 34)), (1, (.t 37))], none⟩,
⟨(some 39), .len 24 (.t 38), none⟩,
⟨(some 40), .move (.c (.int .i64 0)), none⟩])
    (.block 0 (.loop (.seq (.region false [] [
⟨(some 41), .bin .lss 2 (.t 40) (.t 39), none⟩])
    (.seq (.cond (.t 41) (.skip) (.exit 0))
    (.seq (.block 1 (.seq (.region false [] [
⟨(some 42), .iaddr 24 (.t 38) (.t 40), none⟩,
⟨(some 43), .load 23 (.t 42), none⟩,
⟨(some 11), .alloc 23, none⟩,
⟨none, .store 23 (.t 11) (.t 43), none⟩])
    (.seq (.region false [] [
⟨(some 45), .iaddr 23 (.t 11) (.c (.int .i64 0)), none⟩,
⟨(some 46), .load 6 (.t 45), none⟩,
⟨(some 47), .iaddr 23 (.t 11) (.c (.int .i64 1)), none⟩,
⟨(some 48), .load 6 (.t 47), none⟩,
⟨(some 49), .call 0 (.f 30) [(.t 46), (.t 48)], none⟩,
⟨(some 44), .move (.t 49), none⟩,
⟨(some 50), .extract (.t 44) 0, none⟩,
⟨(some 51), .extract (.t 44) 1, none⟩,
⟨(some 12), .assign (.t 50), none⟩,
⟨(some 13), .assign (.t 51), none⟩])
    (.seq (.region false [] [
⟨(some 52), .move (.t 13), none⟩,
⟨(some 53), .bin .neq 3 (.t 52) (.c (.int .i64 0)), none⟩,
⟨(some 54), .move (.t 53), none⟩,
⟨(some 55), .move (.t 12), (some (54, false))⟩,
⟨(some 56), .bin .neq 2 (.t 55) (.c (.int .i64 0)), (some (54, false))⟩,
⟨(some 57), .pick (.t 54) (.c (.bool true)) (.t 56), none⟩])
    (.cond (.t 57) (.seq (.region false [] [
⟨(some 58), .move (.t 12), none⟩,
⟨(some 59), .bin .lss 2 (.t 58) (.c (.int .i64 0)), none⟩,
⟨(some 60), .move (.t 13), none⟩,
⟨(some 6), .assign (.t 59), none⟩,
⟨(some 7), .assign (.t 60), none⟩])
    (.ret)) (.skip))))))
    (.region false [] [
⟨(some 61), .bin .add 2 (.t 40) (.c (.int .i64 1)), none⟩,
⟨(some 40), .move (.t 61), none⟩])))))))
    (.seq (.region false [] [
⟨(some 6), .assign (.c (.bool false)), none⟩,
⟨(some 7), .assign (.c (.int .i64 0)), none⟩])
    (.ret)))))))⟩

def f25 : DFn := ⟨49, [.tmp 6, .tmp 7],
    .seq (.region false [] [
⟨(some 3), .box 0 (.t 0), none⟩,
⟨(some 6), .assign (.c (.bool false)), none⟩,
⟨(some 7), .assign (.c (.int .i64 0)), none⟩])
    (.seq (.region false [] [
⟨(some 14), .load 0 (.t 3), none⟩,
⟨(some 15), .move (.t 1), none⟩,
⟨(some 16), .call 0 (.f 23) [(.t 14), (.t 15)], none⟩,
⟨(some 13), .move (.t 16), none⟩,
⟨(some 17), .extract (.t 13) 0, none⟩,
⟨(some 18), .extract (.t 13) 1, none⟩,
⟨(some 8), .assign (.t 17), none⟩,
⟨(some 9), .assign (.t 18), none⟩])
    (.seq (.seq (.region false [] [
⟨(some 19), .move (.t 9), none⟩,
⟨(some 20), .bin .neq 3 (.t 19) (.c (.int .i64 0)), none⟩])
    (.cond (.t 20) (.seq (.region false [] [
⟨(some 21), .move (.t 9), none⟩,
⟨(some 6), .assign (.c (.bool false)), none⟩,
⟨(some 7), .assign (.t 21), none⟩])
    (.ret)) (.skip)))
    (.seq (.region false [] [
⟨(some 23), .load 0 (.t 3), none⟩,
⟨(some 24), .move (.t 2), none⟩,
⟨(some 25), .call 0 (.f 23) [(.t 23), (.t 24)], none⟩,
⟨(some 22), .move (.t 25), none⟩,
⟨(some 26), .extract (.t 22) 0, none⟩,
⟨(some 27), .extract (.t 22) 1, none⟩,
⟨(some 10), .assign (.t 26), none⟩,
⟨(some 9), .assign (.t 27), none⟩])
    (.seq (.seq (.region false [] [
⟨(some 28), .move (.t 9), none⟩,
⟨(some 29), .bin .neq 3 (.t 28) (.c (.int .i64 0)), none⟩])
    (.cond (.t 29) (.seq (.region false [] [
⟨(some 30), .move (.t 9), none⟩,
⟨(some 6), .assign (.c (.bool false)), none⟩,
⟨(some 7), .assign (.t 30), none⟩])
    (.ret)) (.skip)))
    (.seq (.region false [] [
⟨(some 32), .move (.t 8), none⟩,
⟨(some 33), .move (.t 10), none⟩,
⟨(some 34), .call 0 (.f 86) [(.t 32), (.t 33)], none⟩,
⟨(some 31), .move (.t 34), none⟩,
⟨(some 35), .extract (.t 31) 0, none⟩,
⟨(some 36), .extract (.t 31) 1, none⟩,
⟨(some 11), .assign (.t 35), none⟩,
⟨(some 12), .assign (.t 36), none⟩])
    (.seq (.seq (.region false [] [
⟨(some 37), .move (.t 11), none⟩,
⟨(some 38), .bin .neq 2 (.t 37) (.c (.int .i64 0)), none⟩])
    (.cond (.t 38) (.seq (.region false [] [
⟨(some 39), .move (.t 11), none⟩,
⟨(some 40), .bin .lss 2 (.t 39) (.c (.int .i64 0)), none⟩,
⟨(some 6), .assign (.t 40), none⟩,
⟨(some 7), .assign (.c (.int .i64 0)), none⟩])
    (.ret)) (.skip)))
    (.seq (.region false [] [
⟨(some 42), .move (.t 1), none⟩,
⟨(some 43), .move (.t 2), none⟩,
⟨(some 44), .call 0 (.f 86) [(.t 42), (.t 43)], none⟩,
⟨(some 41), .move (.t 44), none⟩,
⟨(some 45), .extract (.t 41) 0, none⟩,
⟨(some 46), .extract (.t 41) 1, none⟩,
⟨(some 11), .assign (.t 45), none⟩])
    (.seq (.region false [] [
⟨(some 47), .move (.t 11), none⟩,
⟨(some 48), .bin .lss 2 (.t 47) (.c (.int .i64 0)), none⟩,
⟨(some 6), .assign (.t 48), none⟩,
⟨(some 7), .assign (.c (.int .i64 0)), none⟩])
    (.ret)))))))))⟩

def f26 : DFn := ⟨23, [.cell 4 8, .tmp 5],
    .seq (.region false [] [
⟨(some 2), .box 0 (.t 0), none⟩,
⟨(some 4), .alloc 8, none⟩,
⟨(some 5), .assign (.c (.int .i64 0)), none⟩])
    (.seq (.seq (.region false [] [
⟨(some 7), .load 0 (.t 2), none⟩,
⟨(some 8), .move (.t 1), none⟩,
⟨(some 9), .call 0 (.f 83) [(.t 7), (.t 8)], none⟩,
⟨(some 5), .assign (.t 9), none⟩])
    (.seq (.region false [] [
⟨(some 10), .move (.t 5), none⟩,
⟨(some 11), .bin .neq 3 (.t 10) (.c (.int .i64 0)), none⟩])
    (.cond (.t 11) (.seq (.region false [] [
⟨(some 12), .move (.t 5), none⟩,
⟨none, .store 8 (.t 4) (.c (.imm .exact [])), none⟩,
⟨(some 5), .assign (.t 12), none⟩])
    (.ret)) (.skip))))
    (.seq (.seq (.region false [] [
⟨(some 13), .load 0 (.t 2), none⟩,
⟨(some 14), .move (.t 1), none⟩,
⟨(some 15), .call 0 (.f 84) [(.t 13), (.t 14)], none⟩])
    (.block 0 (.rfunc (.t 15) [16, 17] (.region false [] [
⟨(some 6), .alloc 11, none⟩,
⟨none, .store 11 (.t 6) (.t 16), none⟩]) (.block 1 (.region false [] [
⟨(some 18), .load 8 (.t 4), none⟩,
⟨(some 19), .load 11 (.t 6), none⟩,
⟨(some 20), .bslice false 8 1 [(0, (.t 19))], none⟩,
⟨(some 21), .append 0 8 8 (.t 18) (.t 20), none⟩,
⟨none, .store 8 (.t 4) (.t 21), none⟩])))))
    (.seq (.region false [] [
⟨(some 22), .load 8 (.t 4), none⟩,
⟨none, .store 8 (.t 4) (.t 22), none⟩,
⟨(some 5), .assign (.c (.int .i64 0)), none⟩])
    (.ret))))⟩

def f27 : DFn := ⟨59, [.tmp 4, .tmp 5],
    .seq (.region false [] [
⟨(some 2), .box 0 (.t 0), none⟩,
⟨(some 4), .assign (.c (.imm .exact [])), none⟩,
⟨(some 5), .assign (.c (.int .i64 0)), none⟩])
    (.seq (.region false [] [
⟨(some 13), .load 0 (.t 2), none⟩,
⟨(some 14), .move (.t 1), none⟩,
⟨(some 15), .call 0 (.f 23) [(.t 13), (.t 14)], none⟩,
⟨(some 12), .move (.t 15), none⟩,
⟨(some 16), .extract (.t 12) 0, none⟩,
⟨(some 17), .extract (.t 12) 1, none⟩,
⟨(some 6), .assign (.t 16), none⟩,
⟨(some 7), .assign (.t 17), none⟩])
    (.seq (.seq (.region false [] [
⟨(some 18), .move (.t 7), none⟩,
⟨(some 19), .bin .neq 3 (.t 18) (.c (.int .i64 0)), none⟩])
    (.cond (.t 19) (.seq (.region false [] [
⟨(some 20), .move (.t 7), none⟩,
⟨(some 4), .assign (.c (.imm .exact [])), none⟩,
⟨(some 5), .assign (.t 20), none⟩])
    (.ret)) (.skip)))
    (.seq (.region false [] [
⟨(some 21), .bslice false 8 0 [], none⟩,
⟨(some 8), .assign (.t 21), none⟩])
    (.seq (.seq (.region false [] [
⟨(some 9), .assign (.c (.int .i64 0)), none⟩])
    (.block 0 (.loop (.seq (.seq (.region false [] [
⟨(some 22), .move (.t 9), none⟩,
⟨(some 23), .faddr 0 (.t 2) 1, none⟩,
⟨(some 24), .load 9 (.t 23), none⟩,
⟨(some 25), .len 9 (.t 24), none⟩,
⟨(some 26), .bin .lss 2 (.t 22) (.t 25), none⟩])
    (.cond (.t 26) (.skip) (.exit 0)))
    (.seq (.block 1 (.seq (.region false [] [
⟨(some 29), .load 0 (.t 2), none⟩,
⟨(some 30), .move (.t 1), none⟩,
⟨(some 31), .move (.t 9), none⟩,
⟨(some 32), .call 0 (.f 80) [(.t 29), (.t 30), (.t 31)], none⟩,
⟨(some 10), .assign (.t 32), none⟩])
    (.seq (.region false [] [
⟨(some 11), .assign (.c (.int .i64 0)), none⟩])
    (.block 2 (.loop (.seq (.seq (.region false [] [
⟨(some 33), .move (.t 11), none⟩,
⟨(some 34), .move (.t 10), none⟩,
⟨(some 35), .len 6 (.t 34), none⟩,
⟨(some 36), .bin .lss 2 (.t 33) (.t 35), none⟩])
    (.cond (.t 36) (.skip) (.exit 2)))
    (.seq (.block 3 (.seq (.region true [] [
⟨(some 39), .move (.t 10), none⟩,
⟨(some 40), .move (.t 11), none⟩,
⟨(some 41), .iaddr 6 (.t 39) (.t 40), none⟩,
⟨(some 42), .load 2 (.t 41), none⟩,
⟨(some 43), .faddr 0 (.t 2) 1, none⟩,
⟨(some 44), .load 9 (.t 43), none⟩,
⟨(some 45), .move (.t 9), none⟩,
⟨(some 46), .iaddr 9 (.t 44) (.t 45), none⟩,
⟨(some 47), .load 6 (.t 46), none⟩,
⟨(some 48), .move (.t 11), none⟩,
⟨(some 49), .iaddr 6 (.t 47) (.t 48), none⟩,
⟨(some 50), .load 2 (.t 49), none⟩,
⟨(some 51), .bin .gtr 2 (.t 42) (.t 50), none⟩])
    (.cond (.t 51) (.region false [] [
⟨(some 52), .move (.t 8), none⟩,
⟨(some 53), .move (.t 9), none⟩,
⟨(some 54), .move (.t 11), none⟩,
⟨(some 55), .build 11 [(0, (.t 53)), (1, (.t 54))], none⟩,
⟨(some 56), .bslice false 8 1 [(0, (.t 55))], none⟩,
⟨(some 57), .append 0 8 8 (.t 52) (.t 56), none⟩,
⟨(some 8), .assign (.t 57), none⟩]) (.skip))))
    (.region false [] [
⟨(some 37), .move (.t 11), none⟩,
⟨(some 38), .bin .add 2 (.t 37) (.c (.int .i64 1)), none⟩,
⟨(some 11), .assign (.t 38), none⟩]))))))))
    (.region false [] [
⟨(some 27), .move (.t 9), none⟩,
⟨(some 28), .bin .add 2 (.t 27) (.c (.int .i64 1)), none⟩,
⟨(some 9), .assign (.t 28), none⟩]))))))
    (.seq (.region false [] [
⟨(some 58), .move (.t 8), none⟩,
⟨(some 4), .assign (.t 58), none⟩,
⟨(some 5), .assign (.c (.int .i64 0)), none⟩])
    (.ret))))))⟩

def f28 : DFn := ⟨26, [.tmp 4],
    .seq (.region false [] [
⟨(some 4), .assign (.c (.bool false)), none⟩])
    (.seq (.seq (.region false [] [
⟨(some 6), .move (.t 0), none⟩,
⟨(some 7), .len 8 (.t 6), none⟩,
⟨(some 8), .move (.t 1), none⟩,
⟨(some 9), .len 8 (.t 8), none⟩,
⟨(some 10), .bin .neq 2 (.t 7) (.t 9), none⟩])
    (.cond (.t 10) (.seq (.region false [] [
⟨(some 4), .assign (.c (.bool false)), none⟩])
    (.ret)) (.skip)))
    (.seq (.seq (.region false [] [
⟨(some 5), .assign (.c (.int .i64 0)), none⟩])
    (.block 0 (.loop (.seq (.seq (.region false [] [
⟨(some 11), .move (.t 5), none⟩,
⟨(some 12), .move (.t 0), none⟩,
⟨(some 13), .len 8 (.t 12), none⟩,
⟨(some 14), .bin .lss 2 (.t 11) (.t 13), none⟩])
    (.cond (.t 14) (.skip) (.exit 0)))
    (.seq (.block 1 (.seq (.region true [] [
⟨(some 17), .move (.t 0), none⟩,
⟨(some 18), .move (.t 5), none⟩,
⟨(some 19), .iaddr 8 (.t 17) (.t 18), none⟩,
⟨(some 20), .load 11 (.t 19), none⟩,
⟨(some 21), .move (.t 1), none⟩,
⟨(some 22), .move (.t 5), none⟩,
⟨(some 23), .iaddr 8 (.t 21) (.t 22), none⟩,
⟨(some 24), .load 11 (.t 23), none⟩,
⟨(some 25), .bin .neq 11 (.t 20) (.t 24), none⟩])
    (.cond (.t 25) (.seq (.region false [] [
⟨(some 4), .assign (.c (.bool false)), none⟩])
    (.ret)) (.skip))))
    (.region false [] [
⟨(some 15), .move (.t 5), none⟩,
⟨(some 16), .bin .add 2 (.t 15) (.c (.int .i64 1)), none⟩,
⟨(some 5), .assign (.t 16), none⟩]))))))
    (.seq (.region false [] [
⟨(some 4), .assign (.c (.bool true)), none⟩])
    (.ret))))⟩

def f29 : DFn := ⟨152, [.tmp 8],
    .seq (.region false [] [
⟨(some 4), .box 0 (.t 0), none⟩,
⟨(some 8), .assign (.c (.bool false)), none⟩])
    (.seq (.seq (.region false [] [
⟨(some 26), .call 0 (.f 17) [], none⟩,
⟨(some 27), .un .not (.t 26), none⟩])
    (.cond (.t 27) (.seq (.region false [] [
⟨(some 8), .assign (.c (.bool false)), none⟩])
    (.ret)) (.skip)))
    (.seq (.seq (.region false [] [
⟨(some 28), .load 0 (.t 4), none⟩,
⟨(some 29), .call 0 (.f 2) [(.t 28)], none⟩,
⟨(some 30), .un .not (.t 29), none⟩,
⟨(some 31), .move (.t 30), none⟩,
⟨(some 32), .move (.t 1), (some (31, false))⟩,
⟨(some 33), .len 6 (.t 32), (some (31, false))⟩,
⟨(some 34), .bin .gtr 2 (.t 33) (.c (.int .i64 20)), (some (31, false))⟩,
⟨(some 35), .pick (.t 31) (.c (.bool true)) (.t 34), none⟩,
⟨(some 36), .move (.t 35), none⟩,
⟨(some 37), .move (.t 2), (some (36, false))⟩,
⟨(some 38), .len 6 (.t 37), (some (36, false))⟩,
⟨(some 39), .bin .gtr 2 (.t 38) (.c (.int .i64 20)), (some (36, false))⟩,
⟨(some 40), .pick (.t 36) (.c (.bool true)) (.t 39), none⟩,
⟨(some 41), .move (.t 40), none⟩,
⟨(some 42), .move (.t 3), (some (41, false))⟩,
⟨(some 43), .len 6 (.t 42), (some (41, false))⟩,
⟨(some 44), .bin .gtr 2 (.t 43) (.c (.int .i64 20)), (some (41, false))⟩,
⟨(some 45), .pick (.t 41) (.c (.bool true)) (.t 44), none⟩])
    (.cond (.t 45) (.seq (.region false [] [
⟨(some 8), .assign (.c (.bool true)), none⟩])
    (.ret)) (.skip)))
    (.seq (.region false [] [
⟨(some 47), .load 0 (.t 4), none⟩,
⟨(some 48), .move (.t 1), none⟩,
⟨(some 49), .call 0 (.f 22) [(.t 47), (.t 48)], none⟩,
⟨(some 46), .move (.t 49), none⟩,
⟨(some 50), .extract (.t 46) 0, none⟩,
⟨(some 51), .extract (.t 46) 1, none⟩,
⟨(some 9), .assign (.t 50), none⟩,
⟨(some 10), .assign (.t 51), none⟩])
    (.seq (.region false [] [
⟨(some 53), .load 0 (.t 4), none⟩,
⟨(some 54), .move (.t 2), none⟩,
⟨(some 55), .call 0 (.f 22) [(.t 53), (.t 54)], none⟩,
⟨(some 52), .move (.t 55), none⟩,
⟨(some 56), .extract (.t 52) 0, none⟩,
⟨(some 57), .extract (.t 52) 1, none⟩,
⟨(some 11), .assign (.t 56), none⟩,
⟨(some 12), .assign (.t 57), none⟩])
    (.seq (.region false [] [
⟨(some 59), .load 0 (.t 4), none⟩,
⟨(some 60), .move (.t 3), none⟩,
⟨(some 61), .call 0 (.f 22) [(.t 59), (.t 60)], none⟩,
⟨(some 58), .move (.t 61), none⟩,
⟨(some 62), .extract (.t 58) 0, none⟩,
⟨(some 63), .extract (.t 58) 1, none⟩,
⟨(some 13), .assign (.t 62), none⟩,
⟨(some 14), .assign (.t 63), none⟩])
    (.seq (.seq (.region false [] [
⟨(some 64), .move (.t 10), none⟩,
⟨(some 65), .bin .neq 3 (.t 64) (.c (.int .i64 0)), none⟩,
⟨(some 66), .move (.t 65), none⟩,
⟨(some 67), .move (.t 12), (some (66, false))⟩,
⟨(some 68), .bin .neq 3 (.t 67) (.c (.int .i64 0)), (some (66, false))⟩,
⟨(some 69), .pick (.t 66) (.c (.bool true)) (.t 68), none⟩,
⟨(some 70), .move (.t 69), none⟩,
⟨(some 71), .move (.t 14), (some (70, false))⟩,
⟨(some 72), .bin .neq 3 (.t 71) (.c (.int .i64 0)), (some (70, false))⟩,
⟨(some 73), .pick (.t 70) (.c (.bool true)) (.t 72), none⟩])
    (.cond (.t 73) (.seq (.region false [] [
⟨(some 8), .assign (.c (.bool true)), none⟩])
    (.ret)) (.skip)))
    (.seq (.region false [] [
⟨(some 75), .load 0 (.t 4), none⟩,
⟨(some 76), .move (.t 1), none⟩,
⟨(some 77), .move (.t 2), none⟩,
⟨(some 78), .call 0 (.f 24) [(.t 75), (.t 76), (.t 77)], none⟩,
⟨(some 74), .move (.t 78), none⟩,
⟨(some 79), .extract (.t 74) 0, none⟩,
⟨(some 80), .extract (.t 74) 1, none⟩,
⟨(some 15), .assign (.t 79), none⟩,
⟨(some 16), .assign (.t 80), none⟩])
    (.seq (.region false [] [
⟨(some 82), .load 0 (.t 4), none⟩,
⟨(some 83), .move (.t 2), none⟩,
⟨(some 84), .move (.t 1), none⟩,
⟨(some 85), .call 0 (.f 24) [(.t 82), (.t 83), (.t 84)], none⟩,
⟨(some 81), .move (.t 85), none⟩,
⟨(some 86), .extract (.t 81) 0, none⟩,
⟨(some 87), .extract (.t 81) 1, none⟩,
⟨(some 17), .assign (.t 86), none⟩,
⟨(some 18), .assign (.t 87), none⟩])
    (.seq (.region false [] [
⟨(some 89), .load 0 (.t 4), none⟩,
⟨(some 90), .move (.t 2), none⟩,
⟨(some 91), .move (.t 3), none⟩,
⟨(some 92), .call 0 (.f 24) [(.t 89), (.t 90), (.t 91)], none⟩,
⟨(some 88), .move (.t 92), none⟩,
⟨(some 93), .extract (.t 88) 0, none⟩,
⟨(some 94), .extract (.t 88) 1, none⟩,
⟨(some 19), .assign (.t 93), none⟩,
⟨(some 20), .assign (.t 94), none⟩])
    (.seq (.region false [] [
⟨(some 96), .load 0 (.t 4), none⟩,
⟨(some 97), .move (.t 1), none⟩,
⟨(some 98), .move (.t 3), none⟩,
⟨(some 99), .call 0 (.f 24) [(.t 96), (.t 97), (.t 98)], none⟩,
⟨(some 95), .move (.t 99), none⟩,
⟨(some 100), .extract (.t 95) 0, none⟩,
⟨(some 101), .extract (.t 95) 1, none⟩,
⟨(some 21), .assign (.t 100), none⟩,
⟨(some 22), .assign (.t 101), none⟩])
    (.seq (.region false [] [
⟨(some 103), .move (.t 9), none⟩,
⟨(some 104), .move (.t 11), none⟩,
⟨(some 105), .call 0 (.f 30) [(.t 103), (.t 104)], none⟩,
⟨(some 102), .move (.t 105), none⟩,
⟨(some 106), .extract (.t 102) 0, none⟩,
⟨(some 107), .extract (.t 102) 1, none⟩,
⟨(some 23), .assign (.t 106), none⟩,
⟨(some 24), .assign (.t 107), none⟩])
    (.seq (.region false [] [
⟨(some 108), .move (.t 1), none⟩,
⟨(some 109), .move (.t 2), none⟩,
⟨(some 110), .call 0 (.f 20) [(.t 108), (.t 109)], none⟩,
⟨(some 25), .assign (.t 110), none⟩])
    (.seq (.seq (.region false [] [
⟨(some 111), .move (.t 24), none⟩,
⟨(some 112), .bin .neq 3 (.t 111) (.c (.int .i64 0)), none⟩,
⟨(some 113), .move (.t 112), none⟩,
⟨(some 114), .move (.t 25), (some (113, false))⟩,
⟨(some 115), .move (.t 15), (some (113, false))⟩,
⟨(some 116), .move (.t 115), (some (113, false))⟩,
⟨(some 117), .move (.t 17), (some (116, false))⟩,
⟨(some 118), .pick (.t 116) (.c (.bool true)) (.t 117), (some (113, false))⟩,
⟨(some 119), .bin .eql 7 (.t 114) (.t 118), (some (113, false))⟩,
⟨(some 120), .pick (.t 113) (.c (.bool true)) (.t 119), none⟩,
⟨(some 121), .move (.t 120), none⟩,
⟨(some 122), .move (.t 15), (some (121, false))⟩,
⟨(some 123), .move (.t 122), (some (121, false))⟩,
⟨(some 124), .move (.t 17), (some (123, true))⟩,
⟨(some 125), .pick (.t 123) (.t 124) (.c (.bool false)), (some (121, false))⟩,
⟨(some 126), .pick (.t 121) (.c (.bool true)) (.t 125), none⟩,
⟨(some 127), .move (.t 126), none⟩,
⟨(some 128), .move (.t 23), (some (127, false))⟩,
⟨(some 129), .bin .lss 2 (.t 128) (.c (.int .i64 0)), (some (127, false))⟩,
⟨(some 130), .move (.t 129), (some (127, false))⟩,
⟨(some 131), .move (.t 15), (some (130, true))⟩,
⟨(some 132), .un .not (.t 131), (some (130, true))⟩,
⟨(some 133), .pick (.t 130) (.t 132) (.c (.bool false)), (some (127, false))⟩,
⟨(some 134), .pick (.t 127) (.c (.bool true)) (.t 133), none⟩,
⟨(some 135), .move (.t 134), none⟩,
⟨(some 136), .move (.t 23), (some (135, false))⟩,
⟨(some 137), .bin .gtr 2 (.t 136) (.c (.int .i64 0)), (some (135, false))⟩,
⟨(some 138), .move (.t 137), (some (135, false))⟩,
⟨(some 139), .move (.t 17), (some (138, true))⟩,
⟨(some 140), .un .not (.t 139), (some (138, true))⟩,
⟨(some 141), .pick (.t 138) (.t 140) (.c (.bool false)), (some (135, false))⟩,
⟨(some 142), .pick (.t 135) (.c (.bool true)) (.t 141), none⟩])
    (.cond (.t 142) (.seq (.region false [] [
⟨(some 8), .assign (.c (.bool false)), none⟩])
    (.ret)) (.skip)))
    (.seq (.region false [] [
⟨(some 143), .move (.t 15), none⟩,
⟨(some 144), .un .not (.t 143), none⟩,
⟨(some 145), .move (.t 144), none⟩,
⟨(some 146), .move (.t 19), (some (145, false))⟩,
⟨(some 147), .un .not (.t 146), (some (145, false))⟩,
⟨(some 148), .pick (.t 145) (.c (.bool true)) (.t 147), none⟩,
⟨(some 149), .move (.t 148), none⟩,
⟨(some 150), .move (.t 21), (some (149, false))⟩,
⟨(some 151), .pick (.t 149) (.c (.bool true)) (.t 150), none⟩,
⟨(some 8), .assign (.t 151), none⟩])
    (.ret)))))))))))))))⟩

def f30 : DFn := ⟨14, [.tmp 4, .tmp 5],
    .seq (.region false [] [
⟨(some 4), .assign (.c (.int .i64 0)), none⟩,
⟨(some 5), .assign (.c (.int .i64 0)), none⟩])
    (.seq (.seq (.region false [] [
⟨(some 6), .move (.t 0), none⟩,
⟨(some 7), .len 6 (.t 6), none⟩,
⟨(some 8), .move (.t 1), none⟩,
⟨(some 9), .len 6 (.t 8), none⟩,
⟨(some 10), .bin .neq 2 (.t 7) (.t 9), none⟩])
    (.cond (.t 10) (.seq (.region false [] [
⟨(some 4), .assign (.c (.int .i64 0)), none⟩,
⟨(some 5), .assign (.c (.int .i64 60)), none⟩])
    (.ret)) (.skip)))
    (.seq (.region false [] [
⟨(some 11), .move (.t 0), none⟩,
⟨(some 12), .move (.t 1), none⟩,
⟨(some 13), .call 0 (.f 87) [(.t 11), (.t 12)], none⟩,
⟨(some 4), .assign (.t 13), none⟩,
⟨(some 5), .assign (.c (.int .i64 0)), none⟩])
    (.ret)))⟩

def f31 : DFn := ⟨153, [.tmp 4],
    .seq (.region false [] [
⟨(some 2), .box 0 (.t 0), none⟩,
⟨(some 4), .assign (.c (.bool false)), none⟩])
    (.seq (.seq (.region false [] [
⟨(some 15), .call 0 (.f 17) [], none⟩,
⟨(some 16), .un .not (.t 15), none⟩])
    (.cond (.t 16) (.seq (.region false [] [
⟨(some 4), .assign (.c (.bool false)), none⟩])
    (.ret)) (.skip)))
    (.seq (.seq (.region false [] [
⟨(some 17), .load 0 (.t 2), none⟩,
⟨(some 18), .call 0 (.f 2) [(.t 17)], none⟩,
⟨(some 19), .un .not (.t 18), none⟩,
⟨(some 20), .move (.t 19), none⟩,
⟨(some 21), .move (.t 1), (some (20, false))⟩,
⟨(some 22), .len 6 (.t 21), (some (20, false))⟩,
⟨(some 23), .bin .gtr 2 (.t 22) (.c (.int .i64 20)), (some (20, false))⟩,
⟨(some 24), .pick (.t 20) (.c (.bool true)) (.t 23), none⟩])
    (.cond (.t 24) (.seq (.region false [] [
⟨(some 4), .assign (.c (.bool true)), none⟩])
    (.ret)) (.skip)))
    (.seq (.region false [] [
⟨(some 26), .load 0 (.t 2), none⟩,
⟨(some 27), .move (.t 1), none⟩,
⟨(some 28), .call 0 (.f 22) [(.t 26), (.t 27)], none⟩,
⟨(some 25), .move (.t 28), none⟩,
⟨(some 29), .extract (.t 25) 0, none⟩,
⟨(some 30), .extract (.t 25) 1, none⟩,
⟨(some 5), .assign (.t 29), none⟩,
⟨(some 6), .assign (.t 30), none⟩])
    (.seq (.region false [] [
⟨(some 32), .load 0 (.t 2), none⟩,
⟨(some 33), .move (.t 1), none⟩,
⟨(some 34), .call 0 (.f 26) [(.t 32), (.t 33)], none⟩,
⟨(some 31), .move (.t 34), none⟩,
⟨(some 35), .extract (.t 31) 0, none⟩,
⟨(some 36), .extract (.t 31) 1, none⟩,
⟨(some 7), .assign (.t 35), none⟩,
⟨(some 8), .assign (.t 36), none⟩])
    (.seq (.seq (.region false [] [
⟨(some 37), .move (.t 6), none⟩,
⟨(some 38), .bin .neq 3 (.t 37) (.c (.int .i64 0)), none⟩,
⟨(some 39), .move (.t 38), none⟩,
⟨(some 40), .move (.t 8), (some (39, false))⟩,
⟨(some 41), .bin .neq 3 (.t 40) (.c (.int .i64 0)), (some (39, false))⟩,
⟨(some 42), .pick (.t 39) (.c (.bool true)) (.t 41), none⟩])
    (.cond (.t 42) (.seq (.region false [] [
⟨(some 43), .move (.t 6), none⟩,
⟨(some 44), .move (.t 8), none⟩,
⟨(some 45), .bin .eql 3 (.t 43) (.t 44), none⟩,
⟨(some 46), .move (.t 45), none⟩,
⟨(some 47), .move (.t 5), (some (46, true))⟩,
⟨(some 48), .len 6 (.t 47), (some (46, true))⟩,
⟨(some 49), .bin .eql 2 (.t 48) (.c (.int .i64 0)), (some (46, true))⟩,
⟨(some 50), .pick (.t 46) (.t 49) (.c (.bool false)), none⟩,
⟨(some 51), .move (.t 50), none⟩,
⟨(some 52), .move (.t 7), (some (51, true))⟩,
⟨(some 53), .len 8 (.t 52), (some (51, true))⟩,
⟨(some 54), .bin .eql 2 (.t 53) (.c (.int .i64 0)), (some (51, true))⟩,
⟨(some 55), .pick (.t 51) (.t 54) (.c (.bool false)), none⟩,
⟨(some 4), .assign (.t 55), none⟩])
    (.ret)) (.skip)))
    (.seq (.region false [] [
⟨(some 9), .assign (.c (.int .i64 0)), none⟩,
⟨(some 10), .assign (.c (.int .i64 0)), none⟩])
    (.seq (.seq (.region false [] [
⟨(some 11), .assign (.c (.int .i64 0)), none⟩])
    (.block 0 (.loop (.seq (.seq (.region false [] [
⟨(some 56), .move (.t 11), none⟩,
⟨(some 57), .faddr 0 (.t 2) 1, none⟩,
⟨(some 58), .load 9 (.t 57), none⟩,
⟨(some 59), .len 9 (.t 58), none⟩,
⟨(some 60), .bin .lss 2 (.t 56) (.t 59), none⟩])
    (.cond (.t 60) (.skip) (.exit 0)))
    (.seq (.block 1 (.seq (.region false [] [
⟨(some 64), .load 0 (.t 2), none⟩,
⟨(some 65), .move (.t 1), none⟩,
⟨(some 66), .move (.t 11), none⟩,
⟨(some 67), .call 0 (.f 14) [(.t 64), (.t 65), (.t 66)], none⟩,
⟨(some 63), .move (.t 67), none⟩,
⟨(some 68), .extract (.t 63) 0, none⟩,
⟨(some 69), .extract (.t 63) 1, none⟩,
⟨(some 12), .assign (.t 68), none⟩,
⟨(some 13), .assign (.t 69), none⟩])
    (.seq (.seq (.region false [] [
⟨(some 70), .move (.t 13), none⟩,
⟨(some 71), .bin .neq 3 (.t 70) (.c (.int .i64 0)), none⟩,
⟨(some 72), .move (.t 71), none⟩,
⟨(some 73), .move (.t 12), (some (72, false))⟩,
⟨(some 74), .len 6 (.t 73), (some (72, false))⟩,
⟨(some 75), .faddr 0 (.t 2) 0, (some (72, false))⟩,
⟨(some 76), .load 10 (.t 75), (some (72, false))⟩,
⟨(some 77), .len 10 (.t 76), (some (72, false))⟩,
⟨(some 78), .bin .neq 2 (.t 74) (.t 77), (some (72, false))⟩,
⟨(some 79), .pick (.t 72) (.c (.bool true)) (.t 78), none⟩])
    (.cond (.t 79) (.seq (.region false [] [
⟨(some 4), .assign (.c (.bool false)), none⟩])
    (.ret)) (.skip)))
    (.seq (.region false [] [
⟨(some 14), .assign (.c (.int .i64 0)), none⟩])
    (.block 2 (.loop (.seq (.seq (.region false [] [
⟨(some 80), .move (.t 14), none⟩,
⟨(some 81), .move (.t 12), none⟩,
⟨(some 82), .len 6 (.t 81), none⟩,
⟨(some 83), .bin .lss 2 (.t 80) (.t 82), none⟩])
    (.cond (.t 83) (.skip) (.exit 2)))
    (.seq (.block 3 (.seq (.region true [] [
⟨(some 86), .move (.t 12), none⟩,
⟨(some 87), .move (.t 14), none⟩,
⟨(some 88), .iaddr 6 (.t 86) (.t 87), none⟩,
⟨(some 89), .load 2 (.t 88), none⟩,
⟨(some 90), .faddr 0 (.t 2) 1, none⟩,
⟨(some 91), .load 9 (.t 90), none⟩,
⟨(some 92), .move (.t 11), none⟩,
⟨(some 93), .iaddr 9 (.t 91) (.t 92), none⟩,
⟨(some 94), .load 6 (.t 93), none⟩,
⟨(some 95), .move (.t 14), none⟩,
⟨(some 96), .iaddr 6 (.t 94) (.t 95), none⟩,
⟨(some 97), .load 2 (.t 96), none⟩,
⟨(some 98), .bin .gtr 2 (.t 89) (.t 97), none⟩])
    (.cond (.t 98) (.seq (.region true [] [
⟨(some 99), .move (.t 9), none⟩,
⟨(some 100), .move (.t 12), none⟩,
⟨(some 101), .move (.t 14), none⟩,
⟨(some 102), .iaddr 6 (.t 100) (.t 101), none⟩,
⟨(some 103), .load 2 (.t 102), none⟩,
⟨(some 104), .faddr 0 (.t 2) 1, none⟩,
⟨(some 105), .load 9 (.t 104), none⟩,
⟨(some 106), .move (.t 11), none⟩,
⟨(some 107), .iaddr 9 (.t 105) (.t 106), none⟩,
⟨(some 108), .load 6 (.t 107), none⟩,
⟨(some 109), .move (.t 14), none⟩,
⟨(some 110), .iaddr 6 (.t 108) (.t 109), none⟩,
⟨(some 111), .load 2 (.t 110), none⟩,
⟨(some 112), .bin .sub 2 (.t 103) (.t 111), none⟩,
⟨(some 113), .bin .add 2 (.t 99) (.t 112), none⟩,
⟨(some 9), .assign (.t 113), none⟩])
    (.seq (.seq (.region false [] [
⟨(some 114), .move (.t 10), none⟩,
⟨(some 115), .move (.t 7), none⟩,
⟨(some 116), .len 8 (.t 115), none⟩,
⟨(some 117), .bin .geq 2 (.t 114) (.t 116), none⟩,
⟨(some 118), .move (.t 117), none⟩,
⟨(some 119), .move (.t 7), (some (118, false))⟩,
⟨(some 120), .move (.t 10), (some (118, false))⟩,
⟨(some 121), .iaddr 8 (.t 119) (.t 120), (some (118, false))⟩,
⟨(some 122), .load 11 (.t 121), (some (118, false))⟩,
⟨(some 123), .move (.t 11), (some (118, false))⟩,
⟨(some 124), .move (.t 14), (some (118, false))⟩,
⟨(some 125), .build 11 [(0, (.t 123)), (1, (.t 124))], (some (118, false))⟩,
⟨(some 126), .bin .neq 11 (.t 122) (.t 125), (some (118, false))⟩,
⟨(some 127), .pick (.t 118) (.c (.bool true)) (.t 126), none⟩])
    (.cond (.t 127) (.seq (.region false [] [
⟨(some 4), .assign (.c (.bool false)), none⟩])
    (.ret)) (.skip)))
    (.region false [] [
⟨(some 128), .move (.t 10), none⟩,
⟨(some 129), .bin .add 2 (.t 128) (.c (.int .i64 1)), none⟩,
⟨(some 10), .assign (.t 129), none⟩]))) (.skip))))
    (.region false [] [
⟨(some 84), .move (.t 14), none⟩,
⟨(some 85), .bin .add 2 (.t 84) (.c (.int .i64 1)), none⟩,
⟨(some 14), .assign (.t 85), none⟩])))))))))
    (.region false [] [
⟨(some 61), .move (.t 11), none⟩,
⟨(some 62), .bin .add 2 (.t 61) (.c (.int .i64 1)), none⟩,
⟨(some 11), .assign (.t 62), none⟩]))))))
    (.seq (.region false [] [
⟨(some 130), .move (.t 5), none⟩,
⟨(some 131), .len 6 (.t 130), none⟩,
⟨(some 132), .bin .eql 2 (.t 131) (.c (.int .i64 4)), none⟩,
⟨(some 133), .move (.t 132), none⟩,
⟨(some 134), .move (.t 5), (some (133, true))⟩,
⟨(some 135), .iaddr 6 (.t 134) (.c (.int .i64 0)), (some (133, true))⟩,
⟨(some 136), .load 2 (.t 135), (some (133, true))⟩,
⟨(some 137), .move (.t 9), (some (133, true))⟩,
⟨(some 138), .bin .eql 2 (.t 136) (.t 137), (some (133, true))⟩,
⟨(some 139), .pick (.t 133) (.t 138) (.c (.bool false)), none⟩,
⟨(some 140), .move (.t 139), none⟩,
⟨(some 141), .move (.t 10), (some (140, true))⟩,
⟨(some 142), .move (.t 7), (some (140, true))⟩,
⟨(some 143), .len 8 (.t 142), (some (140, true))⟩,
⟨(some 144), .bin .eql 2 (.t 141) (.t 143), (some (140, true))⟩,
⟨(some 145), .pick (.t 140) (.t 144) (.c (.bool false)), none⟩,
⟨(some 146), .move (.t 145), none⟩,
⟨(some 147), .move (.t 9), (some (146, true))⟩,
⟨(some 148), .bin .eql 2 (.t 147) (.c (.int .i64 0)), (some (146, true))⟩,
⟨(some 149), .move (.t 10), (some (146, true))⟩,
⟨(some 150), .bin .eql 2 (.t 149) (.c (.int .i64 0)), (some (146, true))⟩,
⟨(some 151), .bin .eql 7 (.t 148) (.t 150), (some (146, true))⟩,
⟨(some 152), .pick (.t 146) (.t 151) (.c (.bool false)), none⟩,
⟨(some 4), .assign (.t 152), none⟩])
    (.ret)))))))))⟩

def f32 : DFn := ⟨94, [.tmp 6],
    .seq (.region false [] [
⟨(some 3), .box 0 (.t 0), none⟩,
⟨(some 6), .assign (.c (.bool false)), none⟩])
    (.seq (.seq (.region false [] [
⟨(some 15), .call 0 (.f 17) [], none⟩,
⟨(some 16), .un .not (.t 15), none⟩])
    (.cond (.t 16) (.seq (.region false [] [
⟨(some 6), .assign (.c (.bool false)), none⟩])
    (.ret)) (.skip)))
    (.seq (.seq (.region false [] [
⟨(some 17), .load 0 (.t 3), none⟩,
⟨(some 18), .call 0 (.f 2) [(.t 17)], none⟩,
⟨(some 19), .un .not (.t 18), none⟩,
⟨(some 20), .move (.t 19), none⟩,
⟨(some 21), .move (.t 1), (some (20, false))⟩,
⟨(some 22), .len 1 (.t 21), (some (20, false))⟩,
⟨(some 23), .bin .gtr 2 (.t 22) (.c (.int .i64 20)), (some (20, false))⟩,
⟨(some 24), .pick (.t 20) (.c (.bool true)) (.t 23), none⟩])
    (.cond (.t 24) (.seq (.region false [] [
⟨(some 6), .assign (.c (.bool true)), none⟩])
    (.ret)) (.skip)))
    (.seq (.region false [] [
⟨(some 26), .load 0 (.t 3), none⟩,
⟨(some 27), .move (.t 1), none⟩,
⟨(some 28), .move (.t 2), none⟩,
⟨(some 29), .call 0 (.f 14) [(.t 26), (.t 27), (.t 28)], none⟩,
⟨(some 25), .move (.t 29), none⟩,
⟨(some 30), .extract (.t 25) 0, none⟩,
⟨(some 31), .extract (.t 25) 1, none⟩,
⟨(some 7), .assign (.t 30), none⟩,
⟨(some 8), .assign (.t 31), none⟩])
    (.seq (.seq (.region false [] [
⟨(some 32), .move (.t 8), none⟩,
⟨(some 33), .bin .neq 3 (.t 32) (.c (.int .i64 0)), none⟩])
    (.cond (.t 33) (.seq (.region false [] [
⟨(some 34), .move (.t 7), none⟩,
⟨(some 35), .len 6 (.t 34), none⟩,
⟨(some 36), .bin .eql 2 (.t 35) (.c (.int .i64 0)), none⟩,
⟨(some 6), .assign (.t 36), none⟩])
    (.ret)) (.skip)))
    (.seq (.region false [] [
⟨(some 38), .load 0 (.t 3), none⟩,
⟨(some 39), .move (.t 2), none⟩,
⟨(some 40), .call 0 (.f 14) [(.t 38), (.c (.imm .exact [])), (.t 39)], none⟩,
⟨(some 37), .move (.t 40), none⟩,
⟨(some 41), .extract (.t 37) 0, none⟩,
⟨(some 42), .extract (.t 37) 1, none⟩,
⟨(some 9), .assign (.t 41), none⟩,
⟨(some 10), .assign (.t 42), none⟩])
    (.seq (.seq (.region false [] [
⟨(some 43), .move (.t 10), none⟩,
⟨(some 44), .bin .neq 3 (.t 43) (.c (.int .i64 0)), none⟩])
    (.cond (.t 44) (.seq (.region false [] [
⟨(some 6), .assign (.c (.bool false)), none⟩])
    (.ret)) (.skip)))
    (.seq (.seq (.region false [] [
⟨(some 11), .assign (.c (.int .i64 0)), none⟩])
    (.block 0 (.loop (.seq (.seq (.region false [] [
⟨(some 45), .move (.t 11), none⟩,
⟨(some 46), .move (.t 9), none⟩,
⟨(some 47), .len 6 (.t 46), none⟩,
⟨(some 48), .bin .lss 2 (.t 45) (.t 47), none⟩])
    (.cond (.t 48) (.skip) (.exit 0)))
    (.seq (.block 1 (.seq (.region false [] [
⟨(some 51), .move (.t 9), none⟩,
⟨(some 52), .move (.t 11), none⟩,
⟨(some 53), .iaddr 6 (.t 51) (.t 52), none⟩,
⟨(some 54), .load 2 (.t 53), none⟩,
⟨(some 55), .bin .neq 2 (.t 54) (.c (.int .i64 0)), none⟩])
    (.cond (.t 55) (.seq (.region false [] [
⟨(some 6), .assign (.c (.bool false)), none⟩])
    (.ret)) (.skip))))
    (.region false [] [
⟨(some 49), .move (.t 11), none⟩,
⟨(some 50), .bin .add 2 (.t 49) (.c (.int .i64 1)), none⟩,
⟨(some 11), .assign (.t 50), none⟩]))))))
    (.seq (.seq (.region false [] [
⟨(some 56), .move (.t 1), none⟩,
⟨(some 57), .len 1 (.t 56), none⟩,
⟨(some 58), .bin .eql 2 (.t 57) (.c (.int .i64 0)), none⟩])
    (.cond (.t 58) (.seq (.region false [] [
⟨(some 6), .assign (.c (.bool true)), none⟩])
    (.ret)) (.skip)))
    (.seq (.region true [] [
⟨(some 60), .load 0 (.t 3), none⟩,
⟨(some 61), .move (.t 1), none⟩,
⟨(some 62), .move (.t 1), none⟩,
⟨(some 63), .len 1 (.t 62), none⟩,
⟨(some 64), .bin .sub 2 (.t 63) (.c (.int .i64 1)), none⟩,
⟨(some 65), .slice 1 (.t 61) none (some (.t 64)) none, none⟩,
⟨(some 66), .move (.t 2), none⟩,
⟨(some 67), .call 0 (.f 14) [(.t 60), (.t 65), (.t 66)], none⟩,
⟨(some 59), .move (.t 67), none⟩,
⟨(some 68), .extract (.t 59) 0, none⟩,
⟨(some 69), .extract (.t 59) 1, none⟩,
⟨(some 12), .assign (.t 68), none⟩,
⟨(some 13), .assign (.t 69), none⟩])
    (.seq (.seq (.region false [] [
⟨(some 70), .move (.t 13), none⟩,
⟨(some 71), .bin .neq 3 (.t 70) (.c (.int .i64 0)), none⟩,
⟨(some 72), .move (.t 71), none⟩,
⟨(some 73), .move (.t 12), (some (72, false))⟩,
⟨(some 74), .len 6 (.t 73), (some (72, false))⟩,
⟨(some 75), .move (.t 7), (some (72, false))⟩,
⟨(some 76), .len 6 (.t 75), (some (72, false))⟩,
⟨(some 77), .bin .neq 2 (.t 74) (.t 76), (some (72, false))⟩,
⟨(some 78), .pick (.t 72) (.c (.bool true)) (.t 77), none⟩])
    (.cond (.t 78) (.seq (.region false [] [
⟨(some 6), .assign (.c (.bool false)), none⟩])
    (.ret)) (.skip)))
    (.seq (.seq (.region false [] [
⟨(some 14), .assign (.c (.int .i64 0)), none⟩])
    (.block 2 (.loop (.seq (.seq (.region false [] [
⟨(some 79), .move (.t 14), none⟩,
⟨(some 80), .move (.t 7), none⟩,
⟨(some 81), .len 6 (.t 80), none⟩,
⟨(some 82), .bin .lss 2 (.t 79) (.t 81), none⟩])
    (.cond (.t 82) (.skip) (.exit 2)))
    (.seq (.block 3 (.seq (.region true [] [
⟨(some 85), .move (.t 12), none⟩,
⟨(some 86), .move (.t 14), none⟩,
⟨(some 87), .iaddr 6 (.t 85) (.t 86), none⟩,
⟨(some 88), .load 2 (.t 87), none⟩,
⟨(some 89), .move (.t 7), none⟩,
⟨(some 90), .move (.t 14), none⟩,
⟨(some 91), .iaddr 6 (.t 89) (.t 90), none⟩,
⟨(some 92), .load 2 (.t 91), none⟩,
⟨(some 93), .bin .gtr 2 (.t 88) (.t 92), none⟩])
    (.cond (.t 93) (.seq (.region false [] [
⟨(some 6), .assign (.c (.bool false)), none⟩])
    (.ret)) (.skip))))
    (.region false [] [
⟨(some 83), .move (.t 14), none⟩,
⟨(some 84), .bin .add 2 (.t 83) (.c (.int .i64 1)), none⟩,
⟨(some 14), .assign (.t 84), none⟩]))))))
    (.seq (.region false [] [
⟨(some 6), .assign (.c (.bool true)), none⟩])
    (.ret)))))))))))))⟩

def f33 : DFn := ⟨164, [.tmp 10],
    .seq (.region false [] [
⟨(some 5), .box 0 (.t 0), none⟩,
⟨(some 10), .assign (.c (.bool false)), none⟩])
    (.seq (.seq (.region false [] [
⟨(some 18), .call 0 (.f 17) [], none⟩,
⟨(some 19), .un .not (.t 18), none⟩])
    (.cond (.t 19) (.seq (.region false [] [
⟨(some 10), .assign (.c (.bool false)), none⟩])
    (.ret)) (.skip)))
    (.seq (.seq (.region false [] [
⟨(some 20), .load 0 (.t 5), none⟩,
⟨(some 21), .call 0 (.f 2) [(.t 20)], none⟩,
⟨(some 22), .un .not (.t 21), none⟩,
⟨(some 23), .move (.t 22), none⟩,
⟨(some 24), .move (.t 1), (some (23, false))⟩,
⟨(some 25), .len 6 (.t 24), (some (23, false))⟩,
⟨(some 26), .bin .gtr 2 (.t 25) (.c (.int .i64 20)), (some (23, false))⟩,
⟨(some 27), .pick (.t 23) (.c (.bool true)) (.t 26), none⟩])
    (.cond (.t 27) (.seq (.region false [] [
⟨(some 10), .assign (.c (.bool true)), none⟩])
    (.ret)) (.skip)))
    (.seq (.region false [] [
⟨(some 29), .load 0 (.t 5), none⟩,
⟨(some 30), .move (.t 1), none⟩,
⟨(some 31), .call 0 (.f 22) [(.t 29), (.t 30)], none⟩,
⟨(some 28), .move (.t 31), none⟩,
⟨(some 32), .extract (.t 28) 0, none⟩,
⟨(some 33), .extract (.t 28) 1, none⟩,
⟨(some 11), .assign (.t 32), none⟩,
⟨(some 12), .assign (.t 33), none⟩])
    (.seq (.seq (.region false [] [
⟨(some 34), .move (.t 12), none⟩,
⟨(some 35), .bin .neq 3 (.t 34) (.c (.int .i64 0)), none⟩,
⟨(some 36), .move (.t 35), none⟩,
⟨(some 37), .faddr 0 (.t 5) 0, (some (36, false))⟩,
⟨(some 38), .load 10 (.t 37), (some (36, false))⟩,
⟨(some 39), .len 10 (.t 38), (some (36, false))⟩,
⟨(some 40), .bin .eql 2 (.t 39) (.c (.int .i64 0)), (some (36, false))⟩,
⟨(some 41), .pick (.t 36) (.c (.bool true)) (.t 40), none⟩,
⟨(some 42), .move (.t 41), none⟩,
⟨(some 43), .faddr 0 (.t 5) 1, (some (42, false))⟩,
⟨(some 44), .load 9 (.t 43), (some (42, false))⟩,
⟨(some 45), .len 9 (.t 44), (some (42, false))⟩,
⟨(some 46), .bin .eql 2 (.t 45) (.c (.int .i64 0)), (some (42, false))⟩,
⟨(some 47), .pick (.t 42) (.c (.bool true)) (.t 46), none⟩])
    (.cond (.t 47) (.seq (.region false [] [
⟨(some 10), .assign (.c (.bool true)), none⟩])
    (.ret)) (.skip)))
    (.seq (.region true [] [
⟨(some 48), .move (.t 2), none⟩,
⟨(some 49), .faddr 0 (.t 5) 1, none⟩,
⟨(some 50), .load 9 (.t 49), none⟩,
⟨(some 51), .len 9 (.t 50), none⟩,
⟨(some 52), .conv 2 12 (.t 51), none⟩,
⟨(some 53), .bin .rem 12 (.t 48) (.t 52), none⟩,
⟨(some 54), .conv 12 2 (.t 53), none⟩,
⟨(some 55), .move (.t 3), none⟩,
⟨(some 56), .faddr 0 (.t 5) 0, none⟩,
⟨(some 57), .load 10 (.t 56), none⟩,
⟨(some 58), .len 10 (.t 57), none⟩,
⟨(some 59), .conv 2 12 (.t 58), none⟩,
⟨(some 60), .bin .rem 12 (.t 55) (.t 59), none⟩,
⟨(some 61), .conv 12 2 (.t 60), none⟩,
⟨(some 13), .assign (.t 54), none⟩,
⟨(some 14), .assign (.t 61), none⟩])
    (.seq (.region false [] [
⟨(some 62), .load 0 (.t 5), none⟩,
⟨(some 15), .alloc 0, none⟩,
⟨none, .store 0 (.t 15) (.t 62), none⟩])
    (.seq (.region false [] [
⟨(some 63), .bslice false 9 0 [], none⟩,
⟨(some 64), .faddr 0 (.t 5) 1, none⟩,
⟨(some 65), .load 9 (.t 64), none⟩,
⟨(some 66), .append 1 9 9 (.t 63) (.t 65), none⟩,
⟨(some 67), .faddr 0 (.t 15) 1, none⟩,
⟨none, .store 9 (.t 67) (.t 66), none⟩])
    (.seq (.region true [] [
⟨(some 68), .faddr 0 (.t 15) 1, none⟩,
⟨(some 69), .load 9 (.t 68), none⟩,
⟨(some 70), .move (.t 13), none⟩,
⟨(some 71), .bslice false 6 0 [], none⟩,
⟨(some 72), .faddr 0 (.t 5) 1, none⟩,
⟨(some 73), .load 9 (.t 72), none⟩,
⟨(some 74), .move (.t 13), none⟩,
⟨(some 75), .iaddr 9 (.t 73) (.t 74), none⟩,
⟨(some 76), .load 6 (.t 75), none⟩,
⟨(some 77), .append 1 6 6 (.t 71) (.t 76), none⟩,
⟨(some 78), .iaddr 9 (.t 69) (.t 70), none⟩,
⟨none, .store 6 (.t 78) (.t 77), none⟩])
    (.seq (.region true [] [
⟨(some 79), .faddr 0 (.t 15) 1, none⟩,
⟨(some 80), .load 9 (.t 79), none⟩,
⟨(some 81), .move (.t 13), none⟩,
⟨(some 82), .iaddr 9 (.t 80) (.t 81), none⟩,
⟨(some 83), .load 6 (.t 82), none⟩,
⟨(some 84), .move (.t 14), none⟩,
⟨(some 85), .faddr 0 (.t 15) 1, none⟩,
⟨(some 86), .load 9 (.t 85), none⟩,
⟨(some 87), .move (.t 13), none⟩,
⟨(some 88), .iaddr 9 (.t 86) (.t 87), none⟩,
⟨(some 89), .load 6 (.t 88), none⟩,
⟨(some 90), .move (.t 14), none⟩,
⟨(some 91), .iaddr 6 (.t 89) (.t 90), none⟩,
⟨(some 92), .load 2 (.t 91), none⟩,
⟨(some 93), .move (.t 4), none⟩,
⟨(some 94), .conv 13 2 (.t 93), none⟩,
⟨(some 95), .bin .add 2 (.t 92) (.t 94), none⟩,
⟨(some 96), .mini [(.c (.int .i64 4096)), (.t 95)], none⟩,
⟨(some 97), .iaddr 6 (.t 83) (.t 84), none⟩,
⟨none, .store 2 (.t 97) (.t 96), none⟩])
    (.seq (.region false [] [
⟨(some 99), .load 0 (.t 15), none⟩,
⟨(some 100), .move (.t 1), none⟩,
⟨(some 101), .call 1 (.f 22) [(.t 99), (.t 100)], none⟩,
⟨(some 98), .move (.t 101), none⟩,
⟨(some 102), .extract (.t 98) 0, none⟩,
⟨(some 103), .extract (.t 98) 1, none⟩,
⟨(some 16), .assign (.t 102), none⟩,
⟨(some 17), .assign (.t 103), none⟩])
    (.seq (.region true [] [
⟨(some 104), .move (.t 17), none⟩,
⟨(some 105), .bin .eql 3 (.t 104) (.c (.int .i64 0)), none⟩,
⟨(some 106), .move (.t 105), none⟩,
⟨(some 107), .move (.t 11), (some (106, true))⟩,
⟨(some 108), .len 6 (.t 107), (some (106, true))⟩,
⟨(some 109), .bin .eql 2 (.t 108) (.c (.int .i64 4)), (some (106, true))⟩,
⟨(some 110), .pick (.t 106) (.t 109) (.c (.bool false)), none⟩,
⟨(some 111), .move (.t 110), none⟩,
⟨(some 112), .move (.t 16), (some (111, true))⟩,
⟨(some 113), .len 6 (.t 112), (some (111, true))⟩,
⟨(some 114), .bin .eql 2 (.t 113) (.c (.int .i64 4)), (some (111, true))⟩,
⟨(some 115), .pick (.t 111) (.t 114) (.c (.bool false)), none⟩,
⟨(some 116), .move (.t 115), none⟩,
⟨(some 117), .move (.t 16), (some (116, true))⟩,
⟨(some 118), .iaddr 6 (.t 117) (.c (.int .i64 0)), (some (116, true))⟩,
⟨(some 119), .load 2 (.t 118), (some (116, true))⟩,
⟨(some 120), .move (.t 11), (some (116, true))⟩,
⟨(some 121), .iaddr 6 (.t 120) (.c (.int .i64 0)), (some (116, true))⟩,
⟨(some 122), .load 2 (.t 121), (some (116, true))⟩,
⟨(some 123), .bin .leq 2 (.t 119) (.t 122), (some (116, true))⟩,
⟨(some 124), .pick (.t 116) (.t 123) (.c (.bool false)), none⟩,
⟨(some 125), .move (.t 124), none⟩,
⟨(some 126), .move (.t 11), (some (125, true))⟩,
⟨(some 127), .iaddr 6 (.t 126) (.c (.int .i64 0)), (some (125, true))⟩,
⟨(some 128), .load 2 (.t 127), (some (125, true))⟩,
⟨(some 129), .move (.t 16), (some (125, true))⟩,
⟨(some 130), .iaddr 6 (.t 129) (.c (.int .i64 0)), (some (125, true))⟩,
⟨(some 131), .load 2 (.t 130), (some (125, true))⟩,
⟨(some 132), .bin .sub 2 (.t 128) (.t 131), (some (125, true))⟩,
⟨(some 133), .move (.t 4), (some (125, true))⟩,
⟨(some 134), .conv 13 2 (.t 133), (some (125, true))⟩,
⟨(some 135), .bin .leq 2 (.t 132) (.t 134), (some (125, true))⟩,
⟨(some 136), .pick (.t 125) (.t 135) (.c (.bool false)), none⟩,
⟨(some 137), .move (.t 136), none⟩,
⟨(some 138), .move (.t 16), (some (137, true))⟩,
⟨(some 139), .iaddr 6 (.t 138) (.c (.int .i64 1)), (some (137, true))⟩,
⟨(some 140), .load 2 (.t 139), (some (137, true))⟩,
⟨(some 141), .move (.t 11), (some (137, true))⟩,
⟨(some 142), .iaddr 6 (.t 141) (.c (.int .i64 1)), (some (137, true))⟩,
⟨(some 143), .load 2 (.t 142), (some (137, true))⟩,
⟨(some 144), .bin .eql 2 (.t 140) (.t 143), (some (137, true))⟩,
⟨(some 145), .pick (.t 137) (.t 144) (.c (.bool false)), none⟩,
⟨(some 146), .move (.t 145), none⟩,
⟨(some 147), .move (.t 16), (some (146, true))⟩,
⟨(some 148), .iaddr 6 (.t 147) (.c (.int .i64 2)), (some (146, true))⟩,
⟨(some 149), .load 2 (.t 148), (some (146, true))⟩,
⟨(some 150), .move (.t 11), (some (146, true))⟩,
⟨(some 151), .iaddr 6 (.t 150) (.c (.int .i64 2)), (some (146, true))⟩,
⟨(some 152), .load 2 (.t 151), (some (146, true))⟩,
⟨(some 153), .bin .eql 2 (.t 149) (.t 152), (some (146, true))⟩,
⟨(some 154), .pick (.t 146) (.t 153) (.c (.bool false)), none⟩,
⟨(some 155), .move (.t 154), none⟩,
⟨(some 156), .move (.t 16), (some (155, true))⟩,
⟨(some 157), .iaddr 6 (.t 156) (.c (.int .i64 3)), (some (155, true))⟩,
⟨(some 158), .load 2 (.t 157), (some (155, true))⟩,
⟨(some 159), .move (.t 11), (some (155, true))⟩,
⟨(some 160), .iaddr 6 (.t 159) (.c (.int .i64 3)), (some (155, true))⟩,
⟨(some 161), .load 2 (.t 160), (some (155, true))⟩,
⟨(some 162), .bin .eql 2 (.t 158) (.t 161), (some (155, true))⟩,
⟨(some 163), .pick (.t 155) (.t 162) (.c (.bool false)), none⟩,
⟨(some 10), .assign (.t 163), none⟩])
    (.ret))))))))))))⟩

def f51 : DFn := ⟨128, [.tmp 6],
    .seq (.region false [] [
⟨(some 3), .box 0 (.t 0), none⟩,
⟨(some 6), .assign (.c (.bool false)), none⟩])
    (.seq (.seq (.region false [] [
⟨(some 18), .call 0 (.f 17) [], none⟩,
⟨(some 19), .un .not (.t 18), none⟩])
    (.cond (.t 19) (.seq (.region false [] [
⟨(some 6), .assign (.c (.bool false)), none⟩])
    (.ret)) (.skip)))
    (.seq (.seq (.region false [] [
⟨(some 20), .load 0 (.t 3), none⟩,
⟨(some 21), .call 0 (.f 2) [(.t 20)], none⟩,
⟨(some 22), .un .not (.t 21), none⟩,
⟨(some 23), .move (.t 22), none⟩,
⟨(some 24), .move (.t 1), (some (23, false))⟩,
⟨(some 25), .len 6 (.t 24), (some (23, false))⟩,
⟨(some 26), .bin .gtr 2 (.t 25) (.c (.int .i64 20)), (some (23, false))⟩,
⟨(some 27), .pick (.t 23) (.c (.bool true)) (.t 26), none⟩])
    (.cond (.t 27) (.seq (.region false [] [
⟨(some 6), .assign (.c (.bool true)), none⟩])
    (.ret)) (.skip)))
    (.seq (.region false [] [
⟨(some 29), .load 0 (.t 3), none⟩,
⟨(some 30), .move (.t 1), none⟩,
⟨(some 31), .call 0 (.f 22) [(.t 29), (.t 30)], none⟩,
⟨(some 28), .move (.t 31), none⟩,
⟨(some 32), .extract (.t 28) 0, none⟩,
⟨(some 33), .extract (.t 28) 1, none⟩,
⟨(some 7), .assign (.t 32), none⟩,
⟨(some 8), .assign (.t 33), none⟩])
    (.seq (.seq (.region false [] [
⟨(some 34), .move (.t 8), none⟩,
⟨(some 35), .bin .neq 3 (.t 34) (.c (.int .i64 0)), none⟩,
⟨(some 36), .move (.t 35), none⟩,
⟨(some 37), .faddr 0 (.t 3) 2, (some (36, false))⟩,
⟨(some 38), .load 14 (.t 37), (some (36, false))⟩,
⟨(some 39), .len 14 (.t 38), (some (36, false))⟩,
⟨(some 40), .bin .eql 2 (.t 39) (.c (.int .i64 0)), (some (36, false))⟩,
⟨(some 41), .pick (.t 36) (.c (.bool true)) (.t 40), none⟩])
    (.cond (.t 41) (.seq (.region false [] [
⟨(some 6), .assign (.c (.bool true)), none⟩])
    (.ret)) (.skip)))
    (.seq (.region false [] [
⟨(some 42), .move (.t 2), none⟩,
⟨(some 43), .faddr 0 (.t 3) 2, none⟩,
⟨(some 44), .load 14 (.t 43), none⟩,
⟨(some 45), .len 14 (.t 44), none⟩,
⟨(some 46), .conv 2 12 (.t 45), none⟩,
⟨(some 47), .bin .rem 12 (.t 42) (.t 46), none⟩,
⟨(some 48), .conv 12 2 (.t 47), none⟩,
⟨(some 9), .assign (.t 48), none⟩])
    (.seq (.region true [(1, 4)] [
⟨(some 49), .load 0 (.t 3), none⟩,
⟨(some 50), .load 0 (.t 3), none⟩,
⟨(some 10), .alloc 0, none⟩,
⟨(some 11), .alloc 0, none⟩,
⟨none, .store 0 (.t 10) (.t 49), none⟩,
⟨none, .store 0 (.t 11) (.t 50), none⟩])
    (.seq (.region true [] [
⟨(some 51), .bslice false 14 0 [], none⟩,
⟨(some 52), .faddr 0 (.t 3) 2, none⟩,
⟨(some 53), .load 14 (.t 52), none⟩,
⟨(some 54), .move (.t 9), none⟩,
⟨(some 55), .slice 14 (.t 53) (some (.t 54)) none none, none⟩,
⟨(some 56), .append 0 14 14 (.t 51) (.t 55), none⟩,
⟨(some 57), .faddr 0 (.t 3) 2, none⟩,
⟨(some 58), .load 14 (.t 57), none⟩,
⟨(some 59), .move (.t 9), none⟩,
⟨(some 60), .slice 14 (.t 58) none (some (.t 59)) none, none⟩,
⟨(some 61), .append 0 14 14 (.t 56) (.t 60), none⟩,
⟨(some 62), .faddr 0 (.t 10) 2, none⟩,
⟨none, .store 14 (.t 62) (.t 61), none⟩])
    (.seq (.region true [] [
⟨(some 63), .bslice false 14 0 [], none⟩,
⟨(some 64), .faddr 0 (.t 3) 2, none⟩,
⟨(some 65), .load 14 (.t 64), none⟩,
⟨(some 66), .move (.t 9), none⟩,
⟨(some 67), .slice 14 (.t 65) none (some (.t 66)) none, none⟩,
⟨(some 68), .append 0 14 14 (.t 63) (.t 67), none⟩,
⟨(some 69), .faddr 0 (.t 3) 2, none⟩,
⟨(some 70), .load 14 (.t 69), none⟩,
⟨(some 71), .move (.t 9), none⟩,
⟨(some 72), .bin .add 2 (.t 71) (.c (.int .i64 1)), none⟩,
⟨(some 73), .slice 14 (.t 70) (some (.t 72)) none none, none⟩,
⟨(some 74), .append 0 14 14 (.t 68) (.t 73), none⟩,
⟨(some 75), .faddr 0 (.t 11) 2, none⟩,
⟨none, .store 14 (.t 75) (.t 74), none⟩])
    (.seq (.region true [] [
⟨(some 77), .load 0 (.t 10), none⟩,
⟨(some 78), .bslice false 6 0 [], none⟩,
⟨(some 79), .move (.t 1), none⟩,
⟨(some 80), .move (.t 9), none⟩,
⟨(some 81), .slice 6 (.t 79) (some (.t 80)) none none, none⟩,
⟨(some 82), .append 0 6 6 (.t 78) (.t 81), none⟩,
⟨(some 83), .move (.t 1), none⟩,
⟨(some 84), .move (.t 9), none⟩,
⟨(some 85), .slice 6 (.t 83) none (some (.t 84)) none, none⟩,
⟨(some 86), .append 0 6 6 (.t 82) (.t 85), none⟩,
⟨(some 87), .call 0 (.f 22) [(.t 77), (.t 86)], none⟩,
⟨(some 76), .move (.t 87), none⟩,
⟨(some 88), .extract (.t 76) 0, none⟩,
⟨(some 89), .extract (.t 76) 1, none⟩,
⟨(some 12), .assign (.t 88), none⟩,
⟨(some 13), .assign (.t 89), none⟩])
    (.seq (.region true [] [
⟨(some 91), .load 0 (.t 11), none⟩,
⟨(some 92), .bslice false 6 0 [], none⟩,
⟨(some 93), .move (.t 1), none⟩,
⟨(some 94), .move (.t 9), none⟩,
⟨(some 95), .slice 6 (.t 93) none (some (.t 94)) none, none⟩,
⟨(some 96), .append 0 6 6 (.t 92) (.t 95), none⟩,
⟨(some 97), .move (.t 1), none⟩,
⟨(some 98), .move (.t 9), none⟩,
⟨(some 99), .bin .add 2 (.t 98) (.c (.int .i64 1)), none⟩,
⟨(some 100), .slice 6 (.t 97) (some (.t 99)) none none, none⟩,
⟨(some 101), .append 0 6 6 (.t 96) (.t 100), none⟩,
⟨(some 102), .call 0 (.f 22) [(.t 91), (.t 101)], none⟩,
⟨(some 90), .move (.t 102), none⟩,
⟨(some 103), .extract (.t 90) 0, none⟩,
⟨(some 104), .extract (.t 90) 1, none⟩,
⟨(some 14), .assign (.t 103), none⟩,
⟨(some 15), .assign (.t 104), none⟩])
    (.seq (.seq (.region false [] [
⟨(some 105), .move (.t 13), none⟩,
⟨(some 106), .bin .neq 3 (.t 105) (.c (.int .i64 0)), none⟩,
⟨(some 107), .move (.t 106), none⟩,
⟨(some 108), .move (.t 15), (some (107, false))⟩,
⟨(some 109), .bin .neq 3 (.t 108) (.c (.int .i64 0)), (some (107, false))⟩,
⟨(some 110), .pick (.t 107) (.c (.bool true)) (.t 109), none⟩,
⟨(some 111), .move (.t 110), none⟩,
⟨(some 112), .move (.t 7), (some (111, false))⟩,
⟨(some 113), .move (.t 12), (some (111, false))⟩,
⟨(some 114), .call 0 (.f 20) [(.t 112), (.t 113)], (some (111, false))⟩,
⟨(some 115), .un .not (.t 114), (some (111, false))⟩,
⟨(some 116), .pick (.t 111) (.c (.bool true)) (.t 115), none⟩])
    (.cond (.t 116) (.seq (.region false [] [
⟨(some 6), .assign (.c (.bool false)), none⟩])
    (.ret)) (.skip)))
    (.seq (.region false [] [
⟨(some 118), .move (.t 14), none⟩,
⟨(some 119), .move (.t 7), none⟩,
⟨(some 120), .call 0 (.f 52) [(.t 118), (.t 119)], none⟩,
⟨(some 117), .move (.t 120), none⟩,
⟨(some 121), .extract (.t 117) 0, none⟩,
⟨(some 122), .extract (.t 117) 1, none⟩,
⟨(some 16), .assign (.t 121), none⟩,
⟨(some 17), .assign (.t 122), none⟩])
    (.seq (.region false [] [
⟨(some 123), .move (.t 17), none⟩,
⟨(some 124), .bin .eql 3 (.t 123) (.c (.int .i64 0)), none⟩,
⟨(some 125), .move (.t 124), none⟩,
⟨(some 126), .move (.t 16), (some (125, true))⟩,
⟨(some 127), .pick (.t 125) (.t 126) (.c (.bool false)), none⟩,
⟨(some 6), .assign (.t 127), none⟩])
    (.ret))))))))))))))⟩

def f52 : DFn := ⟨14, [.tmp 4, .tmp 5],
    .seq (.region false [] [
⟨(some 4), .assign (.c (.bool false)), none⟩,
⟨(some 5), .assign (.c (.int .i64 0)), none⟩])
    (.seq (.seq (.region false [] [
⟨(some 6), .move (.t 0), none⟩,
⟨(some 7), .len 6 (.t 6), none⟩,
⟨(some 8), .move (.t 1), none⟩,
⟨(some 9), .len 6 (.t 8), none⟩,
⟨(some 10), .bin .neq 2 (.t 7) (.t 9), none⟩])
    (.cond (.t 10) (.seq (.region false [] [
⟨(some 4), .assign (.c (.bool false)), none⟩,
⟨(some 5), .assign (.c (.int .i64 60)), none⟩])
    (.ret)) (.skip)))
    (.seq (.region false [] [
⟨(some 11), .move (.t 0), none⟩,
⟨(some 12), .move (.t 1), none⟩,
⟨(some 13), .call 0 (.f 101) [(.t 11), (.t 12)], none⟩,
⟨(some 4), .assign (.t 13), none⟩,
⟨(some 5), .assign (.c (.int .i64 0)), none⟩])
    (.ret)))⟩

def f57 : DFn := ⟨26, [.tmp 4],
    .seq (.region false [] [
⟨(some 4), .assign (.c (.bool false)), none⟩])
    (.seq (.seq (.region false [] [
⟨(some 6), .move (.t 0), none⟩,
⟨(some 7), .len 6 (.t 6), none⟩,
⟨(some 8), .move (.t 1), none⟩,
⟨(some 9), .len 1 (.t 8), none⟩,
⟨(some 10), .bin .lss 2 (.t 7) (.t 9), none⟩])
    (.cond (.t 10) (.seq (.region false [] [
⟨(some 4), .assign (.c (.bool false)), none⟩])
    (.ret)) (.skip)))
    (.seq (.seq (.region false [] [
⟨(some 5), .assign (.c (.int .i64 0)), none⟩])
    (.block 0 (.loop (.seq (.seq (.region false [] [
⟨(some 11), .move (.t 5), none⟩,
⟨(some 12), .move (.t 1), none⟩,
⟨(some 13), .len 1 (.t 12), none⟩,
⟨(some 14), .bin .lss 2 (.t 11) (.t 13), none⟩])
    (.cond (.t 14) (.skip) (.exit 0)))
    (.seq (.block 1 (.seq (.region true [] [
⟨(some 17), .move (.t 0), none⟩,
⟨(some 18), .move (.t 5), none⟩,
⟨(some 19), .iaddr 6 (.t 17) (.t 18), none⟩,
⟨(some 20), .load 2 (.t 19), none⟩,
⟨(some 21), .move (.t 1), none⟩,
⟨(some 22), .move (.t 5), none⟩,
⟨(some 23), .iaddr 1 (.t 21) (.t 22), none⟩,
⟨(some 24), .load 2 (.t 23), none⟩,
⟨(some 25), .bin .neq 2 (.t 20) (.t 24), none⟩])
    (.cond (.t 25) (.seq (.region false [] [
⟨(some 4), .assign (.c (.bool false)), none⟩])
    (.ret)) (.skip))))
    (.region false [] [
⟨(some 15), .move (.t 5), none⟩,
⟨(some 16), .bin .add 2 (.t 15) (.c (.int .i64 1)), none⟩,
⟨(some 5), .assign (.t 16), none⟩]))))))
    (.seq (.region false [] [
⟨(some 4), .assign (.c (.bool true)), none⟩])
    (.ret))))⟩

def f60 : DFn := ⟨21, [.cell 0 0],
    .seq (.region false [] [
⟨(some 0), .alloc 0, none⟩])
    (.seq (.region false [] [
⟨(some 2), .build 20 [(2, (.c (.int .i64 60)))], none⟩,
⟨(some 1), .alloc 20, none⟩,
⟨none, .store 20 (.t 1) (.t 2), none⟩])
    (.seq (.region false [] [
⟨(some 3), .load 20 (.t 1), none⟩,
⟨(some 4), .bslice false 10 1 [(0, (.t 3))], none⟩,
⟨(some 5), .bslice false 6 1 [(0, (.c (.int .i64 1)))], none⟩,
⟨(some 6), .bslice false 9 1 [(0, (.t 5))], none⟩,
⟨(some 7), .bslice false 6 1 [(0, (.c (.int .i64 0)))], none⟩,
⟨(some 8), .load 20 (.t 1), none⟩,
⟨(some 9), .build 19 [(0, (.t 8)), (1, (.c (.int .i64 2)))], none⟩,
⟨(some 10), .bslice false 18 1 [(0, (.t 9))], none⟩,
⟨(some 11), .build 17 [(3, (.t 10))], none⟩,
⟨(some 12), .build 17 [(0, (.c (.int .i64 10))), (1, (.c (.int .i64 20))), (2, (.c (.int .i64 1)))], none⟩,
⟨(some 13), .bslice false 16 2 [(0, (.t 11)), (1, (.t 12))], none⟩,
⟨(some 14), .build 15 [(2, (.t 7)), (3, (.t 13))], none⟩,
⟨(some 15), .bslice false 6 1 [(0, (.c (.int .i64 0)))], none⟩,
⟨(some 16), .build 17 [(0, (.c (.int .i64 5))), (1, (.c (.int .i64 7)))], none⟩,
⟨(some 17), .bslice false 16 1 [(0, (.t 16))], none⟩,
⟨(some 18), .build 15 [(0, (.c (.int .i64 1))), (2, (.t 15)), (3, (.t 17))], none⟩,
⟨(some 19), .bslice false 14 2 [(0, (.t 14)), (1, (.t 18))], none⟩,
⟨(some 20), .build 0 [(0, (.t 4)), (1, (.t 6)), (2, (.t 19))], none⟩,
⟨none, .store 0 (.t 0) (.t 20), none⟩])
    (.ret)))⟩

def f61 : DFn := ⟨32, [.tmp 4],
    .seq (.region false [] [
⟨(some 2), .box 0 (.t 0), none⟩,
⟨(some 4), .assign (.c (.int .i64 0)), none⟩])
    (.seq (.region false [] [
⟨(some 5), .assign (.c (.int .i64 1)), none⟩])
    (.seq (.seq (.region false [] [
⟨(some 6), .assign (.c (.int .i64 0)), none⟩])
    (.block 0 (.loop (.seq (.seq (.region false [] [
⟨(some 7), .move (.t 6), none⟩,
⟨(some 8), .faddr 0 (.t 2) 2, none⟩,
⟨(some 9), .load 14 (.t 8), none⟩,
⟨(some 10), .len 14 (.t 9), none⟩,
⟨(some 11), .bin .lss 2 (.t 7) (.t 10), none⟩,
⟨(some 12), .move (.t 11), none⟩,
⟨(some 13), .move (.t 5), (some (12, true))⟩,
⟨(some 14), .move (.t 1), (some (12, true))⟩,
⟨(some 15), .bin .lss 2 (.t 13) (.t 14), (some (12, true))⟩,
⟨(some 16), .pick (.t 12) (.t 15) (.c (.bool false)), none⟩])
    (.cond (.t 16) (.skip) (.exit 0)))
    (.seq (.block 1 (.region false [] [
⟨(some 19), .move (.t 5), none⟩,
⟨(some 20), .faddr 0 (.t 2) 2, none⟩,
⟨(some 21), .load 14 (.t 20), none⟩,
⟨(some 22), .move (.t 6), none⟩,
⟨(some 23), .iaddr 14 (.t 21) (.t 22), none⟩,
⟨(some 24), .faddr 15 (.t 23) 3, none⟩,
⟨(some 25), .load 16 (.t 24), none⟩,
⟨(some 26), .len 16 (.t 25), none⟩,
⟨(some 27), .maxi [(.c (.int .i64 1)), (.t 26)], none⟩,
⟨(some 28), .bin .mul 2 (.t 19) (.t 27), none⟩,
⟨(some 5), .assign (.t 28), none⟩]))
    (.region false [] [
⟨(some 17), .move (.t 6), none⟩,
⟨(some 18), .bin .add 2 (.t 17) (.c (.int .i64 1)), none⟩,
⟨(some 6), .assign (.t 18), none⟩]))))))
    (.seq (.region false [] [
⟨(some 29), .move (.t 5), none⟩,
⟨(some 30), .move (.t 1), none⟩,
⟨(some 31), .mini [(.t 29), (.t 30)], none⟩,
⟨(some 4), .assign (.t 31), none⟩])
    (.ret))))⟩

def f62 : DFn := ⟨39, [.tmp 4],
    .seq (.region false [] [
⟨(some 2), .box 0 (.t 0), none⟩,
⟨(some 4), .assign (.c (.int .i64 0)), none⟩])
    (.seq (.seq (.region false [] [
⟨(some 7), .load 0 (.t 2), none⟩,
⟨(some 8), .call 0 (.f 15) [(.t 7)], none⟩,
⟨(some 4), .assign (.t 8), none⟩])
    (.seq (.region false [] [
⟨(some 9), .move (.t 4), none⟩,
⟨(some 10), .bin .neq 3 (.t 9) (.c (.int .i64 0)), none⟩])
    (.cond (.t 10) (.seq (.region false [] [
⟨(some 11), .move (.t 4), none⟩,
⟨(some 4), .assign (.t 11), none⟩])
    (.ret)) (.skip))))
    (.seq (.seq (.region false [] [
⟨(some 12), .move (.t 1), none⟩,
⟨(some 13), .len 1 (.t 12), none⟩,
⟨(some 14), .faddr 0 (.t 2) 2, none⟩,
⟨(some 15), .load 14 (.t 14), none⟩,
⟨(some 16), .len 14 (.t 15), none⟩,
⟨(some 17), .bin .gtr 2 (.t 13) (.t 16), none⟩])
    (.cond (.t 17) (.seq (.region false [] [
⟨(some 4), .assign (.c (.int .i64 280)), none⟩])
    (.ret)) (.skip)))
    (.seq (.seq (.region false [] [
⟨(some 18), .move (.t 1), none⟩,
⟨(some 19), .len 1 (.t 18), none⟩,
⟨(some 20), .move (.c (.int .i64 0)), none⟩])
    (.block 0 (.loop (.seq (.region false [] [
⟨(some 21), .bin .lss 2 (.t 20) (.t 19), none⟩])
    (.seq (.cond (.t 21) (.skip) (.exit 0))
    (.seq (.block 1 (.seq (.region false [] [
⟨(some 22), .move (.t 20), none⟩,
⟨(some 23), .iaddr 1 (.t 18) (.t 20), none⟩,
⟨(some 24), .load 2 (.t 23), none⟩,
⟨(some 5), .assign (.t 22), none⟩,
⟨(some 6), .assign (.t 24), none⟩])
    (.seq (.region false [] [
⟨(some 25), .move (.t 6), none⟩,
⟨(some 26), .bin .lss 2 (.t 25) (.c (.int .i64 0)), none⟩,
⟨(some 27), .move (.t 26), none⟩,
⟨(some 28), .move (.t 6), (some (27, false))⟩,
⟨(some 29), .faddr 0 (.t 2) 2, (some (27, false))⟩,
⟨(some 30), .load 14 (.t 29), (some (27, false))⟩,
⟨(some 31), .move (.t 5), (some (27, false))⟩,
⟨(some 32), .iaddr 14 (.t 30) (.t 31), (some (27, false))⟩,
⟨(some 33), .faddr 15 (.t 32) 3, (some (27, false))⟩,
⟨(some 34), .load 16 (.t 33), (some (27, false))⟩,
⟨(some 35), .len 16 (.t 34), (some (27, false))⟩,
⟨(some 36), .bin .geq 2 (.t 28) (.t 35), (some (27, false))⟩,
⟨(some 37), .pick (.t 27) (.c (.bool true)) (.t 36), none⟩])
    (.cond (.t 37) (.seq (.region false [] [
⟨(some 4), .assign (.c (.int .i64 280)), none⟩])
    (.ret)) (.skip)))))
    (.region false [] [
⟨(some 38), .bin .add 2 (.t 20) (.c (.int .i64 1)), none⟩,
⟨(some 20), .move (.t 38), none⟩])))))))
    (.seq (.region false [] [
⟨(some 4), .assign (.c (.int .i64 0)), none⟩])
    (.ret)))))⟩

def f63 : DFn := ⟨6, [.tmp 4],
    .seq (.region false [] [
⟨(some 2), .box 0 (.t 0), none⟩,
⟨(some 3), .box 1 (.t 1), none⟩,
⟨(some 4), .assign (.c .nilfn), none⟩])
    (.seq (.region false [] [
⟨(some 5), .mkfn 102 [(.t 2), (.t 3)], none⟩,
⟨(some 4), .assign (.t 5), none⟩])
    (.ret))⟩

def f64 : DFn := ⟨15, [.tmp 4],
    .seq (.region false [] [
⟨(some 2), .box 0 (.t 0), none⟩,
⟨(some 4), .assign (.c (.int .i64 0)), none⟩])
    (.seq (.region false [] [
⟨(some 6), .load 0 (.t 2), none⟩,
⟨(some 7), .call 0 (.f 19) [(.t 6)], none⟩,
⟨(some 5), .assign (.t 7), none⟩])
    (.seq (.seq (.region false [] [
⟨(some 8), .move (.t 5), none⟩,
⟨(some 9), .bin .neq 3 (.t 8) (.c (.int .i64 0)), none⟩])
    (.cond (.t 9) (.seq (.region false [] [
⟨(some 10), .move (.t 5), none⟩,
⟨(some 4), .assign (.t 10), none⟩])
    (.ret)) (.skip)))
    (.seq (.seq (.region false [] [
⟨(some 11), .load 0 (.t 2), none⟩,
⟨(some 12), .move (.t 1), none⟩,
⟨(some 13), .call 0 (.f 103) [(.t 11), (.t 12)], none⟩,
⟨(some 14), .un .not (.t 13), none⟩])
    (.cond (.t 14) (.seq (.region false [] [
⟨(some 4), .assign (.c (.int .i64 280)), none⟩])
    (.ret)) (.skip)))
    (.seq (.region false [] [
⟨(some 4), .assign (.c (.int .i64 0)), none⟩])
    (.ret)))))⟩

def f65 : DFn := ⟨67, [.cell 2 17],
    .seq (.region false [] [
⟨(some 2), .alloc 17, none⟩])
    (.seq (.region true [] [
⟨(some 5), .move (.t 0), none⟩,
⟨(some 6), .iaddr 16 (.t 5) (.c (.int .i64 0)), none⟩,
⟨(some 7), .faddr 17 (.t 6) 0, none⟩,
⟨(some 8), .load 2 (.t 7), none⟩,
⟨(some 9), .move (.t 0), none⟩,
⟨(some 10), .iaddr 16 (.t 9) (.c (.int .i64 0)), none⟩,
⟨(some 11), .faddr 17 (.t 10) 1, none⟩,
⟨(some 12), .load 2 (.t 11), none⟩,
⟨(some 13), .move (.t 0), none⟩,
⟨(some 14), .iaddr 16 (.t 13) (.c (.int .i64 0)), none⟩,
⟨(some 15), .faddr 17 (.t 14) 2, none⟩,
⟨(some 16), .load 2 (.t 15), none⟩,
⟨(some 17), .build 17 [(0, (.t 8)), (1, (.t 12)), (2, (.t 16))], none⟩,
⟨(some 3), .alloc 17, none⟩,
⟨none, .store 17 (.t 3) (.t 17), none⟩])
    (.seq (.seq (.region false [] [
⟨(some 4), .assign (.c (.int .i64 1)), none⟩])
    (.block 0 (.loop (.seq (.seq (.region false [] [
⟨(some 18), .move (.t 4), none⟩,
⟨(some 19), .move (.t 0), none⟩,
⟨(some 20), .len 16 (.t 19), none⟩,
⟨(some 21), .bin .lss 2 (.t 18) (.t 20), none⟩])
    (.cond (.t 21) (.skip) (.exit 0)))
    (.seq (.block 1 (.seq (.seq (.region true [] [
⟨(some 24), .move (.t 0), none⟩,
⟨(some 25), .move (.t 4), none⟩,
⟨(some 26), .iaddr 16 (.t 24) (.t 25), none⟩,
⟨(some 27), .faddr 17 (.t 26) 0, none⟩,
⟨(some 28), .load 2 (.t 27), none⟩,
⟨(some 29), .faddr 17 (.t 3) 0, none⟩,
⟨(some 30), .load 2 (.t 29), none⟩,
⟨(some 31), .bin .lss 2 (.t 28) (.t 30), none⟩])
    (.cond (.t 31) (.region false [] [
⟨(some 32), .move (.t 0), none⟩,
⟨(some 33), .move (.t 4), none⟩,
⟨(some 34), .iaddr 16 (.t 32) (.t 33), none⟩,
⟨(some 35), .faddr 17 (.t 34) 0, none⟩,
⟨(some 36), .load 2 (.t 35), none⟩,
⟨(some 37), .faddr 17 (.t 3) 0, none⟩,
⟨none, .store 2 (.t 37) (.t 36), none⟩]) (.skip)))
    (.seq (.seq (.region true [] [
⟨(some 38), .move (.t 0), none⟩,
⟨(some 39), .move (.t 4), none⟩,
⟨(some 40), .iaddr 16 (.t 38) (.t 39), none⟩,
⟨(some 41), .faddr 17 (.t 40) 1, none⟩,
⟨(some 42), .load 2 (.t 41), none⟩,
⟨(some 43), .faddr 17 (.t 3) 1, none⟩,
⟨(some 44), .load 2 (.t 43), none⟩,
⟨(some 45), .bin .lss 2 (.t 42) (.t 44), none⟩])
    (.cond (.t 45) (.region false [] [
⟨(some 46), .move (.t 0), none⟩,
⟨(some 47), .move (.t 4), none⟩,
⟨(some 48), .iaddr 16 (.t 46) (.t 47), none⟩,
⟨(some 49), .faddr 17 (.t 48) 1, none⟩,
⟨(some 50), .load 2 (.t 49), none⟩,
⟨(some 51), .faddr 17 (.t 3) 1, none⟩,
⟨none, .store 2 (.t 51) (.t 50), none⟩]) (.skip)))
    (.seq (.region true [] [
⟨(some 52), .move (.t 0), none⟩,
⟨(some 53), .move (.t 4), none⟩,
⟨(some 54), .iaddr 16 (.t 52) (.t 53), none⟩,
⟨(some 55), .faddr 17 (.t 54) 2, none⟩,
⟨(some 56), .load 2 (.t 55), none⟩,
⟨(some 57), .faddr 17 (.t 3) 2, none⟩,
⟨(some 58), .load 2 (.t 57), none⟩,
⟨(some 59), .bin .lss 2 (.t 56) (.t 58), none⟩])
    (.cond (.t 59) (.region false [] [
⟨(some 60), .move (.t 0), none⟩,
⟨(some 61), .move (.t 4), none⟩,
⟨(some 62), .iaddr 16 (.t 60) (.t 61), none⟩,
⟨(some 63), .faddr 17 (.t 62) 2, none⟩,
⟨(some 64), .load 2 (.t 63), none⟩,
⟨(some 65), .faddr 17 (.t 3) 2, none⟩,
⟨none, .store 2 (.t 65) (.t 64), none⟩]) (.skip))))))
    (.region false [] [
⟨(some 22), .move (.t 4), none⟩,
⟨(some 23), .bin .add 2 (.t 22) (.c (.int .i64 1)), none⟩,
⟨(some 4), .assign (.t 23), none⟩]))))))
    (.seq (.region false [] [
⟨(some 66), .load 17 (.t 3), none⟩,
⟨none, .store 17 (.t 2) (.t 66), none⟩])
    (.ret))))⟩

def f66 : DFn := ⟨38, [.tmp 4],
    .seq (.region false [] [
⟨(some 2), .box 0 (.t 0), none⟩,
⟨(some 4), .assign (.c (.int .i64 0)), none⟩])
    (.seq (.seq (.region false [] [
⟨(some 8), .load 0 (.t 2), none⟩,
⟨(some 9), .call 0 (.f 15) [(.t 8)], none⟩,
⟨(some 5), .assign (.t 9), none⟩])
    (.seq (.region false [] [
⟨(some 10), .move (.t 5), none⟩,
⟨(some 11), .bin .neq 3 (.t 10) (.c (.int .i64 0)), none⟩])
    (.cond (.t 11) (.seq (.region false [] [
⟨(some 12), .move (.t 5), none⟩,
⟨(some 4), .assign (.t 12), none⟩])
    (.ret)) (.skip))))
    (.seq (.seq (.region false [] [
⟨(some 13), .move (.t 1), none⟩,
⟨(some 14), .len 6 (.t 13), none⟩,
⟨(some 15), .faddr 0 (.t 2) 2, none⟩,
⟨(some 16), .load 14 (.t 15), none⟩,
⟨(some 17), .len 14 (.t 16), none⟩,
⟨(some 18), .bin .gtr 2 (.t 14) (.t 17), none⟩])
    (.cond (.t 18) (.seq (.region false [] [
⟨(some 4), .assign (.c (.int .i64 270)), none⟩])
    (.ret)) (.skip)))
    (.seq (.seq (.region false [] [
⟨(some 19), .move (.t 1), none⟩,
⟨(some 20), .len 6 (.t 19), none⟩,
⟨(some 21), .move (.c (.int .i64 0)), none⟩])
    (.block 0 (.loop (.seq (.region false [] [
⟨(some 22), .bin .lss 2 (.t 21) (.t 20), none⟩])
    (.seq (.cond (.t 22) (.skip) (.exit 0))
    (.seq (.block 1 (.seq (.region false [] [
⟨(some 23), .move (.t 21), none⟩,
⟨(some 24), .iaddr 6 (.t 19) (.t 21), none⟩,
⟨(some 25), .load 2 (.t 24), none⟩,
⟨(some 6), .assign (.t 23), none⟩,
⟨(some 7), .assign (.t 25), none⟩])
    (.seq (.region false [] [
⟨(some 26), .move (.t 7), none⟩,
⟨(some 27), .faddr 0 (.t 2) 2, none⟩,
⟨(some 28), .load 14 (.t 27), none⟩,
⟨(some 29), .move (.t 6), none⟩,
⟨(some 30), .iaddr 14 (.t 28) (.t 29), none⟩,
⟨(some 31), .faddr 15 (.t 30) 3, none⟩,
⟨(some 32), .load 16 (.t 31), none⟩,
⟨(some 33), .len 16 (.t 32), none⟩,
⟨(some 34), .bin .sub 2 (.t 33) (.c (.int .i64 1)), none⟩,
⟨(some 35), .call 0 (.f 67) [(.t 26), (.c (.int .i64 0)), (.t 34)], none⟩,
⟨(some 36), .un .not (.t 35), none⟩])
    (.cond (.t 36) (.seq (.region false [] [
⟨(some 4), .assign (.c (.int .i64 270)), none⟩])
    (.ret)) (.skip)))))
    (.region false [] [
⟨(some 37), .bin .add 2 (.t 21) (.c (.int .i64 1)), none⟩,
⟨(some 21), .move (.t 37), none⟩])))))))
    (.seq (.region false [] [
⟨(some 4), .assign (.c (.int .i64 0)), none⟩])
    (.ret)))))⟩

def f67 : DFn := ⟨15, [.tmp 6],
    .seq (.region false [] [
⟨(some 6), .assign (.c (.bool false)), none⟩])
    (.seq (.region false [] [
⟨(some 7), .move (.t 1), none⟩,
⟨(some 8), .move (.t 0), none⟩,
⟨(some 9), .bin .leq 2 (.t 7) (.t 8), none⟩,
⟨(some 10), .move (.t 9), none⟩,
⟨(some 11), .move (.t 0), (some (10, true))⟩,
⟨(some 12), .move (.t 2), (some (10, true))⟩,
⟨(some 13), .bin .leq 2 (.t 11) (.t 12), (some (10, true))⟩,
⟨(some 14), .pick (.t 10) (.t 13) (.c (.bool false)), none⟩,
⟨(some 6), .assign (.t 14), none⟩])
    (.ret))⟩

def f68 : DFn := ⟨62, [.tmp 4],
    .seq (.region false [] [
⟨(some 2), .box 0 (.t 0), none⟩,
⟨(some 4), .assign (.c (.imm .exact [])), none⟩])
    (.seq (.region false [] [
⟨(some 12), .mkmap 26, none⟩,
⟨(some 5), .alloc 26, none⟩,
⟨none, .store 26 (.t 5) (.t 12), none⟩])
    (.seq (.seq (.region false [] [
⟨(some 13), .faddr 0 (.t 2) 0, none⟩,
⟨(some 14), .load 10 (.t 13), none⟩,
⟨(some 15), .len 10 (.t 14), none⟩,
⟨(some 16), .move (.c (.int .i64 0)), none⟩])
    (.block 0 (.loop (.seq (.region false [] [
⟨(some 17), .bin .lss 2 (.t 16) (.t 15), none⟩])
    (.seq (.cond (.t 17) (.skip) (.exit 0))
    (.seq (.block 1 (.seq (.region false [] [
⟨(some 18), .move (.t 16), none⟩,
⟨(some 19), .iaddr 10 (.t 14) (.t 16), none⟩,
⟨(some 20), .load 20 (.t 19), none⟩,
⟨(some 7), .alloc 20, none⟩,
⟨(some 6), .assign (.t 18), none⟩,
⟨none, .store 20 (.t 7) (.t 20), none⟩])
    (.region false [] [
⟨(some 21), .load 26 (.t 5), none⟩,
⟨(some 22), .load 20 (.t 7), none⟩,
⟨(some 23), .move (.t 6), none⟩,
⟨none, .mapset 26 (.t 21) (.t 22) (.t 23), none⟩])))
    (.region false [] [
⟨(some 24), .bin .add 2 (.t 16) (.c (.int .i64 1)), none⟩,
⟨(some 16), .move (.t 24), none⟩])))))))
    (.seq (.region false [] [
⟨(some 25), .faddr 0 (.t 2) 1, none⟩,
⟨(some 26), .load 9 (.t 25), none⟩,
⟨(some 27), .len 9 (.t 26), none⟩,
⟨(some 28), .mkslice true 9 (.t 27) (.t 27), none⟩,
⟨(some 8), .alloc 9, none⟩,
⟨none, .store 9 (.t 8) (.t 28), none⟩])
    (.seq (.seq (.region false [] [
⟨(some 29), .load 9 (.t 8), none⟩,
⟨(some 30), .len 9 (.t 29), none⟩,
⟨(some 31), .move (.c (.int .i64 0)), none⟩])
    (.block 2 (.loop (.seq (.region false [] [
⟨(some 32), .bin .lss 2 (.t 31) (.t 30), none⟩])
    (.seq (.cond (.t 32) (.skip) (.exit 2))
    (.seq (.block 3 (.seq (.region false [] [
⟨(some 33), .move (.t 31), none⟩,
⟨(some 9), .assign (.t 33), none⟩])
    (.region true [] [
⟨(some 34), .load 9 (.t 8), none⟩,
⟨(some 35), .move (.t 9), none⟩,
⟨(some 36), .faddr 0 (.t 2) 0, none⟩,
⟨(some 37), .load 10 (.t 36), none⟩,
⟨(some 38), .len 10 (.t 37), none⟩,
⟨(some 39), .mkslice true 6 (.t 38) (.t 38), none⟩,
⟨(some 40), .iaddr 9 (.t 34) (.t 35), none⟩,
⟨none, .store 6 (.t 40) (.t 39), none⟩])))
    (.region false [] [
⟨(some 41), .bin .add 2 (.t 31) (.c (.int .i64 1)), none⟩,
⟨(some 31), .move (.t 41), none⟩])))))))
    (.seq (.seq (.region false [] [
⟨(some 42), .load 0 (.t 2), none⟩,
⟨(some 43), .move (.t 1), none⟩,
⟨(some 44), .call 0 (.f 104) [(.t 42), (.t 43)], none⟩])
    (.block 4 (.rfunc (.t 44) [45, 46] (.seq (.region false [] [
⟨(some 10), .assign (.t 45), none⟩])
    (.region false [] [
⟨(some 11), .alloc 19, none⟩,
⟨none, .store 19 (.t 11) (.t 46), none⟩])) (.block 5 (.region true [] [
⟨(some 47), .load 9 (.t 8), none⟩,
⟨(some 48), .move (.t 10), none⟩,
⟨(some 49), .iaddr 9 (.t 47) (.t 48), none⟩,
⟨(some 50), .load 6 (.t 49), none⟩,
⟨(some 51), .load 26 (.t 5), none⟩,
⟨(some 52), .faddr 19 (.t 11) 0, none⟩,
⟨(some 53), .load 20 (.t 52), none⟩,
⟨(some 54), .lookup 26 (.t 51) (.t 53) false, none⟩,
⟨(some 55), .iaddr 6 (.t 50) (.t 54), none⟩,
⟨(some 56), .load 2 (.t 55), none⟩,
⟨(some 57), .faddr 19 (.t 11) 1, none⟩,
⟨(some 58), .load 2 (.t 57), none⟩,
⟨(some 59), .bin .add 2 (.t 56) (.t 58), none⟩,
⟨(some 60), .iaddr 6 (.t 50) (.t 54), none⟩,
⟨none, .store 2 (.t 60) (.t 59), none⟩])))))
    (.seq (.region false [] [
⟨(some 61), .load 9 (.t 8), none⟩,
⟨(some 4), .assign (.t 61), none⟩])
    (.ret)))))))⟩

def f69 : DFn := ⟨24, [.tmp 4],
    .seq (.region false [] [
⟨(some 4), .assign (.c (.bool false)), none⟩])
    (.seq (.seq (.region false [] [
⟨(some 5), .assign (.c (.int .i64 1)), none⟩])
    (.block 0 (.loop (.seq (.seq (.region false [] [
⟨(some 6), .move (.t 5), none⟩,
⟨(some 7), .move (.t 0), none⟩,
⟨(some 8), .len 10 (.t 7), none⟩,
⟨(some 9), .bin .lss 2 (.t 6) (.t 8), none⟩])
    (.cond (.t 9) (.skip) (.exit 0)))
    (.seq (.block 1 (.seq (.region true [] [
⟨(some 12), .move (.t 1), none⟩,
⟨(some 13), .move (.t 0), none⟩,
⟨(some 14), .move (.t 5), none⟩,
⟨(some 15), .bin .sub 2 (.t 14) (.c (.int .i64 1)), none⟩,
⟨(some 16), .iaddr 10 (.t 13) (.t 15), none⟩,
⟨(some 17), .load 20 (.t 16), none⟩,
⟨(some 18), .move (.t 0), none⟩,
⟨(some 19), .move (.t 5), none⟩,
⟨(some 20), .iaddr 10 (.t 18) (.t 19), none⟩,
⟨(some 21), .load 20 (.t 20), none⟩,
⟨(some 22), .call 0 (.t 12) [(.t 17), (.t 21)], none⟩,
⟨(some 23), .bin .geq 2 (.t 22) (.c (.int .i64 0)), none⟩])
    (.cond (.t 23) (.seq (.region false [] [
⟨(some 4), .assign (.c (.bool false)), none⟩])
    (.ret)) (.skip))))
    (.region false [] [
⟨(some 10), .move (.t 5), none⟩,
⟨(some 11), .bin .add 2 (.t 10) (.c (.int .i64 1)), none⟩,
⟨(some 5), .assign (.t 11), none⟩]))))))
    (.seq (.region false [] [
⟨(some 4), .assign (.c (.bool true)), none⟩])
    (.ret)))⟩

def f70 : DFn := ⟨24, [.tmp 4],
    .seq (.region false [] [
⟨(some 2), .box 20 (.t 0), none⟩,
⟨(some 3), .box 20 (.t 1), none⟩,
⟨(some 4), .assign (.c (.int .i64 0)), none⟩])
    (.seq (.seq (.region false [] [
⟨(some 5), .faddr 20 (.t 2) 0, none⟩,
⟨(some 6), .load 7 (.t 5), none⟩,
⟨(some 7), .faddr 20 (.t 3) 0, none⟩,
⟨(some 8), .load 7 (.t 7), none⟩,
⟨(some 9), .bin .neq 7 (.t 6) (.t 8), none⟩])
    (.cond (.t 9) (.seq (.seq (.region false [] [
⟨(some 10), .faddr 20 (.t 3) 0, none⟩,
⟨(some 11), .load 7 (.t 10), none⟩])
    (.cond (.t 11) (.seq (.region false [] [
⟨(some 4), .assign (.c (.int .i64 (-1))), none⟩])
    (.ret)) (.skip)))
    (.seq (.region false [] [
⟨(some 4), .assign (.c (.int .i64 1)), none⟩])
    (.ret))) (.skip)))
    (.seq (.region true [] [
⟨(some 12), .faddr 20 (.t 2) 1, none⟩,
⟨(some 13), .load 2 (.t 12), none⟩,
⟨(some 14), .faddr 20 (.t 3) 1, none⟩,
⟨(some 15), .load 2 (.t 14), none⟩,
⟨(some 16), .call 0 (.f 74) [(.t 13), (.t 15)], none⟩,
⟨(some 17), .faddr 20 (.t 2) 2, none⟩,
⟨(some 18), .load 2 (.t 17), none⟩,
⟨(some 19), .faddr 20 (.t 3) 2, none⟩,
⟨(some 20), .load 2 (.t 19), none⟩,
⟨(some 21), .call 0 (.f 74) [(.t 18), (.t 20)], none⟩,
⟨(some 22), .bslice false 6 2 [(0, (.t 16)), (1, (.t 21))], none⟩,
⟨(some 23), .call 0 (.f 105) [(.t 22)], none⟩,
⟨(some 4), .assign (.t 23), none⟩])
    (.ret)))⟩

def f71 : DFn := ⟨9, [.tmp 4],
    .seq (.region false [] [
⟨(some 4), .assign (.c (.bool false)), none⟩])
    (.seq (.region false [] [
⟨(some 5), .move (.t 0), none⟩,
⟨(some 6), .move (.t 1), none⟩,
⟨(some 7), .call 0 (.f 106) [(.t 5), (.t 6)], none⟩,
⟨(some 8), .bin .geq 2 (.t 7) (.c (.int .i64 0)), none⟩,
⟨(some 4), .assign (.t 8), none⟩])
    (.ret))⟩

def f72 : DFn := ⟨6, [.tmp 2],
    .seq (.region false [] [
⟨(some 2), .assign (.c (.bool false)), none⟩])
    (.seq (.region false [] [
⟨(some 3), .move (.t 0), none⟩,
⟨(some 4), .call 0 (.f 67) [(.t 3), (.c (.int .i64 0)), (.c (.int .i64 4096))], none⟩,
⟨(some 5), .un .not (.t 4), none⟩,
⟨(some 2), .assign (.t 5), none⟩])
    (.ret))⟩

def f73 : DFn := ⟨24, [.tmp 4],
    .seq (.region false [] [
⟨(some 4), .assign (.c (.bool false)), none⟩])
    (.seq (.seq (.region false [] [
⟨(some 5), .assign (.c (.int .i64 1)), none⟩])
    (.block 0 (.loop (.seq (.seq (.region false [] [
⟨(some 6), .move (.t 5), none⟩,
⟨(some 7), .move (.t 0), none⟩,
⟨(some 8), .len 6 (.t 7), none⟩,
⟨(some 9), .bin .lss 2 (.t 6) (.t 8), none⟩])
    (.cond (.t 9) (.skip) (.exit 0)))
    (.seq (.block 1 (.seq (.region true [] [
⟨(some 12), .move (.t 1), none⟩,
⟨(some 13), .move (.t 0), none⟩,
⟨(some 14), .move (.t 5), none⟩,
⟨(some 15), .bin .sub 2 (.t 14) (.c (.int .i64 1)), none⟩,
⟨(some 16), .iaddr 6 (.t 13) (.t 15), none⟩,
⟨(some 17), .load 2 (.t 16), none⟩,
⟨(some 18), .move (.t 0), none⟩,
⟨(some 19), .move (.t 5), none⟩,
⟨(some 20), .iaddr 6 (.t 18) (.t 19), none⟩,
⟨(some 21), .load 2 (.t 20), none⟩,
⟨(some 22), .call 0 (.t 12) [(.t 17), (.t 21)], none⟩,
⟨(some 23), .bin .geq 2 (.t 22) (.c (.int .i64 0)), none⟩])
    (.cond (.t 23) (.seq (.region false [] [
⟨(some 4), .assign (.c (.bool false)), none⟩])
    (.ret)) (.skip))))
    (.region false [] [
⟨(some 10), .move (.t 5), none⟩,
⟨(some 11), .bin .add 2 (.t 10) (.c (.int .i64 1)), none⟩,
⟨(some 5), .assign (.t 11), none⟩]))))))
    (.seq (.region false [] [
⟨(some 4), .assign (.c (.bool true)), none⟩])
    (.ret)))⟩

def f74 : DFn := ⟨20, [.tmp 4],
    .seq (.region false [] [
⟨(some 4), .assign (.c (.int .i64 0)), none⟩])
    (.seq (.region false [] [
⟨(some 7), .move (.t 0), none⟩,
⟨(some 8), .call 0 (.f 107) [(.t 7)], none⟩,
⟨(some 5), .assign (.t 8), none⟩])
    (.seq (.region false [] [
⟨(some 9), .move (.t 1), none⟩,
⟨(some 10), .call 0 (.f 107) [(.t 9)], none⟩,
⟨(some 6), .assign (.t 10), none⟩])
    (.seq (.seq (.region false [] [
⟨(some 11), .move (.t 5), none⟩])
    (.cond (.t 11) (.seq (.seq (.region false [] [
⟨(some 12), .move (.t 6), none⟩])
    (.cond (.t 12) (.seq (.region false [] [
⟨(some 4), .assign (.c (.int .i64 0)), none⟩])
    (.ret)) (.skip)))
    (.seq (.region false [] [
⟨(some 4), .assign (.c (.int .i64 (-1))), none⟩])
    (.ret))) (.skip)))
    (.seq (.seq (.region false [] [
⟨(some 13), .move (.t 6), none⟩])
    (.cond (.t 13) (.seq (.region false [] [
⟨(some 4), .assign (.c (.int .i64 1)), none⟩])
    (.ret)) (.skip)))
    (.seq (.seq (.region false [] [
⟨(some 14), .move (.t 0), none⟩,
⟨(some 15), .move (.t 1), none⟩,
⟨(some 16), .bin .lss 2 (.t 14) (.t 15), none⟩])
    (.cond (.t 16) (.seq (.region false [] [
⟨(some 4), .assign (.c (.int .i64 (-1))), none⟩])
    (.ret)) (.skip)))
    (.seq (.seq (.region false [] [
⟨(some 17), .move (.t 0), none⟩,
⟨(some 18), .move (.t 1), none⟩,
⟨(some 19), .bin .gtr 2 (.t 17) (.t 18), none⟩])
    (.cond (.t 19) (.seq (.region false [] [
⟨(some 4), .assign (.c (.int .i64 1)), none⟩])
    (.ret)) (.skip)))
    (.seq (.region false [] [
⟨(some 4), .assign (.c (.int .i64 0)), none⟩])
    (.ret))))))))⟩

def f75 : DFn := ⟨24, [.tmp 4],
    .seq (.region false [] [
⟨(some 4), .assign (.c (.bool false)), none⟩])
    (.seq (.seq (.region false [] [
⟨(some 5), .assign (.c (.int .i64 1)), none⟩])
    (.block 0 (.loop (.seq (.seq (.region false [] [
⟨(some 6), .move (.t 5), none⟩,
⟨(some 7), .move (.t 0), none⟩,
⟨(some 8), .len 18 (.t 7), none⟩,
⟨(some 9), .bin .lss 2 (.t 6) (.t 8), none⟩])
    (.cond (.t 9) (.skip) (.exit 0)))
    (.seq (.block 1 (.seq (.region true [] [
⟨(some 12), .move (.t 1), none⟩,
⟨(some 13), .move (.t 0), none⟩,
⟨(some 14), .move (.t 5), none⟩,
⟨(some 15), .bin .sub 2 (.t 14) (.c (.int .i64 1)), none⟩,
⟨(some 16), .iaddr 18 (.t 13) (.t 15), none⟩,
⟨(some 17), .load 19 (.t 16), none⟩,
⟨(some 18), .move (.t 0), none⟩,
⟨(some 19), .move (.t 5), none⟩,
⟨(some 20), .iaddr 18 (.t 18) (.t 19), none⟩,
⟨(some 21), .load 19 (.t 20), none⟩,
⟨(some 22), .call 0 (.t 12) [(.t 17), (.t 21)], none⟩,
⟨(some 23), .bin .geq 2 (.t 22) (.c (.int .i64 0)), none⟩])
    (.cond (.t 23) (.seq (.region false [] [
⟨(some 4), .assign (.c (.bool false)), none⟩])
    (.ret)) (.skip))))
    (.region false [] [
⟨(some 10), .move (.t 5), none⟩,
⟨(some 11), .bin .add 2 (.t 10) (.c (.int .i64 1)), none⟩,
⟨(some 5), .assign (.t 11), none⟩]))))))
    (.seq (.region false [] [
⟨(some 4), .assign (.c (.bool true)), none⟩])
    (.ret)))⟩

def f76 : DFn := ⟨10, [.tmp 4],
    .seq (.region false [] [
⟨(some 2), .box 19 (.t 0), none⟩,
⟨(some 3), .box 19 (.t 1), none⟩,
⟨(some 4), .assign (.c (.int .i64 0)), none⟩])
    (.seq (.region false [] [
⟨(some 5), .faddr 19 (.t 2) 0, none⟩,
⟨(some 6), .load 20 (.t 5), none⟩,
⟨(some 7), .faddr 19 (.t 3) 0, none⟩,
⟨(some 8), .load 20 (.t 7), none⟩,
⟨(some 9), .call 0 (.f 70) [(.t 6), (.t 8)], none⟩,
⟨(some 4), .assign (.t 9), none⟩])
    (.ret))⟩

def f77 : DFn := ⟨25, [.cell 0 0],
    .seq (.region false [] [
⟨(some 0), .alloc 0, none⟩])
    (.seq (.region false [] [
⟨(some 4), .build 20 [(1, (.c (.int .i64 2))), (2, (.c (.int .i64 100)))], none⟩,
⟨(some 1), .alloc 20, none⟩,
⟨none, .store 20 (.t 1) (.t 4), none⟩])
    (.seq (.region false [] [
⟨(some 5), .load 20 (.t 1), none⟩,
⟨(some 6), .build 19 [(0, (.t 5)), (1, (.c (.int .i64 2)))], none⟩,
⟨(some 7), .bslice false 18 1 [(0, (.t 6))], none⟩,
⟨(some 2), .assign (.t 7), none⟩])
    (.seq (.region false [] [
⟨(some 8), .move (.t 2), none⟩,
⟨(some 9), .build 17 [(3, (.t 8))], none⟩,
⟨(some 10), .build 17 [(0, (.c (.int .i64 10))), (1, (.c (.int .i64 30))), (2, (.c (.int .i64 1)))], none⟩,
⟨(some 11), .bslice false 16 2 [(0, (.t 9)), (1, (.t 10))], none⟩,
⟨(some 3), .assign (.t 11), none⟩])
    (.seq (.region false [] [
⟨(some 12), .load 20 (.t 1), none⟩,
⟨(some 13), .bslice false 10 1 [(0, (.t 12))], none⟩,
⟨(some 14), .bslice false 6 1 [(0, (.c (.int .i64 3)))], none⟩,
⟨(some 15), .bslice false 6 1 [(0, (.c (.int .i64 4)))], none⟩,
⟨(some 16), .bslice false 9 2 [(0, (.t 14)), (1, (.t 15))], none⟩,
⟨(some 17), .bslice false 6 2 [(0, (.c (.int .i64 0))), (1, (.c (.int .i64 1)))], none⟩,
⟨(some 18), .move (.t 3), none⟩,
⟨(some 19), .build 15 [(2, (.t 17)), (3, (.t 18))], none⟩,
⟨(some 20), .bslice false 6 2 [(0, (.c (.int .i64 0))), (1, (.c (.int .i64 1)))], none⟩,
⟨(some 21), .move (.t 3), none⟩,
⟨(some 22), .build 15 [(2, (.t 20)), (3, (.t 21))], none⟩,
⟨(some 23), .bslice false 14 2 [(0, (.t 19)), (1, (.t 22))], none⟩,
⟨(some 24), .build 0 [(0, (.t 13)), (1, (.t 16)), (2, (.t 23))], none⟩,
⟨none, .store 0 (.t 0) (.t 24), none⟩])
    (.ret)))))⟩

def f78 : DFn := ⟨32, [.tmp 4],
    .seq (.region false [] [
⟨(some 2), .box 0 (.t 0), none⟩,
⟨(some 4), .assign (.c (.bool false)), none⟩])
    (.seq (.seq (.region false [] [
⟨(some 6), .move (.t 1), none⟩,
⟨(some 7), .len 6 (.t 6), none⟩,
⟨(some 8), .faddr 0 (.t 2) 2, none⟩,
⟨(some 9), .load 14 (.t 8), none⟩,
⟨(some 10), .len 14 (.t 9), none⟩,
⟨(some 11), .bin .gtr 2 (.t 7) (.t 10), none⟩])
    (.cond (.t 11) (.seq (.region false [] [
⟨(some 4), .assign (.c (.bool false)), none⟩])
    (.ret)) (.skip)))
    (.seq (.seq (.region false [] [
⟨(some 5), .assign (.c (.int .i64 0)), none⟩])
    (.block 0 (.loop (.seq (.seq (.region false [] [
⟨(some 12), .move (.t 5), none⟩,
⟨(some 13), .move (.t 1), none⟩,
⟨(some 14), .len 6 (.t 13), none⟩,
⟨(some 15), .bin .lss 2 (.t 12) (.t 14), none⟩])
    (.cond (.t 15) (.skip) (.exit 0)))
    (.seq (.block 1 (.seq (.region true [] [
⟨(some 18), .move (.t 1), none⟩,
⟨(some 19), .move (.t 5), none⟩,
⟨(some 20), .iaddr 6 (.t 18) (.t 19), none⟩,
⟨(some 21), .load 2 (.t 20), none⟩,
⟨(some 22), .faddr 0 (.t 2) 2, none⟩,
⟨(some 23), .load 14 (.t 22), none⟩,
⟨(some 24), .move (.t 5), none⟩,
⟨(some 25), .iaddr 14 (.t 23) (.t 24), none⟩,
⟨(some 26), .faddr 15 (.t 25) 3, none⟩,
⟨(some 27), .load 16 (.t 26), none⟩,
⟨(some 28), .len 16 (.t 27), none⟩,
⟨(some 29), .bin .sub 2 (.t 28) (.c (.int .i64 1)), none⟩,
⟨(some 30), .call 0 (.f 79) [(.t 21), (.c (.int .i64 0)), (.t 29)], none⟩,
⟨(some 31), .un .not (.t 30), none⟩])
    (.cond (.t 31) (.seq (.region false [] [
⟨(some 4), .assign (.c (.bool false)), none⟩])
    (.ret)) (.skip))))
    (.region false [] [
⟨(some 16), .move (.t 5), none⟩,
⟨(some 17), .bin .add 2 (.t 16) (.c (.int .i64 1)), none⟩,
⟨(some 5), .assign (.t 17), none⟩]))))))
    (.seq (.region false [] [
⟨(some 4), .assign (.c (.bool true)), none⟩])
    (.ret))))⟩

def f79 : DFn := ⟨15, [.tmp 6],
    .seq (.region false [] [
⟨(some 6), .assign (.c (.bool false)), none⟩])
    (.seq (.region false [] [
⟨(some 7), .move (.t 1), none⟩,
⟨(some 8), .move (.t 0), none⟩,
⟨(some 9), .bin .leq 2 (.t 7) (.t 8), none⟩,
⟨(some 10), .move (.t 9), none⟩,
⟨(some 11), .move (.t 0), (some (10, true))⟩,
⟨(some 12), .move (.t 2), (some (10, true))⟩,
⟨(some 13), .bin .leq 2 (.t 11) (.t 12), (some (10, true))⟩,
⟨(some 14), .pick (.t 10) (.t 13) (.c (.bool false)), none⟩,
⟨(some 6), .assign (.t 14), none⟩])
    (.ret))⟩

def f80 : DFn := ⟨71, [.tmp 6],
    .seq (.region false [] [
⟨(some 3), .box 0 (.t 0), none⟩,
⟨(some 6), .assign (.c (.imm .exact [])), none⟩])
    (.seq (.region false [] [
⟨(some 12), .faddr 0 (.t 3) 0, none⟩,
⟨(some 13), .load 10 (.t 12), none⟩,
⟨(some 14), .len 10 (.t 13), none⟩,
⟨(some 15), .mkslice true 6 (.t 14) (.t 14), none⟩,
⟨(some 7), .assign (.t 15), none⟩])
    (.seq (.seq (.region false [] [
⟨(some 8), .assign (.c (.int .i64 0)), none⟩])
    (.block 0 (.loop (.seq (.seq (.region false [] [
⟨(some 16), .move (.t 8), none⟩,
⟨(some 17), .move (.t 1), none⟩,
⟨(some 18), .len 6 (.t 17), none⟩,
⟨(some 19), .bin .lss 2 (.t 16) (.t 18), none⟩])
    (.cond (.t 19) (.skip) (.exit 0)))
    (.seq (.block 1 (.seq (.seq (.region false [] [
⟨(some 22), .faddr 0 (.t 3) 2, none⟩,
⟨(some 23), .load 14 (.t 22), none⟩,
⟨(some 24), .move (.t 8), none⟩,
⟨(some 25), .iaddr 14 (.t 23) (.t 24), none⟩,
⟨(some 26), .load 15 (.t 25), none⟩,
⟨(some 27), .move (.t 2), none⟩,
⟨(some 28), .call 0 (.f 108) [(.t 26), (.t 27)], none⟩,
⟨(some 29), .un .not (.t 28), none⟩])
    (.cond (.t 29) (.exit 1) (.skip)))
    (.seq (.region true [] [
⟨(some 30), .faddr 0 (.t 3) 2, none⟩,
⟨(some 31), .load 14 (.t 30), none⟩,
⟨(some 32), .move (.t 8), none⟩,
⟨(some 33), .iaddr 14 (.t 31) (.t 32), none⟩,
⟨(some 34), .faddr 15 (.t 33) 3, none⟩,
⟨(some 35), .load 16 (.t 34), none⟩,
⟨(some 36), .move (.t 1), none⟩,
⟨(some 37), .move (.t 8), none⟩,
⟨(some 38), .iaddr 6 (.t 36) (.t 37), none⟩,
⟨(some 39), .load 2 (.t 38), none⟩,
⟨(some 40), .iaddr 16 (.t 35) (.t 39), none⟩,
⟨(some 41), .faddr 17 (.t 40) 3, none⟩,
⟨(some 42), .load 18 (.t 41), none⟩,
⟨(some 9), .assign (.t 42), none⟩])
    (.seq (.region false [] [
⟨(some 10), .assign (.c (.int .i64 0)), none⟩])
    (.block 2 (.loop (.seq (.seq (.region false [] [
⟨(some 43), .move (.t 10), none⟩,
⟨(some 44), .move (.t 9), none⟩,
⟨(some 45), .len 18 (.t 44), none⟩,
⟨(some 46), .bin .lss 2 (.t 43) (.t 45), none⟩])
    (.cond (.t 46) (.skip) (.exit 2)))
    (.seq (.block 3 (.seq (.region true [] [
⟨(some 49), .faddr 0 (.t 3) 0, none⟩,
⟨(some 50), .load 10 (.t 49), none⟩,
⟨(some 51), .move (.t 9), none⟩,
⟨(some 52), .move (.t 10), none⟩,
⟨(some 53), .iaddr 18 (.t 51) (.t 52), none⟩,
⟨(some 54), .faddr 19 (.t 53) 0, none⟩,
⟨(some 55), .load 20 (.t 54), none⟩,
⟨(some 56), .call 0 (.f 109) [(.t 50), (.t 55)], none⟩,
⟨(some 11), .assign (.t 56), none⟩])
    (.region true [] [
⟨(some 57), .move (.t 7), none⟩,
⟨(some 58), .move (.t 11), none⟩,
⟨(some 59), .move (.t 7), none⟩,
⟨(some 60), .move (.t 11), none⟩,
⟨(some 61), .iaddr 6 (.t 59) (.t 60), none⟩,
⟨(some 62), .load 2 (.t 61), none⟩,
⟨(some 63), .move (.t 9), none⟩,
⟨(some 64), .move (.t 10), none⟩,
⟨(some 65), .iaddr 18 (.t 63) (.t 64), none⟩,
⟨(some 66), .faddr 19 (.t 65) 1, none⟩,
⟨(some 67), .load 2 (.t 66), none⟩,
⟨(some 68), .bin .add 2 (.t 62) (.t 67), none⟩,
⟨(some 69), .iaddr 6 (.t 57) (.t 58), none⟩,
⟨none, .store 2 (.t 69) (.t 68), none⟩])))
    (.region false [] [
⟨(some 47), .move (.t 10), none⟩,
⟨(some 48), .bin .add 2 (.t 47) (.c (.int .i64 1)), none⟩,
⟨(some 10), .assign (.t 48), none⟩])))))))))
    (.region false [] [
⟨(some 20), .move (.t 8), none⟩,
⟨(some 21), .bin .add 2 (.t 20) (.c (.int .i64 1)), none⟩,
⟨(some 8), .assign (.t 21), none⟩]))))))
    (.seq (.region false [] [
⟨(some 70), .move (.t 7), none⟩,
⟨(some 6), .assign (.t 70), none⟩])
    (.ret))))⟩

def f81 : DFn := ⟨27, [.tmp 4],
    .seq (.region false [] [
⟨(some 2), .box 20 (.t 0), none⟩,
⟨(some 3), .box 20 (.t 1), none⟩,
⟨(some 4), .assign (.c (.bool false)), none⟩])
    (.seq (.seq (.region false [] [
⟨(some 5), .faddr 20 (.t 2) 0, none⟩,
⟨(some 6), .load 7 (.t 5), none⟩,
⟨(some 7), .faddr 20 (.t 3) 0, none⟩,
⟨(some 8), .load 7 (.t 7), none⟩,
⟨(some 9), .bin .neq 7 (.t 6) (.t 8), none⟩])
    (.cond (.t 9) (.seq (.region false [] [
⟨(some 10), .faddr 20 (.t 3) 0, none⟩,
⟨(some 11), .load 7 (.t 10), none⟩,
⟨(some 4), .assign (.t 11), none⟩])
    (.ret)) (.skip)))
    (.seq (.seq (.region false [] [
⟨(some 12), .faddr 20 (.t 2) 1, none⟩,
⟨(some 13), .load 2 (.t 12), none⟩,
⟨(some 14), .faddr 20 (.t 3) 1, none⟩,
⟨(some 15), .load 2 (.t 14), none⟩,
⟨(some 16), .bin .neq 2 (.t 13) (.t 15), none⟩])
    (.cond (.t 16) (.seq (.region false [] [
⟨(some 17), .faddr 20 (.t 2) 1, none⟩,
⟨(some 18), .load 2 (.t 17), none⟩,
⟨(some 19), .faddr 20 (.t 3) 1, none⟩,
⟨(some 20), .load 2 (.t 19), none⟩,
⟨(some 21), .bin .lss 2 (.t 18) (.t 20), none⟩,
⟨(some 4), .assign (.t 21), none⟩])
    (.ret)) (.skip)))
    (.seq (.region false [] [
⟨(some 22), .faddr 20 (.t 2) 2, none⟩,
⟨(some 23), .load 2 (.t 22), none⟩,
⟨(some 24), .faddr 20 (.t 3) 2, none⟩,
⟨(some 25), .load 2 (.t 24), none⟩,
⟨(some 26), .bin .lss 2 (.t 23) (.t 25), none⟩,
⟨(some 4), .assign (.t 26), none⟩])
    (.ret))))⟩

def f82 : DFn := ⟨131, [.tmp 4],
    .seq (.region false [] [
⟨(some 2), .box 0 (.t 0), none⟩,
⟨(some 3), .box 15 (.t 1), none⟩,
⟨(some 4), .assign (.c (.bool false)), none⟩])
    (.seq (.seq (.region false [] [
⟨(some 10), .faddr 15 (.t 3) 2, none⟩,
⟨(some 11), .load 6 (.t 10), none⟩,
⟨(some 12), .len 6 (.t 11), none⟩,
⟨(some 13), .bin .lss 2 (.t 12) (.c (.int .i64 1)), none⟩,
⟨(some 14), .move (.t 13), none⟩,
⟨(some 15), .faddr 15 (.t 3) 3, (some (14, false))⟩,
⟨(some 16), .load 16 (.t 15), (some (14, false))⟩,
⟨(some 17), .len 16 (.t 16), (some (14, false))⟩,
⟨(some 18), .bin .lss 2 (.t 17) (.c (.int .i64 1)), (some (14, false))⟩,
⟨(some 19), .pick (.t 14) (.c (.bool true)) (.t 18), none⟩,
⟨(some 20), .move (.t 19), none⟩,
⟨(some 21), .faddr 15 (.t 3) 3, (some (20, false))⟩,
⟨(some 22), .load 16 (.t 21), (some (20, false))⟩,
⟨(some 23), .len 16 (.t 22), (some (20, false))⟩,
⟨(some 24), .bin .gtr 2 (.t 23) (.c (.int .i64 96)), (some (20, false))⟩,
⟨(some 25), .pick (.t 20) (.c (.bool true)) (.t 24), none⟩])
    (.cond (.t 25) (.seq (.region false [] [
⟨(some 4), .assign (.c (.bool false)), none⟩])
    (.ret)) (.skip)))
    (.seq (.seq (.region false [] [
⟨(some 5), .assign (.c (.int .i64 0)), none⟩])
    (.block 0 (.loop (.seq (.seq (.region false [] [
⟨(some 26), .move (.t 5), none⟩,
⟨(some 27), .faddr 15 (.t 3) 2, none⟩,
⟨(some 28), .load 6 (.t 27), none⟩,
⟨(some 29), .len 6 (.t 28), none⟩,
⟨(some 30), .bin .lss 2 (.t 26) (.t 29), none⟩])
    (.cond (.t 30) (.skip) (.exit 0)))
    (.seq (.block 1 (.seq (.region true [] [
⟨(some 33), .faddr 15 (.t 3) 2, none⟩,
⟨(some 34), .load 6 (.t 33), none⟩,
⟨(some 35), .move (.t 5), none⟩,
⟨(some 36), .iaddr 6 (.t 34) (.t 35), none⟩,
⟨(some 37), .load 2 (.t 36), none⟩,
⟨(some 38), .faddr 0 (.t 2) 1, none⟩,
⟨(some 39), .load 9 (.t 38), none⟩,
⟨(some 40), .len 9 (.t 39), none⟩,
⟨(some 41), .bin .sub 2 (.t 40) (.c (.int .i64 1)), none⟩,
⟨(some 42), .call 0 (.f 79) [(.t 37), (.c (.int .i64 0)), (.t 41)], none⟩,
⟨(some 43), .un .not (.t 42), none⟩,
⟨(some 44), .move (.t 43), none⟩,
⟨(some 45), .move (.t 5), (some (44, false))⟩,
⟨(some 46), .bin .gtr 2 (.t 45) (.c (.int .i64 0)), (some (44, false))⟩,
⟨(some 47), .move (.t 46), (some (44, false))⟩,
⟨(some 48), .faddr 15 (.t 3) 2, (some (47, true))⟩,
⟨(some 49), .load 6 (.t 48), (some (47, true))⟩,
⟨(some 50), .move (.t 5), (some (47, true))⟩,
⟨(some 51), .bin .sub 2 (.t 50) (.c (.int .i64 1)), (some (47, true))⟩,
⟨(some 52), .iaddr 6 (.t 49) (.t 51), (some (47, true))⟩,
⟨(some 53), .load 2 (.t 52), (some (47, true))⟩,
⟨(some 54), .faddr 15 (.t 3) 2, (some (47, true))⟩,
⟨(some 55), .load 6 (.t 54), (some (47, true))⟩,
⟨(some 56), .move (.t 5), (some (47, true))⟩,
⟨(some 57), .iaddr 6 (.t 55) (.t 56), (some (47, true))⟩,
⟨(some 58), .load 2 (.t 57), (some (47, true))⟩,
⟨(some 59), .bin .geq 2 (.t 53) (.t 58), (some (47, true))⟩,
⟨(some 60), .pick (.t 47) (.t 59) (.c (.bool false)), (some (44, false))⟩,
⟨(some 61), .pick (.t 44) (.c (.bool true)) (.t 60), none⟩])
    (.cond (.t 61) (.seq (.region false [] [
⟨(some 4), .assign (.c (.bool false)), none⟩])
    (.ret)) (.skip))))
    (.region false [] [
⟨(some 31), .move (.t 5), none⟩,
⟨(some 32), .bin .add 2 (.t 31) (.c (.int .i64 1)), none⟩,
⟨(some 5), .assign (.t 32), none⟩]))))))
    (.seq (.seq (.region false [] [
⟨(some 6), .assign (.c (.int .i64 0)), none⟩])
    (.block 2 (.loop (.seq (.seq (.region false [] [
⟨(some 62), .move (.t 6), none⟩,
⟨(some 63), .faddr 15 (.t 3) 3, none⟩,
⟨(some 64), .load 16 (.t 63), none⟩,
⟨(some 65), .len 16 (.t 64), none⟩,
⟨(some 66), .bin .lss 2 (.t 62) (.t 65), none⟩])
    (.cond (.t 66) (.skip) (.exit 2)))
    (.seq (.block 3 (.seq (.region false [] [
⟨(some 69), .faddr 15 (.t 3) 3, none⟩,
⟨(some 70), .load 16 (.t 69), none⟩,
⟨(some 71), .move (.t 6), none⟩,
⟨(some 72), .iaddr 16 (.t 70) (.t 71), none⟩,
⟨(some 73), .load 17 (.t 72), none⟩,
⟨(some 7), .alloc 17, none⟩,
⟨none, .store 17 (.t 7) (.t 73), none⟩])
    (.seq (.seq (.region false [] [
⟨(some 74), .faddr 17 (.t 7) 0, none⟩,
⟨(some 75), .load 2 (.t 74), none⟩,
⟨(some 76), .call 0 (.f 79) [(.t 75), (.c (.int .i64 0)), (.c (.int .i64 1048576))], none⟩,
⟨(some 77), .un .not (.t 76), none⟩,
⟨(some 78), .move (.t 77), none⟩,
⟨(some 79), .faddr 17 (.t 7) 1, (some (78, false))⟩,
⟨(some 80), .load 2 (.t 79), (some (78, false))⟩,
⟨(some 81), .call 0 (.f 79) [(.t 80), (.c (.int .i64 0)), (.c (.int .i64 1048576))], (some (78, false))⟩,
⟨(some 82), .un .not (.t 81), (some (78, false))⟩,
⟨(some 83), .pick (.t 78) (.c (.bool true)) (.t 82), none⟩,
⟨(some 84), .move (.t 83), none⟩,
⟨(some 85), .faddr 17 (.t 7) 2, (some (84, false))⟩,
⟨(some 86), .load 2 (.t 85), (some (84, false))⟩,
⟨(some 87), .call 0 (.f 79) [(.t 86), (.c (.int .i64 0)), (.c (.int .i64 1048576))], (some (84, false))⟩,
⟨(some 88), .un .not (.t 87), (some (84, false))⟩,
⟨(some 89), .pick (.t 84) (.c (.bool true)) (.t 88), none⟩])
    (.cond (.t 89) (.seq (.region false [] [
⟨(some 4), .assign (.c (.bool false)), none⟩])
    (.ret)) (.skip)))
    (.seq (.region false [] [
⟨(some 8), .assign (.c (.int .i64 0)), none⟩])
    (.block 4 (.loop (.seq (.seq (.region false [] [
⟨(some 90), .move (.t 8), none⟩,
⟨(some 91), .faddr 17 (.t 7) 3, none⟩,
⟨(some 92), .load 18 (.t 91), none⟩,
⟨(some 93), .len 18 (.t 92), none⟩,
⟨(some 94), .bin .lss 2 (.t 90) (.t 93), none⟩])
    (.cond (.t 94) (.skip) (.exit 4)))
    (.seq (.block 5 (.seq (.region false [] [
⟨(some 97), .faddr 17 (.t 7) 3, none⟩,
⟨(some 98), .load 18 (.t 97), none⟩,
⟨(some 99), .move (.t 8), none⟩,
⟨(some 100), .iaddr 18 (.t 98) (.t 99), none⟩,
⟨(some 101), .load 19 (.t 100), none⟩,
⟨(some 9), .alloc 19, none⟩,
⟨none, .store 19 (.t 9) (.t 101), none⟩])
    (.seq (.region true [] [
⟨(some 102), .faddr 0 (.t 2) 0, none⟩,
⟨(some 103), .load 10 (.t 102), none⟩,
⟨(some 104), .faddr 19 (.t 9) 0, none⟩,
⟨(some 105), .load 20 (.t 104), none⟩,
⟨(some 106), .call 0 (.f 109) [(.t 103), (.t 105)], none⟩,
⟨(some 107), .bin .lss 2 (.t 106) (.c (.int .i64 0)), none⟩,
⟨(some 108), .move (.t 107), none⟩,
⟨(some 109), .faddr 19 (.t 9) 1, (some (108, false))⟩,
⟨(some 110), .load 2 (.t 109), (some (108, false))⟩,
⟨(some 111), .call 0 (.f 79) [(.t 110), (.c (.int .i64 1)), (.c (.int .i64 8))], (some (108, false))⟩,
⟨(some 112), .un .not (.t 111), (some (108, false))⟩,
⟨(some 113), .pick (.t 108) (.c (.bool true)) (.t 112), none⟩,
⟨(some 114), .move (.t 113), none⟩,
⟨(some 115), .move (.t 8), (some (114, false))⟩,
⟨(some 116), .bin .gtr 2 (.t 115) (.c (.int .i64 0)), (some (114, false))⟩,
⟨(some 117), .move (.t 116), (some (114, false))⟩,
⟨(some 118), .faddr 17 (.t 7) 3, (some (117, true))⟩,
⟨(some 119), .load 18 (.t 118), (some (117, true))⟩,
⟨(some 120), .move (.t 8), (some (117, true))⟩,
⟨(some 121), .bin .sub 2 (.t 120) (.c (.int .i64 1)), (some (117, true))⟩,
⟨(some 122), .iaddr 18 (.t 119) (.t 121), (some (117, true))⟩,
⟨(some 123), .faddr 19 (.t 122) 0, (some (117, true))⟩,
⟨(some 124), .load 20 (.t 123), (some (117, true))⟩,
⟨(some 125), .faddr 19 (.t 9) 0, (some (117, true))⟩,
⟨(some 126), .load 20 (.t 125), (some (117, true))⟩,
⟨(some 127), .call 0 (.f 81) [(.t 124), (.t 126)], (some (117, true))⟩,
⟨(some 128), .un .not (.t 127), (some (117, true))⟩,
⟨(some 129), .pick (.t 117) (.t 128) (.c (.bool false)), (some (114, false))⟩,
⟨(some 130), .pick (.t 114) (.c (.bool true)) (.t 129), none⟩])
    (.cond (.t 130) (.seq (.region false [] [
⟨(some 4), .assign (.c (.bool false)), none⟩])
    (.ret)) (.skip)))))
    (.region false [] [
⟨(some 95), .move (.t 8), none⟩,
⟨(some 96), .bin .add 2 (.t 95) (.c (.int .i64 1)), none⟩,
⟨(some 8), .assign (.t 96), none⟩])))))))))
    (.region false [] [
⟨(some 67), .move (.t 6), none⟩,
⟨(some 68), .bin .add 2 (.t 67) (.c (.int .i64 1)), none⟩,
⟨(some 6), .assign (.t 68), none⟩]))))))
    (.seq (.region false [] [
⟨(some 4), .assign (.c (.bool true)), none⟩])
    (.ret)))))⟩

def f83 : DFn := ⟨18, [.tmp 4],
    .seq (.region false [] [
⟨(some 2), .box 0 (.t 0), none⟩,
⟨(some 4), .assign (.c (.int .i64 0)), none⟩])
    (.seq (.seq (.region false [] [
⟨(some 6), .load 0 (.t 2), none⟩,
⟨(some 7), .move (.t 1), none⟩,
⟨(some 8), .call 0 (.f 66) [(.t 6), (.t 7)], none⟩,
⟨(some 5), .assign (.t 8), none⟩])
    (.seq (.region false [] [
⟨(some 9), .move (.t 5), none⟩,
⟨(some 10), .bin .neq 3 (.t 9) (.c (.int .i64 0)), none⟩])
    (.cond (.t 10) (.seq (.region false [] [
⟨(some 11), .move (.t 5), none⟩,
⟨(some 4), .assign (.t 11), none⟩])
    (.ret)) (.skip))))
    (.seq (.seq (.region false [] [
⟨(some 12), .move (.t 1), none⟩,
⟨(some 13), .len 6 (.t 12), none⟩,
⟨(some 14), .faddr 0 (.t 2) 2, none⟩,
⟨(some 15), .load 14 (.t 14), none⟩,
⟨(some 16), .len 14 (.t 15), none⟩,
⟨(some 17), .bin .neq 2 (.t 13) (.t 16), none⟩])
    (.cond (.t 17) (.seq (.region false [] [
⟨(some 4), .assign (.c (.int .i64 270)), none⟩])
    (.ret)) (.skip)))
    (.seq (.region false [] [
⟨(some 4), .assign (.c (.int .i64 0)), none⟩])
    (.ret))))⟩

def f84 : DFn := ⟨6, [.tmp 4],
    .seq (.region false [] [
⟨(some 2), .box 0 (.t 0), none⟩,
⟨(some 3), .box 6 (.t 1), none⟩,
⟨(some 4), .assign (.c .nilfn), none⟩])
    (.seq (.region false [] [
⟨(some 5), .mkfn 110 [(.t 2), (.t 3)], none⟩,
⟨(some 4), .assign (.t 5), none⟩])
    (.ret))⟩

def f85 : DFn := ⟨43, [.tmp 4],
    .seq (.region false [] [
⟨(some 2), .box 0 (.t 0), none⟩,
⟨(some 4), .assign (.c (.int .i64 0)), none⟩])
    (.seq (.region false [] [
⟨(some 5), .assign (.c (.int .i64 0)), none⟩])
    (.seq (.seq (.region false [] [
⟨(some 6), .assign (.c (.int .i64 0)), none⟩])
    (.block 0 (.loop (.seq (.seq (.region false [] [
⟨(some 9), .move (.t 6), none⟩,
⟨(some 10), .faddr 0 (.t 2) 1, none⟩,
⟨(some 11), .load 9 (.t 10), none⟩,
⟨(some 12), .len 9 (.t 11), none⟩,
⟨(some 13), .bin .lss 2 (.t 9) (.t 12), none⟩])
    (.cond (.t 13) (.skip) (.exit 0)))
    (.seq (.block 1 (.seq (.region false [] [
⟨(some 16), .load 0 (.t 2), none⟩,
⟨(some 17), .move (.t 1), none⟩,
⟨(some 18), .move (.t 6), none⟩,
⟨(some 19), .call 0 (.f 80) [(.t 16), (.t 17), (.t 18)], none⟩,
⟨(some 7), .assign (.t 19), none⟩])
    (.seq (.region false [] [
⟨(some 8), .assign (.c (.int .i64 0)), none⟩])
    (.block 2 (.loop (.seq (.seq (.region false [] [
⟨(some 20), .move (.t 8), none⟩,
⟨(some 21), .move (.t 7), none⟩,
⟨(some 22), .len 6 (.t 21), none⟩,
⟨(some 23), .bin .lss 2 (.t 20) (.t 22), none⟩])
    (.cond (.t 23) (.skip) (.exit 2)))
    (.seq (.block 3 (.region true [] [
⟨(some 26), .move (.t 5), none⟩,
⟨(some 27), .move (.t 7), none⟩,
⟨(some 28), .move (.t 8), none⟩,
⟨(some 29), .iaddr 6 (.t 27) (.t 28), none⟩,
⟨(some 30), .load 2 (.t 29), none⟩,
⟨(some 31), .faddr 0 (.t 2) 1, none⟩,
⟨(some 32), .load 9 (.t 31), none⟩,
⟨(some 33), .move (.t 6), none⟩,
⟨(some 34), .iaddr 9 (.t 32) (.t 33), none⟩,
⟨(some 35), .load 6 (.t 34), none⟩,
⟨(some 36), .move (.t 8), none⟩,
⟨(some 37), .iaddr 6 (.t 35) (.t 36), none⟩,
⟨(some 38), .load 2 (.t 37), none⟩,
⟨(some 39), .bin .sub 2 (.t 30) (.t 38), none⟩,
⟨(some 40), .maxi [(.c (.int .i64 0)), (.t 39)], none⟩,
⟨(some 41), .bin .add 2 (.t 26) (.t 40), none⟩,
⟨(some 5), .assign (.t 41), none⟩]))
    (.region false [] [
⟨(some 24), .move (.t 8), none⟩,
⟨(some 25), .bin .add 2 (.t 24) (.c (.int .i64 1)), none⟩,
⟨(some 8), .assign (.t 25), none⟩]))))))))
    (.region false [] [
⟨(some 14), .move (.t 6), none⟩,
⟨(some 15), .bin .add 2 (.t 14) (.c (.int .i64 1)), none⟩,
⟨(some 6), .assign (.t 15), none⟩]))))))
    (.seq (.region false [] [
⟨(some 42), .move (.t 5), none⟩,
⟨(some 4), .assign (.t 42), none⟩])
    (.ret))))⟩

def f86 : DFn := ⟨14, [.tmp 4, .tmp 5],
    .seq (.region false [] [
⟨(some 4), .assign (.c (.int .i64 0)), none⟩,
⟨(some 5), .assign (.c (.int .i64 0)), none⟩])
    (.seq (.seq (.region false [] [
⟨(some 6), .move (.t 0), none⟩,
⟨(some 7), .len 6 (.t 6), none⟩,
⟨(some 8), .move (.t 1), none⟩,
⟨(some 9), .len 6 (.t 8), none⟩,
⟨(some 10), .bin .neq 2 (.t 7) (.t 9), none⟩])
    (.cond (.t 10) (.seq (.region false [] [
⟨(some 4), .assign (.c (.int .i64 0)), none⟩,
⟨(some 5), .assign (.c (.int .i64 60)), none⟩])
    (.ret)) (.skip)))
    (.seq (.region false [] [
⟨(some 11), .move (.t 0), none⟩,
⟨(some 12), .move (.t 1), none⟩,
⟨(some 13), .call 0 (.f 111) [(.t 11), (.t 12)], none⟩,
⟨(some 4), .assign (.t 13), none⟩,
⟨(some 5), .assign (.c (.int .i64 0)), none⟩])
    (.ret)))⟩

def f87 : DFn := ⟨36, [.tmp 4],
    .seq (.region false [] [
⟨(some 4), .assign (.c (.int .i64 0)), none⟩])
    (.seq (.seq (.region false [] [
⟨(some 9), .move (.t 0), none⟩,
⟨(some 10), .len 6 (.t 9), none⟩,
⟨(some 11), .move (.c (.int .i64 0)), none⟩])
    (.block 0 (.loop (.seq (.region false [] [
⟨(some 12), .bin .lss 2 (.t 11) (.t 10), none⟩])
    (.seq (.cond (.t 12) (.skip) (.exit 0))
    (.seq (.block 1 (.seq (.region false [] [
⟨(some 13), .move (.t 11), none⟩,
⟨(some 14), .iaddr 6 (.t 9) (.t 11), none⟩,
⟨(some 15), .load 2 (.t 14), none⟩,
⟨(some 5), .assign (.t 13), none⟩,
⟨(some 6), .assign (.t 15), none⟩])
    (.seq (.seq (.region false [] [
⟨(some 16), .move (.t 5), none⟩,
⟨(some 17), .move (.t 1), none⟩,
⟨(some 18), .len 6 (.t 17), none⟩,
⟨(some 19), .bin .geq 2 (.t 16) (.t 18), none⟩])
    (.cond (.t 19) (.seq (.region false [] [
⟨(some 4), .assign (.c (.int .i64 1)), none⟩])
    (.ret)) (.skip)))
    (.seq (.region false [] [
⟨(some 20), .move (.t 1), none⟩,
⟨(some 21), .move (.t 5), none⟩,
⟨(some 22), .iaddr 6 (.t 20) (.t 21), none⟩,
⟨(some 23), .load 2 (.t 22), none⟩,
⟨(some 7), .assign (.t 23), none⟩])
    (.seq (.region false [] [
⟨(some 24), .move (.t 6), none⟩,
⟨(some 25), .move (.t 7), none⟩,
⟨(some 26), .call 0 (.f 74) [(.t 24), (.t 25)], none⟩,
⟨(some 8), .assign (.t 26), none⟩])
    (.seq (.region false [] [
⟨(some 27), .move (.t 8), none⟩,
⟨(some 28), .bin .neq 2 (.t 27) (.c (.int .i64 0)), none⟩])
    (.cond (.t 28) (.seq (.region false [] [
⟨(some 29), .move (.t 8), none⟩,
⟨(some 4), .assign (.t 29), none⟩])
    (.ret)) (.skip))))))))
    (.region false [] [
⟨(some 30), .bin .add 2 (.t 11) (.c (.int .i64 1)), none⟩,
⟨(some 11), .move (.t 30), none⟩])))))))
    (.seq (.seq (.region false [] [
⟨(some 31), .move (.t 0), none⟩,
⟨(some 32), .len 6 (.t 31), none⟩,
⟨(some 33), .move (.t 1), none⟩,
⟨(some 34), .len 6 (.t 33), none⟩,
⟨(some 35), .bin .lss 2 (.t 32) (.t 34), none⟩])
    (.cond (.t 35) (.seq (.region false [] [
⟨(some 4), .assign (.c (.int .i64 (-1))), none⟩])
    (.ret)) (.skip)))
    (.seq (.region false [] [
⟨(some 4), .assign (.c (.int .i64 0)), none⟩])
    (.ret))))⟩

def f101 : DFn := ⟨15, [.cell 4 7],
    .seq (.region false [] [
⟨(some 4), .alloc 7, none⟩])
    (.seq (.seq (.region false [] [
⟨(some 7), .move (.t 0), none⟩,
⟨(some 8), .move (.t 1), none⟩,
⟨(some 9), .call 0 (.f 121) [(.t 7), (.t 8)], none⟩])
    (.block 0 (.rfunc (.t 9) [10, 11] (.seq (.region false [] [
⟨(some 5), .assign (.t 10), none⟩])
    (.region false [] [
⟨(some 6), .assign (.t 11), none⟩])) (.block 1 (.seq (.region false [] [
⟨(some 12), .move (.t 5), none⟩,
⟨(some 13), .move (.t 6), none⟩,
⟨(some 14), .bin .gtr 2 (.t 12) (.t 13), none⟩])
    (.cond (.t 14) (.seq (.region false [] [
⟨none, .store 7 (.t 4) (.c (.bool false)), none⟩])
    (.ret)) (.skip)))))))
    (.seq (.region false [] [
⟨none, .store 7 (.t 4) (.c (.bool true)), none⟩])
    (.ret)))⟩

def f102 : DFn := ⟨43, [],
    .seq (.region false [] [
⟨(some 7), .faddr 0 (.t 1) 2, none⟩,
⟨(some 8), .load 14 (.t 7), none⟩,
⟨(some 9), .len 14 (.t 8), none⟩,
⟨(some 10), .move (.c (.int .i64 0)), none⟩])
    (.block 0 (.loop (.seq (.region false [] [
⟨(some 11), .bin .lss 2 (.t 10) (.t 9), none⟩])
    (.seq (.cond (.t 11) (.skip) (.exit 0))
    (.seq (.block 1 (.seq (.region false [] [
⟨(some 12), .move (.t 10), none⟩,
⟨(some 13), .iaddr 14 (.t 8) (.t 10), none⟩,
⟨(some 14), .load 15 (.t 13), none⟩,
⟨(some 5), .alloc 15, none⟩,
⟨(some 4), .assign (.t 12), none⟩,
⟨none, .store 15 (.t 5) (.t 14), none⟩])
    (.seq (.region true [] [
⟨(some 15), .faddr 15 (.t 5) 3, none⟩,
⟨(some 16), .load 16 (.t 15), none⟩,
⟨(some 17), .iaddr 16 (.t 16) (.c (.int .i64 0)), none⟩,
⟨(some 18), .load 17 (.t 17), none⟩,
⟨(some 19), .faddr 15 (.t 5) 3, none⟩,
⟨(some 20), .load 16 (.t 19), none⟩,
⟨(some 21), .slice 16 (.t 20) (some (.c (.int .i64 1))) none none, none⟩,
⟨(some 22), .call 0 (.f 122) [(.t 18), (.t 21)], none⟩,
⟨(some 6), .alloc 17, none⟩,
⟨none, .store 17 (.t 6) (.t 22), none⟩])
    (.seq (.seq (.region false [] [
⟨(some 23), .move (.t 4), none⟩,
⟨(some 24), .load 1 (.t 2), none⟩,
⟨(some 25), .len 1 (.t 24), none⟩,
⟨(some 26), .bin .lss 2 (.t 23) (.t 25), none⟩])
    (.cond (.t 26) (.region true [] [
⟨(some 27), .faddr 15 (.t 5) 3, none⟩,
⟨(some 28), .load 16 (.t 27), none⟩,
⟨(some 29), .load 1 (.t 2), none⟩,
⟨(some 30), .move (.t 4), none⟩,
⟨(some 31), .iaddr 1 (.t 29) (.t 30), none⟩,
⟨(some 32), .load 2 (.t 31), none⟩,
⟨(some 33), .iaddr 16 (.t 28) (.t 32), none⟩,
⟨(some 34), .load 17 (.t 33), none⟩,
⟨none, .store 17 (.t 6) (.t 34), none⟩]) (.skip)))
    (.seq (.region false [] [
⟨(some 35), .move (.t 0), none⟩,
⟨(some 36), .faddr 15 (.t 5) 2, none⟩,
⟨(some 37), .load 6 (.t 36), none⟩,
⟨(some 38), .len 6 (.t 37), none⟩,
⟨(some 39), .load 17 (.t 6), none⟩,
⟨(some 40), .call 2 (.t 35) [(.t 38), (.t 39)], none⟩,
⟨(some 41), .un .not (.t 40), none⟩])
    (.cond (.t 41) (.ret) (.skip)))))))
    (.region false [] [
⟨(some 42), .bin .add 2 (.t 10) (.c (.int .i64 1)), none⟩,
⟨(some 10), .move (.t 42), none⟩]))))))⟩

def f103 : DFn := ⟨37, [.tmp 4],
    .seq (.region false [] [
⟨(some 2), .box 0 (.t 0), none⟩,
⟨(some 4), .assign (.c (.bool false)), none⟩])
    (.seq (.seq (.region false [] [
⟨(some 6), .move (.t 1), none⟩,
⟨(some 7), .len 1 (.t 6), none⟩,
⟨(some 8), .faddr 0 (.t 2) 2, none⟩,
⟨(some 9), .load 14 (.t 8), none⟩,
⟨(some 10), .len 14 (.t 9), none⟩,
⟨(some 11), .bin .gtr 2 (.t 7) (.t 10), none⟩])
    (.cond (.t 11) (.seq (.region false [] [
⟨(some 4), .assign (.c (.bool false)), none⟩])
    (.ret)) (.skip)))
    (.seq (.seq (.region false [] [
⟨(some 5), .assign (.c (.int .i64 0)), none⟩])
    (.block 0 (.loop (.seq (.seq (.region false [] [
⟨(some 12), .move (.t 5), none⟩,
⟨(some 13), .move (.t 1), none⟩,
⟨(some 14), .len 1 (.t 13), none⟩,
⟨(some 15), .bin .lss 2 (.t 12) (.t 14), none⟩])
    (.cond (.t 15) (.skip) (.exit 0)))
    (.seq (.block 1 (.seq (.region true [] [
⟨(some 18), .move (.t 1), none⟩,
⟨(some 19), .move (.t 5), none⟩,
⟨(some 20), .iaddr 1 (.t 18) (.t 19), none⟩,
⟨(some 21), .load 2 (.t 20), none⟩,
⟨(some 22), .bin .lss 2 (.t 21) (.c (.int .i64 0)), none⟩,
⟨(some 23), .move (.t 22), none⟩,
⟨(some 24), .move (.t 1), (some (23, false))⟩,
⟨(some 25), .move (.t 5), (some (23, false))⟩,
⟨(some 26), .iaddr 1 (.t 24) (.t 25), (some (23, false))⟩,
⟨(some 27), .load 2 (.t 26), (some (23, false))⟩,
⟨(some 28), .faddr 0 (.t 2) 2, (some (23, false))⟩,
⟨(some 29), .load 14 (.t 28), (some (23, false))⟩,
⟨(some 30), .move (.t 5), (some (23, false))⟩,
⟨(some 31), .iaddr 14 (.t 29) (.t 30), (some (23, false))⟩,
⟨(some 32), .faddr 15 (.t 31) 3, (some (23, false))⟩,
⟨(some 33), .load 16 (.t 32), (some (23, false))⟩,
⟨(some 34), .len 16 (.t 33), (some (23, false))⟩,
⟨(some 35), .bin .geq 2 (.t 27) (.t 34), (some (23, false))⟩,
⟨(some 36), .pick (.t 23) (.c (.bool true)) (.t 35), none⟩])
    (.cond (.t 36) (.seq (.region false [] [
⟨(some 4), .assign (.c (.bool false)), none⟩])
    (.ret)) (.skip))))
    (.region false [] [
⟨(some 16), .move (.t 5), none⟩,
⟨(some 17), .bin .add 2 (.t 16) (.c (.int .i64 1)), none⟩,
⟨(some 5), .assign (.t 17), none⟩]))))))
    (.seq (.region false [] [
⟨(some 4), .assign (.c (.bool true)), none⟩])
    (.ret))))⟩

def f104 : DFn := ⟨6, [.tmp 4],
    .seq (.region false [] [
⟨(some 2), .box 0 (.t 0), none⟩,
⟨(some 3), .box 6 (.t 1), none⟩,
⟨(some 4), .assign (.c .nilfn), none⟩])
    (.seq (.region false [] [
⟨(some 5), .mkfn 123 [(.t 3), (.t 2)], none⟩,
⟨(some 4), .assign (.t 5), none⟩])
    (.ret))⟩

def f105 : DFn := ⟨18, [.tmp 2],
    .seq (.region false [] [
⟨(some 2), .assign (.c (.int .i64 0)), none⟩])
    (.seq (.region false [] [
⟨(some 3), .assign (.c (.int .i64 0)), none⟩])
    (.seq (.seq (.region false [] [
⟨(some 6), .move (.t 0), none⟩,
⟨(some 7), .len 6 (.t 6), none⟩,
⟨(some 8), .move (.c (.int .i64 0)), none⟩])
    (.block 0 (.loop (.seq (.region false [] [
⟨(some 9), .bin .lss 2 (.t 8) (.t 7), none⟩])
    (.seq (.cond (.t 9) (.skip) (.exit 0))
    (.seq (.block 1 (.seq (.region false [] [
⟨(some 10), .iaddr 6 (.t 6) (.t 8), none⟩,
⟨(some 11), .load 2 (.t 10), none⟩,
⟨(some 5), .assign (.t 11), none⟩])
    (.seq (.region false [] [
⟨(some 12), .move (.t 5), none⟩,
⟨(some 13), .move (.t 3), none⟩,
⟨(some 14), .bin .neq 2 (.t 12) (.t 13), none⟩])
    (.cond (.t 14) (.seq (.region false [] [
⟨(some 15), .move (.t 5), none⟩,
⟨(some 2), .assign (.t 15), none⟩])
    (.ret)) (.skip)))))
    (.region false [] [
⟨(some 16), .bin .add 2 (.t 8) (.c (.int .i64 1)), none⟩,
⟨(some 8), .move (.t 16), none⟩])))))))
    (.seq (.region false [] [
⟨(some 17), .move (.t 3), none⟩,
⟨(some 2), .assign (.t 17), none⟩])
    (.ret))))⟩

def f106 : DFn := ⟨19, [.tmp 4],
    .seq (.region false [] [
⟨(some 4), .assign (.c (.int .i64 0)), none⟩])
    (.seq (.seq (.region false [] [
⟨(some 6), .move (.t 0), none⟩,
⟨(some 7), .len 6 (.t 6), none⟩,
⟨(some 8), .move (.c (.int .i64 0)), none⟩])
    (.block 0 (.loop (.seq (.region false [] [
⟨(some 9), .bin .lss 2 (.t 8) (.t 7), none⟩])
    (.seq (.cond (.t 9) (.skip) (.exit 0))
    (.seq (.block 1 (.seq (.region false [] [
⟨(some 10), .move (.t 8), none⟩,
⟨(some 5), .assign (.t 10), none⟩])
    (.seq (.region false [] [
⟨(some 11), .move (.t 1), none⟩,
⟨(some 12), .move (.t 0), none⟩,
⟨(some 13), .move (.t 5), none⟩,
⟨(some 14), .iaddr 6 (.t 12) (.t 13), none⟩,
⟨(some 15), .load 2 (.t 14), none⟩,
⟨(some 16), .call 0 (.t 11) [(.t 15)], none⟩])
    (.cond (.t 16) (.seq (.region false [] [
⟨(some 17), .move (.t 5), none⟩,
⟨(some 4), .assign (.t 17), none⟩])
    (.ret)) (.skip)))))
    (.region false [] [
⟨(some 18), .bin .add 2 (.t 8) (.c (.int .i64 1)), none⟩,
⟨(some 8), .move (.t 18), none⟩])))))))
    (.seq (.region false [] [
⟨(some 4), .assign (.c (.int .i64 (-1))), none⟩])
    (.ret)))⟩

def f107 : DFn := ⟨6, [.tmp 2],
    .seq (.region false [] [
⟨(some 2), .assign (.c (.bool false)), none⟩])
    (.seq (.region false [] [
⟨(some 3), .move (.t 0), none⟩,
⟨(some 4), .move (.t 0), none⟩,
⟨(some 5), .bin .neq 2 (.t 3) (.t 4), none⟩,
⟨(some 2), .assign (.t 5), none⟩])
    (.ret))⟩

def f108 : DFn := ⟨20, [.tmp 4],
    .seq (.region false [] [
⟨(some 2), .box 15 (.t 0), none⟩,
⟨(some 4), .assign (.c (.bool false)), none⟩])
    (.seq (.seq (.region false [] [
⟨(some 5), .assign (.c (.int .i64 0)), none⟩])
    (.block 0 (.loop (.seq (.seq (.region false [] [
⟨(some 6), .move (.t 5), none⟩,
⟨(some 7), .faddr 15 (.t 2) 2, none⟩,
⟨(some 8), .load 6 (.t 7), none⟩,
⟨(some 9), .len 6 (.t 8), none⟩,
⟨(some 10), .bin .lss 2 (.t 6) (.t 9), none⟩])
    (.cond (.t 10) (.skip) (.exit 0)))
    (.seq (.block 1 (.seq (.region false [] [
⟨(some 13), .faddr 15 (.t 2) 2, none⟩,
⟨(some 14), .load 6 (.t 13), none⟩,
⟨(some 15), .move (.t 5), none⟩,
⟨(some 16), .iaddr 6 (.t 14) (.t 15), none⟩,
⟨(some 17), .load 2 (.t 16), none⟩,
⟨(some 18), .move (.t 1), none⟩,
⟨(some 19), .bin .eql 2 (.t 17) (.t 18), none⟩])
    (.cond (.t 19) (.seq (.region false [] [
⟨(some 4), .assign (.c (.bool true)), none⟩])
    (.ret)) (.skip))))
    (.region false [] [
⟨(some 11), .move (.t 5), none⟩,
⟨(some 12), .bin .add 2 (.t 11) (.c (.int .i64 1)), none⟩,
⟨(some 5), .assign (.t 12), none⟩]))))))
    (.seq (.region false [] [
⟨(some 4), .assign (.c (.bool false)), none⟩])
    (.ret)))⟩

def f109 : DFn := ⟨19, [.tmp 4],
    .seq (.region false [] [
⟨(some 3), .box 20 (.t 1), none⟩,
⟨(some 4), .assign (.c (.int .i64 0)), none⟩])
    (.seq (.seq (.region false [] [
⟨(some 5), .assign (.c (.int .i64 0)), none⟩])
    (.block 0 (.loop (.seq (.seq (.region false [] [
⟨(some 6), .move (.t 5), none⟩,
⟨(some 7), .move (.t 0), none⟩,
⟨(some 8), .len 10 (.t 7), none⟩,
⟨(some 9), .bin .lss 2 (.t 6) (.t 8), none⟩])
    (.cond (.t 9) (.skip) (.exit 0)))
    (.seq (.block 1 (.seq (.region true [] [
⟨(some 12), .move (.t 0), none⟩,
⟨(some 13), .move (.t 5), none⟩,
⟨(some 14), .iaddr 10 (.t 12) (.t 13), none⟩,
⟨(some 15), .load 20 (.t 14), none⟩,
⟨(some 16), .load 20 (.t 3), none⟩,
⟨(some 17), .bin .eql 20 (.t 15) (.t 16), none⟩])
    (.cond (.t 17) (.seq (.region false [] [
⟨(some 18), .move (.t 5), none⟩,
⟨(some 4), .assign (.t 18), none⟩])
    (.ret)) (.skip))))
    (.region false [] [
⟨(some 10), .move (.t 5), none⟩,
⟨(some 11), .bin .add 2 (.t 10) (.c (.int .i64 1)), none⟩,
⟨(some 5), .assign (.t 11), none⟩]))))))
    (.seq (.region false [] [
⟨(some 4), .assign (.c (.int .i64 (-1))), none⟩])
    (.ret)))⟩

def f110 : DFn := ⟨48, [],
    .seq (.region false [] [
⟨(some 9), .load 0 (.t 1), none⟩,
⟨(some 10), .load 6 (.t 2), none⟩,
⟨(some 11), .call 0 (.f 68) [(.t 9), (.t 10)], none⟩,
⟨(some 12), .len 9 (.t 11), none⟩,
⟨(some 13), .move (.c (.int .i64 0)), none⟩])
    (.block 0 (.loop (.seq (.region false [] [
⟨(some 14), .bin .lss 2 (.t 13) (.t 12), none⟩])
    (.seq (.cond (.t 14) (.skip) (.exit 0))
    (.seq (.block 1 (.seq (.region false [] [
⟨(some 15), .move (.t 13), none⟩,
⟨(some 16), .iaddr 9 (.t 11) (.t 13), none⟩,
⟨(some 17), .load 6 (.t 16), none⟩,
⟨(some 4), .assign (.t 15), none⟩,
⟨(some 5), .assign (.t 17), none⟩])
    (.seq (.region false [] [
⟨(some 18), .move (.t 5), none⟩,
⟨(some 19), .len 6 (.t 18), none⟩,
⟨(some 20), .move (.c (.int .i64 0)), none⟩])
    (.block 2 (.loop (.seq (.region false [] [
⟨(some 21), .bin .lss 2 (.t 20) (.t 19), none⟩])
    (.seq (.cond (.t 21) (.skip) (.exit 2))
    (.seq (.block 3 (.seq (.region false [] [
⟨(some 22), .move (.t 20), none⟩,
⟨(some 23), .iaddr 6 (.t 18) (.t 20), none⟩,
⟨(some 24), .load 2 (.t 23), none⟩,
⟨(some 6), .assign (.t 22), none⟩,
⟨(some 7), .assign (.t 24), none⟩])
    (.seq (.region false [] [
⟨(some 25), .move (.t 7), none⟩,
⟨(some 26), .faddr 0 (.t 1) 1, none⟩,
⟨(some 27), .load 9 (.t 26), none⟩,
⟨(some 28), .move (.t 4), none⟩,
⟨(some 29), .iaddr 9 (.t 27) (.t 28), none⟩,
⟨(some 30), .load 6 (.t 29), none⟩,
⟨(some 31), .move (.t 6), none⟩,
⟨(some 32), .iaddr 6 (.t 30) (.t 31), none⟩,
⟨(some 33), .load 2 (.t 32), none⟩,
⟨(some 34), .bin .sub 2 (.t 25) (.t 33), none⟩,
⟨(some 8), .assign (.t 34), none⟩])
    (.seq (.region false [] [
⟨(some 35), .move (.t 8), none⟩,
⟨(some 36), .bin .gtr 2 (.t 35) (.c (.int .i64 0)), none⟩,
⟨(some 37), .move (.t 36), none⟩,
⟨(some 38), .move (.t 0), (some (37, true))⟩,
⟨(some 39), .move (.t 4), (some (37, true))⟩,
⟨(some 40), .move (.t 6), (some (37, true))⟩,
⟨(some 41), .build 11 [(0, (.t 39)), (1, (.t 40))], (some (37, true))⟩,
⟨(some 42), .move (.t 8), (some (37, true))⟩,
⟨(some 43), .call 2 (.t 38) [(.t 41), (.t 42)], (some (37, true))⟩,
⟨(some 44), .un .not (.t 43), (some (37, true))⟩,
⟨(some 45), .pick (.t 37) (.t 44) (.c (.bool false)), none⟩])
    (.cond (.t 45) (.ret) (.skip))))))
    (.region false [] [
⟨(some 46), .bin .add 2 (.t 20) (.c (.int .i64 1)), none⟩,
⟨(some 20), .move (.t 46), none⟩])))))))))
    (.region false [] [
⟨(some 47), .bin .add 2 (.t 13) (.c (.int .i64 1)), none⟩,
⟨(some 13), .move (.t 47), none⟩]))))))⟩

def f111 : DFn := ⟨30, [.tmp 4],
    .seq (.region false [] [
⟨(some 4), .assign (.c (.int .i64 0)), none⟩])
    (.seq (.seq (.region false [] [
⟨(some 5), .assign (.c (.int .i64 0)), none⟩])
    (.block 0 (.loop (.seq (.seq (.region false [] [
⟨(some 6), .move (.t 5), none⟩,
⟨(some 7), .move (.t 0), none⟩,
⟨(some 8), .len 6 (.t 7), none⟩,
⟨(some 9), .bin .lss 2 (.t 6) (.t 8), none⟩])
    (.cond (.t 9) (.skip) (.exit 0)))
    (.seq (.block 1 (.seq (.seq (.region true [] [
⟨(some 12), .move (.t 0), none⟩,
⟨(some 13), .move (.t 5), none⟩,
⟨(some 14), .iaddr 6 (.t 12) (.t 13), none⟩,
⟨(some 15), .load 2 (.t 14), none⟩,
⟨(some 16), .move (.t 1), none⟩,
⟨(some 17), .move (.t 5), none⟩,
⟨(some 18), .iaddr 6 (.t 16) (.t 17), none⟩,
⟨(some 19), .load 2 (.t 18), none⟩,
⟨(some 20), .bin .lss 2 (.t 15) (.t 19), none⟩])
    (.cond (.t 20) (.seq (.region false [] [
⟨(some 4), .assign (.c (.int .i64 (-1))), none⟩])
    (.ret)) (.skip)))
    (.seq (.region true [] [
⟨(some 21), .move (.t 0), none⟩,
⟨(some 22), .move (.t 5), none⟩,
⟨(some 23), .iaddr 6 (.t 21) (.t 22), none⟩,
⟨(some 24), .load 2 (.t 23), none⟩,
⟨(some 25), .move (.t 1), none⟩,
⟨(some 26), .move (.t 5), none⟩,
⟨(some 27), .iaddr 6 (.t 25) (.t 26), none⟩,
⟨(some 28), .load 2 (.t 27), none⟩,
⟨(some 29), .bin .gtr 2 (.t 24) (.t 28), none⟩])
    (.cond (.t 29) (.seq (.region false [] [
⟨(some 4), .assign (.c (.int .i64 1)), none⟩])
    (.ret)) (.skip)))))
    (.region false [] [
⟨(some 10), .move (.t 5), none⟩,
⟨(some 11), .bin .add 2 (.t 10) (.c (.int .i64 1)), none⟩,
⟨(some 5), .assign (.t 11), none⟩]))))))
    (.seq (.region false [] [
⟨(some 4), .assign (.c (.int .i64 0)), none⟩])
    (.ret)))⟩

def f121 : DFn := ⟨6, [.tmp 4],
    .seq (.region false [] [
⟨(some 2), .box 6 (.t 0), none⟩,
⟨(some 3), .box 6 (.t 1), none⟩,
⟨(some 4), .assign (.c .nilfn), none⟩])
    (.seq (.region false [] [
⟨(some 5), .mkfn 126 [(.t 2), (.t 3)], none⟩,
⟨(some 4), .assign (.t 5), none⟩])
    (.ret))⟩

def f122 : DFn := ⟨33, [.cell 4 17],
    .seq (.region false [] [
⟨(some 2), .box 17 (.t 0), none⟩,
⟨(some 4), .alloc 17, none⟩])
    (.seq (.seq (.region false [] [
⟨(some 7), .move (.t 1), none⟩,
⟨(some 8), .len 16 (.t 7), none⟩,
⟨(some 9), .move (.c (.int .i64 0)), none⟩])
    (.block 0 (.loop (.seq (.region false [] [
⟨(some 10), .bin .lss 2 (.t 9) (.t 8), none⟩])
    (.seq (.cond (.t 10) (.skip) (.exit 0))
    (.seq (.block 1 (.seq (.region false [] [
⟨(some 11), .iaddr 16 (.t 7) (.t 9), none⟩,
⟨(some 12), .load 17 (.t 11), none⟩,
⟨(some 6), .alloc 17, none⟩,
⟨none, .store 17 (.t 6) (.t 12), none⟩])
    (.seq (.region false [] [
⟨(some 13), .faddr 17 (.t 2) 0, none⟩,
⟨(some 14), .load 2 (.t 13), none⟩,
⟨(some 15), .faddr 17 (.t 6) 0, none⟩,
⟨(some 16), .load 2 (.t 15), none⟩,
⟨(some 17), .mini [(.t 14), (.t 16)], none⟩,
⟨(some 18), .faddr 17 (.t 2) 0, none⟩,
⟨none, .store 2 (.t 18) (.t 17), none⟩])
    (.seq (.region false [] [
⟨(some 19), .faddr 17 (.t 2) 1, none⟩,
⟨(some 20), .load 2 (.t 19), none⟩,
⟨(some 21), .faddr 17 (.t 6) 1, none⟩,
⟨(some 22), .load 2 (.t 21), none⟩,
⟨(some 23), .mini [(.t 20), (.t 22)], none⟩,
⟨(some 24), .faddr 17 (.t 2) 1, none⟩,
⟨none, .store 2 (.t 24) (.t 23), none⟩])
    (.region false [] [
⟨(some 25), .faddr 17 (.t 2) 2, none⟩,
⟨(some 26), .load 2 (.t 25), none⟩,
⟨(some 27), .faddr 17 (.t 6) 2, none⟩,
⟨(some 28), .load 2 (.t 27), none⟩,
⟨(some 29), .mini [(.t 26), (.t 28)], none⟩,
⟨(some 30), .faddr 17 (.t 2) 2, none⟩,
⟨none, .store 2 (.t 30) (.t 29), none⟩])))))
    (.region false [] [
⟨(some 31), .bin .add 2 (.t 9) (.c (.int .i64 1)), none⟩,
⟨(some 9), .move (.t 31), none⟩])))))))
    (.seq (.region false [] [
⟨(some 32), .load 17 (.t 2), none⟩,
⟨none, .store 17 (.t 4) (.t 32), none⟩])
    (.ret)))⟩

def f123 : DFn := ⟨51, [],
    .seq (.region false [] [
⟨(some 10), .load 6 (.t 1), none⟩,
⟨(some 11), .len 6 (.t 10), none⟩,
⟨(some 12), .move (.c (.int .i64 0)), none⟩])
    (.block 0 (.loop (.seq (.region false [] [
⟨(some 13), .bin .lss 2 (.t 12) (.t 11), none⟩])
    (.seq (.cond (.t 13) (.skip) (.exit 0))
    (.seq (.block 1 (.seq (.region false [] [
⟨(some 14), .move (.t 12), none⟩,
⟨(some 15), .iaddr 6 (.t 10) (.t 12), none⟩,
⟨(some 16), .load 2 (.t 15), none⟩,
⟨(some 4), .assign (.t 14), none⟩,
⟨(some 5), .assign (.t 16), none⟩])
    (.seq (.region false [] [
⟨(some 17), .faddr 0 (.t 2) 2, none⟩,
⟨(some 18), .load 14 (.t 17), none⟩,
⟨(some 19), .move (.t 4), none⟩,
⟨(some 20), .iaddr 14 (.t 18) (.t 19), none⟩,
⟨(some 21), .faddr 15 (.t 20) 2, none⟩,
⟨(some 22), .load 6 (.t 21), none⟩,
⟨(some 23), .len 6 (.t 22), none⟩,
⟨(some 24), .move (.c (.int .i64 0)), none⟩])
    (.block 2 (.loop (.seq (.region false [] [
⟨(some 25), .bin .lss 2 (.t 24) (.t 23), none⟩])
    (.seq (.cond (.t 25) (.skip) (.exit 2))
    (.seq (.block 3 (.seq (.region false [] [
⟨(some 26), .iaddr 6 (.t 22) (.t 24), none⟩,
⟨(some 27), .load 2 (.t 26), none⟩,
⟨(some 7), .assign (.t 27), none⟩])
    (.seq (.region false [] [
⟨(some 28), .faddr 0 (.t 2) 2, none⟩,
⟨(some 29), .load 14 (.t 28), none⟩,
⟨(some 30), .move (.t 4), none⟩,
⟨(some 31), .iaddr 14 (.t 29) (.t 30), none⟩,
⟨(some 32), .faddr 15 (.t 31) 3, none⟩,
⟨(some 33), .load 16 (.t 32), none⟩,
⟨(some 34), .move (.t 5), none⟩,
⟨(some 35), .iaddr 16 (.t 33) (.t 34), none⟩,
⟨(some 36), .faddr 17 (.t 35) 3, none⟩,
⟨(some 37), .load 18 (.t 36), none⟩,
⟨(some 38), .len 18 (.t 37), none⟩,
⟨(some 39), .move (.c (.int .i64 0)), none⟩])
    (.block 4 (.loop (.seq (.region false [] [
⟨(some 40), .bin .lss 2 (.t 39) (.t 38), none⟩])
    (.seq (.cond (.t 40) (.skip) (.exit 4))
    (.seq (.block 5 (.seq (.region false [] [
⟨(some 41), .iaddr 18 (.t 37) (.t 39), none⟩,
⟨(some 42), .load 19 (.t 41), none⟩,
⟨(some 9), .alloc 19, none⟩,
⟨none, .store 19 (.t 9) (.t 42), none⟩])
    (.seq (.region false [] [
⟨(some 43), .move (.t 0), none⟩,
⟨(some 44), .move (.t 7), none⟩,
⟨(some 45), .load 19 (.t 9), none⟩,
⟨(some 46), .call 2 (.t 43) [(.t 44), (.t 45)], none⟩,
⟨(some 47), .un .not (.t 46), none⟩])
    (.cond (.t 47) (.ret) (.skip)))))
    (.region false [] [
⟨(some 48), .bin .add 2 (.t 39) (.c (.int .i64 1)), none⟩,
⟨(some 39), .move (.t 48), none⟩])))))))))
    (.region false [] [
⟨(some 49), .bin .add 2 (.t 24) (.c (.int .i64 1)), none⟩,
⟨(some 24), .move (.t 49), none⟩])))))))))
    (.region false [] [
⟨(some 50), .bin .add 2 (.t 12) (.c (.int .i64 1)), none⟩,
⟨(some 12), .move (.t 50), none⟩]))))))⟩

def f126 : DFn := ⟨22, [],
    .seq (.region false [] [
⟨(some 5), .load 6 (.t 1), none⟩,
⟨(some 6), .len 6 (.t 5), none⟩,
⟨(some 7), .move (.c (.int .i64 0)), none⟩])
    (.block 0 (.loop (.seq (.region false [] [
⟨(some 8), .bin .lss 2 (.t 7) (.t 6), none⟩])
    (.seq (.cond (.t 8) (.skip) (.exit 0))
    (.seq (.block 1 (.seq (.region false [] [
⟨(some 9), .move (.t 7), none⟩,
⟨(some 4), .assign (.t 9), none⟩])
    (.seq (.region true [] [
⟨(some 10), .move (.t 0), none⟩,
⟨(some 11), .load 6 (.t 1), none⟩,
⟨(some 12), .move (.t 4), none⟩,
⟨(some 13), .iaddr 6 (.t 11) (.t 12), none⟩,
⟨(some 14), .load 2 (.t 13), none⟩,
⟨(some 15), .load 6 (.t 2), none⟩,
⟨(some 16), .move (.t 4), none⟩,
⟨(some 17), .iaddr 6 (.t 15) (.t 16), none⟩,
⟨(some 18), .load 2 (.t 17), none⟩,
⟨(some 19), .call 2 (.t 10) [(.t 14), (.t 18)], none⟩,
⟨(some 20), .un .not (.t 19), none⟩])
    (.cond (.t 20) (.ret) (.skip)))))
    (.region false [] [
⟨(some 21), .bin .add 2 (.t 7) (.c (.int .i64 1)), none⟩,
⟨(some 7), .move (.t 21), none⟩]))))))⟩

def tyTab : Nat → TI
  | 0 => ⟨.struct [(0, 10), (1, 9), (2, 14)], 3, 72, [(.imm .exact []), (.imm .exact []), (.imm .exact [])], false⟩
  | 1 => ⟨.slice 2, 1, 24, [(.imm .exact [])], false⟩
  | 2 => ⟨.int .i64, 1, 8, [(.int .i64 0)], false⟩
  | 3 => ⟨.int .i64, 1, 8, [(.int .i64 0)], false⟩
  | 4 => ⟨.slice 1, 1, 24, [(.imm .exact [])], false⟩
  | 5 => ⟨.slice 7, 1, 24, [(.imm .exact [])], false⟩
  | 6 => ⟨.slice 2, 1, 24, [(.imm .exact [])], false⟩
  | 7 => ⟨.bool, 1, 1, [(.bool false)], false⟩
  | 8 => ⟨.slice 11, 1, 24, [(.imm .exact [])], false⟩
  | 9 => ⟨.slice 6, 1, 24, [(.imm .exact [])], false⟩
  | 10 => ⟨.slice 20, 1, 24, [(.imm .exact [])], false⟩
  | 11 => ⟨.struct [(0, 2), (1, 2)], 2, 16, [(.int .i64 0), (.int .i64 0)], true⟩
  | 12 => ⟨.int .u64, 1, 8, [(.int .u64 0)], false⟩
  | 13 => ⟨.int .u8, 1, 1, [(.int .u8 0)], false⟩
  | 14 => ⟨.slice 15, 1, 24, [(.imm .exact [])], false⟩
  | 15 => ⟨.struct [(0, 2), (1, 2), (2, 6), (3, 16)], 4, 64, [(.int .i64 0), (.int .i64 0), (.imm .exact []), (.imm .exact [])], false⟩
  | 16 => ⟨.slice 17, 1, 24, [(.imm .exact [])], false⟩
  | 17 => ⟨.struct [(0, 2), (1, 2), (2, 2), (3, 18)], 4, 48, [(.int .i64 0), (.int .i64 0), (.int .i64 0), (.imm .exact [])], false⟩
  | 18 => ⟨.slice 19, 1, 24, [(.imm .exact [])], false⟩
  | 19 => ⟨.struct [(0, 20), (3, 2)], 4, 32, [(.bool false), (.int .i64 0), (.int .i64 0), (.int .i64 0)], true⟩
  | 20 => ⟨.struct [(0, 7), (1, 2), (2, 2)], 3, 24, [(.bool false), (.int .i64 0), (.int .i64 0)], true⟩
  | 21 => ⟨.map 20 7, 1, 8, [(.map none)], false⟩
  | 22 => ⟨.arr 4 2, 4, 32, [(.int .i64 0), (.int .i64 0), (.int .i64 0), (.int .i64 0)], true⟩
  | 23 => ⟨.arr 2 6, 2, 48, [(.imm .exact []), (.imm .exact [])], false⟩
  | 24 => ⟨.slice 23, 1, 24, [(.imm .exact [])], false⟩
  | 25 => ⟨.struct [(0, 0), (3, 1), (4, 2), (5, 9)], 6, 128, [(.imm .exact []), (.imm .exact []), (.imm .exact []), (.imm .exact []), (.int .i64 0), (.imm .exact [])], false⟩
  | 26 => ⟨.map 20 2, 1, 8, [(.map none)], false⟩
  | 27 => ⟨.func, 1, 8, [.nilfn], false⟩
  | _ => ⟨.other, 0, 0, [], false⟩

def fnTab : Nat → Option DFn
  | 0 => some f0
  | 1 => some f1
  | 2 => some f2
  | 3 => some f3
  | 4 => some f4
  | 5 => some f5
  | 7 => some f7
  | 9 => some f9
  | 11 => some f11
  | 14 => some f14
  | 15 => some f15
  | 16 => some f16
  | 17 => some f17
  | 18 => some f18
  | 19 => some f19
  | 20 => some f20
  | 21 => some f21
  | 22 => some f22
  | 23 => some f23
  | 24 => some f24
  | 25 => some f25
  | 26 => some f26
  | 27 => some f27
  | 28 => some f28
  | 29 => some f29
  | 30 => some f30
  | 31 => some f31
  | 32 => some f32
  | 33 => some f33
  | 51 => some f51
  | 52 => some f52
  | 57 => some f57
  | 60 => some f60
  | 61 => some f61
  | 62 => some f62
  | 63 => some f63
  | 64 => some f64
  | 65 => some f65
  | 66 => some f66
  | 67 => some f67
  | 68 => some f68
  | 69 => some f69
  | 70 => some f70
  | 71 => some f71
  | 72 => some f72
  | 73 => some f73
  | 74 => some f74
  | 75 => some f75
  | 76 => some f76
  | 77 => some f77
  | 78 => some f78
  | 79 => some f79
  | 80 => some f80
  | 81 => some f81
  | 82 => some f82
  | 83 => some f83
  | 84 => some f84
  | 85 => some f85
  | 86 => some f86
  | 87 => some f87
  | 101 => some f101
  | 102 => some f102
  | 103 => some f103
  | 104 => some f104
  | 105 => some f105
  | 106 => some f106
  | 107 => some f107
  | 108 => some f108
  | 109 => some f109
  | 110 => some f110
  | 111 => some f111
  | 121 => some f121
  | 122 => some f122
  | 123 => some f123
  | 126 => some f126
  | _ => none

def E : Env := ⟨tyTab, fnTab⟩

end Dv
