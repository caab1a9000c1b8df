/- Texts that a proof of this claim uses, joined: Dv.Code. -/
import Derived.Test.YtffnaiofjjgcgaaDva
set_option linter.all false
/- The code of the functions in the short form, as printed by program from the translation; YtLink.lean ties each to the given program. -/
namespace Dv
open Go (IntKind BinOp UnOp)

def f2 : DFn := ⟨77, [.tmp 2],
    .seq (.region false [] [
⟨(some 1), .box 0 (.t 0), none⟩,
⟨(some 2), .assign (.c (.bool false)), none⟩])
    (.seq (.seq (.region false [] [
⟨(some 7), .faddr 0 (.t 1) 0, none⟩,
⟨(some 8), .load 10 (.t 7), none⟩,
⟨(some 9), .len 10 (.t 8), none⟩,
⟨(some 10), .bin .gtr 2 (.t 9) (.c (.int .i64 12)), none⟩,
⟨(some 11), .move (.t 10), none⟩,
⟨(some 12), .faddr 0 (.t 1) 1, (some (11, false))⟩,
⟨(some 13), .load 9 (.t 12), (some (11, false))⟩,
⟨(some 14), .len 9 (.t 13), (some (11, false))⟩,
⟨(some 15), .bin .gtr 2 (.t 14) (.c (.int .i64 4)), (some (11, false))⟩,
⟨(some 16), .pick (.t 11) (.c (.bool true)) (.t 15), none⟩,
⟨(some 17), .move (.t 16), none⟩,
⟨(some 18), .faddr 0 (.t 1) 2, (some (17, false))⟩,
⟨(some 19), .load 14 (.t 18), (some (17, false))⟩,
⟨(some 20), .len 14 (.t 19), (some (17, false))⟩,
⟨(some 21), .bin .gtr 2 (.t 20) (.c (.int .i64 6)), (some (17, false))⟩,
⟨(some 22), .pick (.t 17) (.c (.bool true)) (.t 21), none⟩])
    (.cond (.t 22) (.seq (.region false [] [
⟨(some 2), .assign (.c (.bool false)), none⟩])
    (.ret)) (.skip)))
    (.seq (.seq (.region false [] [
⟨(some 3), .assign (.c (.int .i64 0)), none⟩])
    (.block 0 (.loop (.seq (.seq (.region false [] [
⟨(some 23), .move (.t 3), none⟩,
⟨(some 24), .faddr 0 (.t 1) 1, none⟩,
⟨(some 25), .load 9 (.t 24), none⟩,
⟨(some 26), .len 9 (.t 25), none⟩,
⟨(some 27), .bin .lss 2 (.t 23) (.t 26), none⟩])
    (.cond (.t 27) (.skip) (.exit 0)))
    (.seq (.block 1 (.seq (.region false [] [
⟨(some 30), .faddr 0 (.t 1) 1, none⟩,
⟨(some 31), .load 9 (.t 30), none⟩,
⟨(some 32), .move (.t 3), none⟩,
⟨(some 33), .iaddr 9 (.t 31) (.t 32), none⟩,
⟨(some 34), .load 6 (.t 33), none⟩,
⟨(some 35), .len 6 (.t 34), none⟩,
⟨(some 36), .bin .gtr 2 (.t 35) (.c (.int .i64 16)), none⟩])
    (.cond (.t 36) (.seq (.region false [] [
⟨(some 2), .assign (.c (.bool false)), none⟩])
    (.ret)) (.skip))))
    (.region false [] [
⟨(some 28), .move (.t 3), none⟩,
⟨(some 29), .bin .add 2 (.t 28) (.c (.int .i64 1)), none⟩,
⟨(some 3), .assign (.t 29), none⟩]))))))
    (.seq (.seq (.region false [] [
⟨(some 4), .assign (.c (.int .i64 0)), none⟩])
    (.block 2 (.loop (.seq (.seq (.region false [] [
⟨(some 37), .move (.t 4), none⟩,
⟨(some 38), .faddr 0 (.t 1) 2, none⟩,
⟨(some 39), .load 14 (.t 38), none⟩,
⟨(some 40), .len 14 (.t 39), none⟩,
⟨(some 41), .bin .lss 2 (.t 37) (.t 40), none⟩])
    (.cond (.t 41) (.skip) (.exit 2)))
    (.seq (.block 3 (.seq (.region false [] [
⟨(some 44), .faddr 0 (.t 1) 2, none⟩,
⟨(some 45), .load 14 (.t 44), none⟩,
⟨(some 46), .move (.t 4), none⟩,
⟨(some 47), .iaddr 14 (.t 45) (.t 46), none⟩,
⟨(some 48), .load 15 (.t 47), none⟩,
⟨(some 5), .alloc 15, none⟩,
⟨none, .store 15 (.t 5) (.t 48), none⟩])
    (.seq (.seq (.region false [] [
⟨(some 49), .faddr 15 (.t 5) 2, none⟩,
⟨(some 50), .load 6 (.t 49), none⟩,
⟨(some 51), .len 6 (.t 50), none⟩,
⟨(some 52), .bin .gtr 2 (.t 51) (.c (.int .i64 8)), none⟩,
⟨(some 53), .move (.t 52), none⟩,
⟨(some 54), .faddr 15 (.t 5) 3, (some (53, false))⟩,
⟨(some 55), .load 16 (.t 54), (some (53, false))⟩,
⟨(some 56), .len 16 (.t 55), (some (53, false))⟩,
⟨(some 57), .bin .gtr 2 (.t 56) (.c (.int .i64 8)), (some (53, false))⟩,
⟨(some 58), .pick (.t 53) (.c (.bool true)) (.t 57), none⟩])
    (.cond (.t 58) (.seq (.region false [] [
⟨(some 2), .assign (.c (.bool false)), none⟩])
    (.ret)) (.skip)))
    (.seq (.region false [] [
⟨(some 6), .assign (.c (.int .i64 0)), none⟩])
    (.block 4 (.loop (.seq (.seq (.region false [] [
⟨(some 59), .move (.t 6), none⟩,
⟨(some 60), .faddr 15 (.t 5) 3, none⟩,
⟨(some 61), .load 16 (.t 60), none⟩,
⟨(some 62), .len 16 (.t 61), none⟩,
⟨(some 63), .bin .lss 2 (.t 59) (.t 62), none⟩])
    (.cond (.t 63) (.skip) (.exit 4)))
    (.seq (.block 5 (.seq (.region false [] [
⟨(some 66), .faddr 15 (.t 5) 3, none⟩,
⟨(some 67), .load 16 (.t 66), none⟩,
⟨(some 68), .move (.t 6), none⟩,
⟨(some 69), .iaddr 16 (.t 67) (.t 68), none⟩,
⟨(some 70), .faddr 17 (.t 69) 3, none⟩,
⟨(some 71), .load 18 (.t 70), none⟩,
⟨(some 72), .len 18 (.t 71), none⟩,
⟨(some 73), .bin .gtr 2 (.t 72) (.c (.int .i64 12)), none⟩])
    (.cond (.t 73) (.seq (.region false [] [
⟨(some 2), .assign (.c (.bool false)), none⟩])
    (.ret)) (.skip))))
    (.region false [] [
⟨(some 64), .move (.t 6), none⟩,
⟨(some 65), .bin .add 2 (.t 64) (.c (.int .i64 1)), none⟩,
⟨(some 6), .assign (.t 65), none⟩])))))))))
    (.region false [] [
⟨(some 42), .move (.t 4), none⟩,
⟨(some 43), .bin .add 2 (.t 42) (.c (.int .i64 1)), none⟩,
⟨(some 4), .assign (.t 43), none⟩]))))))
    (.seq (.region false [] [
⟨(some 74), .load 0 (.t 1), none⟩,
⟨(some 75), .call 0 (.f 61) [(.t 74), (.c (.int .i64 2000))], none⟩,
⟨(some 76), .bin .lss 2 (.t 75) (.c (.int .i64 2000)), none⟩,
⟨(some 2), .assign (.t 76), none⟩])
    (.ret)))))⟩

def f15 : DFn := ⟨173, [.tmp 2],
    .seq (.region false [] [
⟨(some 1), .box 0 (.t 0), none⟩,
⟨(some 2), .assign (.c (.int .i64 0)), none⟩])
    (.seq (.seq (.region false [] [
⟨(some 15), .faddr 0 (.t 1) 0, none⟩,
⟨(some 16), .load 10 (.t 15), none⟩,
⟨(some 17), .len 10 (.t 16), none⟩,
⟨(some 18), .bin .gtr 2 (.t 17) (.c (.int .i64 4096)), none⟩,
⟨(some 19), .move (.t 18), none⟩,
⟨(some 20), .faddr 0 (.t 1) 1, (some (19, false))⟩,
⟨(some 21), .load 9 (.t 20), (some (19, false))⟩,
⟨(some 22), .len 9 (.t 21), (some (19, false))⟩,
⟨(some 23), .call 0 (.f 67) [(.t 22), (.c (.int .i64 1)), (.c (.int .i64 32))], (some (19, false))⟩,
⟨(some 24), .un .not (.t 23), (some (19, false))⟩,
⟨(some 25), .pick (.t 19) (.c (.bool true)) (.t 24), none⟩,
⟨(some 26), .move (.t 25), none⟩,
⟨(some 27), .faddr 0 (.t 1) 2, (some (26, false))⟩,
⟨(some 28), .load 14 (.t 27), (some (26, false))⟩,
⟨(some 29), .len 14 (.t 28), (some (26, false))⟩,
⟨(some 30), .bin .gtr 2 (.t 29) (.c (.int .i64 64)), (some (26, false))⟩,
⟨(some 31), .pick (.t 26) (.c (.bool true)) (.t 30), none⟩,
⟨(some 32), .move (.t 31), none⟩,
⟨(some 33), .faddr 0 (.t 1) 0, (some (32, false))⟩,
⟨(some 34), .load 10 (.t 33), (some (32, false))⟩,
⟨(some 35), .call 0 (.f 69) [(.t 34), (.f 70)], (some (32, false))⟩,
⟨(some 36), .un .not (.t 35), (some (32, false))⟩,
⟨(some 37), .pick (.t 32) (.c (.bool true)) (.t 36), none⟩])
    (.cond (.t 37) (.seq (.region false [] [
⟨(some 2), .assign (.c (.int .i64 270)), none⟩])
    (.ret)) (.skip)))
    (.seq (.region false [] [
⟨(some 38), .mkmap 21, none⟩,
⟨(some 3), .assign (.t 38), none⟩])
    (.seq (.seq (.region false [] [
⟨(some 39), .faddr 0 (.t 1) 0, none⟩,
⟨(some 40), .load 10 (.t 39), none⟩,
⟨(some 41), .len 10 (.t 40), none⟩,
⟨(some 42), .move (.c (.int .i64 0)), none⟩])
    (.block 0 (.loop (.seq (.region false [] [
⟨(some 43), .bin .lss 2 (.t 42) (.t 41), none⟩])
    (.seq (.cond (.t 43) (.skip) (.exit 0))
    (.seq (.block 1 (.seq (.region false [] [
⟨(some 44), .iaddr 10 (.t 40) (.t 42), none⟩,
⟨(some 45), .load 20 (.t 44), none⟩,
⟨(some 5), .alloc 20, none⟩,
⟨none, .store 20 (.t 5) (.t 45), none⟩])
    (.seq (.seq (.region false [] [
⟨(some 46), .faddr 20 (.t 5) 1, none⟩,
⟨(some 47), .load 2 (.t 46), none⟩,
⟨(some 48), .bin .lss 2 (.t 47) (.c (.int .i64 0)), none⟩,
⟨(some 49), .move (.t 48), none⟩,
⟨(some 50), .faddr 20 (.t 5) 2, (some (49, false))⟩,
⟨(some 51), .load 2 (.t 50), (some (49, false))⟩,
⟨(some 52), .bin .lss 2 (.t 51) (.c (.int .i64 0)), (some (49, false))⟩,
⟨(some 53), .pick (.t 49) (.c (.bool true)) (.t 52), none⟩])
    (.cond (.t 53) (.seq (.region false [] [
⟨(some 2), .assign (.c (.int .i64 270)), none⟩])
    (.ret)) (.skip)))
    (.region false [] [
⟨(some 54), .move (.t 3), none⟩,
⟨(some 55), .load 20 (.t 5), none⟩,
⟨none, .mapset 21 (.t 54) (.t 55) (.c (.bool true)), none⟩]))))
    (.region false [] [
⟨(some 56), .bin .add 2 (.t 42) (.c (.int .i64 1)), none⟩,
⟨(some 42), .move (.t 56), none⟩])))))))
    (.seq (.seq (.region false [] [
⟨(some 57), .faddr 0 (.t 1) 1, none⟩,
⟨(some 58), .load 9 (.t 57), none⟩,
⟨(some 59), .len 9 (.t 58), none⟩,
⟨(some 60), .move (.c (.int .i64 0)), none⟩])
    (.block 2 (.loop (.seq (.region false [] [
⟨(some 61), .bin .lss 2 (.t 60) (.t 59), none⟩])
    (.seq (.cond (.t 61) (.skip) (.exit 2))
    (.seq (.block 3 (.seq (.region false [] [
⟨(some 62), .iaddr 9 (.t 58) (.t 60), none⟩,
⟨(some 63), .load 6 (.t 62), none⟩,
⟨(some 7), .assign (.t 63), none⟩])
    (.seq (.region false [] [
⟨(some 64), .move (.t 7), none⟩,
⟨(some 65), .len 6 (.t 64), none⟩,
⟨(some 66), .faddr 0 (.t 1) 0, none⟩,
⟨(some 67), .load 10 (.t 66), none⟩,
⟨(some 68), .len 10 (.t 67), none⟩,
⟨(some 69), .bin .neq 2 (.t 65) (.t 68), none⟩,
⟨(some 70), .move (.t 69), none⟩,
⟨(some 71), .move (.t 7), (some (70, false))⟩,
⟨(some 72), .call 0 (.f 71) [(.t 71), (.f 72)], (some (70, false))⟩,
⟨(some 73), .pick (.t 70) (.c (.bool true)) (.t 72), none⟩])
    (.cond (.t 73) (.seq (.region false [] [
⟨(some 2), .assign (.c (.int .i64 270)), none⟩])
    (.ret)) (.skip)))))
    (.region false [] [
⟨(some 74), .bin .add 2 (.t 60) (.c (.int .i64 1)), none⟩,
⟨(some 60), .move (.t 74), none⟩])))))))
    (.seq (.seq (.region false [] [
⟨(some 75), .faddr 0 (.t 1) 2, none⟩,
⟨(some 76), .load 14 (.t 75), none⟩,
⟨(some 77), .len 14 (.t 76), none⟩,
⟨(some 78), .move (.c (.int .i64 0)), none⟩])
    (.block 4 (.loop (.seq (.region false [] [
⟨(some 79), .bin .lss 2 (.t 78) (.t 77), none⟩])
    (.seq (.cond (.t 79) (.skip) (.exit 4))
    (.seq (.block 5 (.seq (.region false [] [
⟨(some 80), .iaddr 14 (.t 76) (.t 78), none⟩,
⟨(some 81), .load 15 (.t 80), none⟩,
⟨(some 9), .alloc 15, none⟩,
⟨none, .store 15 (.t 9) (.t 81), none⟩])
    (.seq (.seq (.region true [] [
⟨(some 82), .faddr 15 (.t 9) 2, none⟩,
⟨(some 83), .load 6 (.t 82), none⟩,
⟨(some 84), .len 6 (.t 83), none⟩,
⟨(some 85), .bin .eql 2 (.t 84) (.c (.int .i64 0)), none⟩,
⟨(some 86), .move (.t 85), none⟩,
⟨(some 87), .faddr 15 (.t 9) 3, (some (86, false))⟩,
⟨(some 88), .load 16 (.t 87), (some (86, false))⟩,
⟨(some 89), .len 16 (.t 88), (some (86, false))⟩,
⟨(some 90), .call 0 (.f 67) [(.t 89), (.c (.int .i64 1)), (.c (.int .i64 96))], (some (86, false))⟩,
⟨(some 91), .un .not (.t 90), (some (86, false))⟩,
⟨(some 92), .pick (.t 86) (.c (.bool true)) (.t 91), none⟩,
⟨(some 93), .move (.t 92), none⟩,
⟨(some 94), .faddr 15 (.t 9) 2, (some (93, false))⟩,
⟨(some 95), .load 6 (.t 94), (some (93, false))⟩,
⟨(some 96), .call 0 (.f 73) [(.t 95), (.f 74)], (some (93, false))⟩,
⟨(some 97), .un .not (.t 96), (some (93, false))⟩,
⟨(some 98), .pick (.t 93) (.c (.bool true)) (.t 97), none⟩,
⟨(some 99), .move (.t 98), none⟩,
⟨(some 100), .faddr 15 (.t 9) 2, (some (99, false))⟩,
⟨(some 101), .load 6 (.t 100), (some (99, false))⟩,
⟨(some 102), .iaddr 6 (.t 101) (.c (.int .i64 0)), (some (99, false))⟩,
⟨(some 103), .load 2 (.t 102), (some (99, false))⟩,
⟨(some 104), .bin .lss 2 (.t 103) (.c (.int .i64 0)), (some (99, false))⟩,
⟨(some 105), .pick (.t 99) (.c (.bool true)) (.t 104), none⟩,
⟨(some 106), .move (.t 105), none⟩,
⟨(some 107), .faddr 15 (.t 9) 2, (some (106, false))⟩,
⟨(some 108), .load 6 (.t 107), (some (106, false))⟩,
⟨(some 109), .faddr 15 (.t 9) 2, (some (106, false))⟩,
⟨(some 110), .load 6 (.t 109), (some (106, false))⟩,
⟨(some 111), .len 6 (.t 110), (some (106, false))⟩,
⟨(some 112), .bin .sub 2 (.t 111) (.c (.int .i64 1)), (some (106, false))⟩,
⟨(some 113), .iaddr 6 (.t 108) (.t 112), (some (106, false))⟩,
⟨(some 114), .load 2 (.t 113), (some (106, false))⟩,
⟨(some 115), .faddr 0 (.t 1) 1, (some (106, false))⟩,
⟨(some 116), .load 9 (.t 115), (some (106, false))⟩,
⟨(some 117), .len 9 (.t 116), (some (106, false))⟩,
⟨(some 118), .bin .geq 2 (.t 114) (.t 117), (some (106, false))⟩,
⟨(some 119), .pick (.t 106) (.c (.bool true)) (.t 118), none⟩])
    (.cond (.t 119) (.seq (.region false [] [
⟨(some 2), .assign (.c (.int .i64 270)), none⟩])
    (.ret)) (.skip)))
    (.seq (.region false [] [
⟨(some 120), .faddr 15 (.t 9) 3, none⟩,
⟨(some 121), .load 16 (.t 120), none⟩,
⟨(some 122), .len 16 (.t 121), none⟩,
⟨(some 123), .move (.c (.int .i64 0)), none⟩])
    (.block 6 (.loop (.seq (.region false [] [
⟨(some 124), .bin .lss 2 (.t 123) (.t 122), none⟩])
    (.seq (.cond (.t 124) (.skip) (.exit 6))
    (.seq (.block 7 (.seq (.region false [] [
⟨(some 125), .iaddr 16 (.t 121) (.t 123), none⟩,
⟨(some 126), .load 17 (.t 125), none⟩,
⟨(some 11), .alloc 17, none⟩,
⟨none, .store 17 (.t 11) (.t 126), none⟩])
    (.seq (.region false [] [
⟨(some 12), .assign (.c (.int .i64 1048576)), none⟩])
    (.seq (.seq (.region false [] [
⟨(some 127), .faddr 17 (.t 11) 0, none⟩,
⟨(some 128), .load 2 (.t 127), none⟩,
⟨(some 129), .move (.t 12), none⟩,
⟨(some 130), .call 0 (.f 67) [(.t 128), (.c (.int .i64 0)), (.t 129)], none⟩,
⟨(some 131), .un .not (.t 130), none⟩,
⟨(some 132), .move (.t 131), none⟩,
⟨(some 133), .faddr 17 (.t 11) 1, (some (132, false))⟩,
⟨(some 134), .load 2 (.t 133), (some (132, false))⟩,
⟨(some 135), .move (.t 12), (some (132, false))⟩,
⟨(some 136), .call 0 (.f 67) [(.t 134), (.c (.int .i64 0)), (.t 135)], (some (132, false))⟩,
⟨(some 137), .un .not (.t 136), (some (132, false))⟩,
⟨(some 138), .pick (.t 132) (.c (.bool true)) (.t 137), none⟩,
⟨(some 139), .move (.t 138), none⟩,
⟨(some 140), .faddr 17 (.t 11) 2, (some (139, false))⟩,
⟨(some 141), .load 2 (.t 140), (some (139, false))⟩,
⟨(some 142), .move (.t 12), (some (139, false))⟩,
⟨(some 143), .call 0 (.f 67) [(.t 141), (.c (.int .i64 0)), (.t 142)], (some (139, false))⟩,
⟨(some 144), .un .not (.t 143), (some (139, false))⟩,
⟨(some 145), .pick (.t 139) (.c (.bool true)) (.t 144), none⟩,
⟨(some 146), .move (.t 145), none⟩,
⟨(some 147), .faddr 17 (.t 11) 3, (some (146, false))⟩,
⟨(some 148), .load 18 (.t 147), (some (146, false))⟩,
⟨(some 149), .call 0 (.f 75) [(.t 148), (.f 76)], (some (146, false))⟩,
⟨(some 150), .un .not (.t 149), (some (146, false))⟩,
⟨(some 151), .pick (.t 146) (.c (.bool true)) (.t 150), none⟩])
    (.cond (.t 151) (.seq (.region false [] [
⟨(some 2), .assign (.c (.int .i64 270)), none⟩])
    (.ret)) (.skip)))
    (.seq (.region false [] [
⟨(some 152), .faddr 17 (.t 11) 3, none⟩,
⟨(some 153), .load 18 (.t 152), none⟩,
⟨(some 154), .len 18 (.t 153), none⟩,
⟨(some 155), .move (.c (.int .i64 0)), none⟩])
    (.block 8 (.loop (.seq (.region false [] [
⟨(some 156), .bin .lss 2 (.t 155) (.t 154), none⟩])
    (.seq (.cond (.t 156) (.skip) (.exit 8))
    (.seq (.block 9 (.seq (.region false [] [
⟨(some 157), .iaddr 18 (.t 153) (.t 155), none⟩,
⟨(some 158), .load 19 (.t 157), none⟩,
⟨(some 14), .alloc 19, none⟩,
⟨none, .store 19 (.t 14) (.t 158), none⟩])
    (.seq (.region false [] [
⟨(some 159), .move (.t 3), none⟩,
⟨(some 160), .faddr 19 (.t 14) 0, none⟩,
⟨(some 161), .load 20 (.t 160), none⟩,
⟨(some 162), .lookup 21 (.t 159) (.t 161) false, none⟩,
⟨(some 163), .un .not (.t 162), none⟩,
⟨(some 164), .move (.t 163), none⟩,
⟨(some 165), .faddr 19 (.t 14) 1, (some (164, false))⟩,
⟨(some 166), .load 2 (.t 165), (some (164, false))⟩,
⟨(some 167), .call 0 (.f 67) [(.t 166), (.c (.int .i64 1)), (.c (.int .i64 8))], (some (164, false))⟩,
⟨(some 168), .un .not (.t 167), (some (164, false))⟩,
⟨(some 169), .pick (.t 164) (.c (.bool true)) (.t 168), none⟩])
    (.cond (.t 169) (.seq (.region false [] [
⟨(some 2), .assign (.c (.int .i64 270)), none⟩])
    (.ret)) (.skip)))))
    (.region false [] [
⟨(some 170), .bin .add 2 (.t 155) (.c (.int .i64 1)), none⟩,
⟨(some 155), .move (.t 170), none⟩])))))))))))
    (.region false [] [
⟨(some 171), .bin .add 2 (.t 123) (.c (.int .i64 1)), none⟩,
⟨(some 123), .move (.t 171), none⟩]))))))))))
    (.region false [] [
⟨(some 172), .bin .add 2 (.t 78) (.c (.int .i64 1)), none⟩,
⟨(some 78), .move (.t 172), none⟩])))))))
    (.seq (.region false [] [
⟨(some 2), .assign (.c (.int .i64 0)), none⟩])
    (.ret)))))))⟩

def f19 : DFn := ⟨120, [.tmp 2],
    .seq (.region false [] [
⟨(some 1), .box 0 (.t 0), none⟩,
⟨(some 2), .assign (.c (.int .i64 0)), none⟩])
    (.seq (.seq (.region false [] [
⟨(some 7), .faddr 0 (.t 1) 0, none⟩,
⟨(some 8), .load 10 (.t 7), none⟩,
⟨(some 9), .len 10 (.t 8), none⟩,
⟨(some 10), .bin .gtr 2 (.t 9) (.c (.int .i64 4096)), none⟩,
⟨(some 11), .move (.t 10), none⟩,
⟨(some 12), .faddr 0 (.t 1) 1, (some (11, false))⟩,
⟨(some 13), .load 9 (.t 12), (some (11, false))⟩,
⟨(some 14), .len 9 (.t 13), (some (11, false))⟩,
⟨(some 15), .bin .lss 2 (.t 14) (.c (.int .i64 1)), (some (11, false))⟩,
⟨(some 16), .pick (.t 11) (.c (.bool true)) (.t 15), none⟩,
⟨(some 17), .move (.t 16), none⟩,
⟨(some 18), .faddr 0 (.t 1) 1, (some (17, false))⟩,
⟨(some 19), .load 9 (.t 18), (some (17, false))⟩,
⟨(some 20), .len 9 (.t 19), (some (17, false))⟩,
⟨(some 21), .bin .gtr 2 (.t 20) (.c (.int .i64 32)), (some (17, false))⟩,
⟨(some 22), .pick (.t 17) (.c (.bool true)) (.t 21), none⟩,
⟨(some 23), .move (.t 22), none⟩,
⟨(some 24), .faddr 0 (.t 1) 2, (some (23, false))⟩,
⟨(some 25), .load 14 (.t 24), (some (23, false))⟩,
⟨(some 26), .len 14 (.t 25), (some (23, false))⟩,
⟨(some 27), .bin .gtr 2 (.t 26) (.c (.int .i64 64)), (some (23, false))⟩,
⟨(some 28), .pick (.t 23) (.c (.bool true)) (.t 27), none⟩])
    (.cond (.t 28) (.seq (.region false [] [
⟨(some 2), .assign (.c (.int .i64 270)), none⟩])
    (.ret)) (.skip)))
    (.seq (.seq (.region false [] [
⟨(some 3), .assign (.c (.int .i64 0)), none⟩])
    (.block 0 (.loop (.seq (.seq (.region false [] [
⟨(some 29), .move (.t 3), none⟩,
⟨(some 30), .faddr 0 (.t 1) 0, none⟩,
⟨(some 31), .load 10 (.t 30), none⟩,
⟨(some 32), .len 10 (.t 31), none⟩,
⟨(some 33), .bin .lss 2 (.t 29) (.t 32), none⟩])
    (.cond (.t 33) (.skip) (.exit 0)))
    (.seq (.block 1 (.seq (.region true [] [
⟨(some 36), .faddr 0 (.t 1) 0, none⟩,
⟨(some 37), .load 10 (.t 36), none⟩,
⟨(some 38), .move (.t 3), none⟩,
⟨(some 39), .iaddr 10 (.t 37) (.t 38), none⟩,
⟨(some 40), .faddr 20 (.t 39) 1, none⟩,
⟨(some 41), .load 2 (.t 40), none⟩,
⟨(some 42), .bin .lss 2 (.t 41) (.c (.int .i64 0)), none⟩,
⟨(some 43), .move (.t 42), none⟩,
⟨(some 44), .faddr 0 (.t 1) 0, (some (43, false))⟩,
⟨(some 45), .load 10 (.t 44), (some (43, false))⟩,
⟨(some 46), .move (.t 3), (some (43, false))⟩,
⟨(some 47), .iaddr 10 (.t 45) (.t 46), (some (43, false))⟩,
⟨(some 48), .faddr 20 (.t 47) 2, (some (43, false))⟩,
⟨(some 49), .load 2 (.t 48), (some (43, false))⟩,
⟨(some 50), .bin .lss 2 (.t 49) (.c (.int .i64 0)), (some (43, false))⟩,
⟨(some 51), .pick (.t 43) (.c (.bool true)) (.t 50), none⟩,
⟨(some 52), .move (.t 51), none⟩,
⟨(some 53), .move (.t 3), (some (52, false))⟩,
⟨(some 54), .bin .gtr 2 (.t 53) (.c (.int .i64 0)), (some (52, false))⟩,
⟨(some 55), .move (.t 54), (some (52, false))⟩,
⟨(some 56), .faddr 0 (.t 1) 0, (some (55, true))⟩,
⟨(some 57), .load 10 (.t 56), (some (55, true))⟩,
⟨(some 58), .move (.t 3), (some (55, true))⟩,
⟨(some 59), .bin .sub 2 (.t 58) (.c (.int .i64 1)), (some (55, true))⟩,
⟨(some 60), .iaddr 10 (.t 57) (.t 59), (some (55, true))⟩,
⟨(some 61), .load 20 (.t 60), (some (55, true))⟩,
⟨(some 62), .faddr 0 (.t 1) 0, (some (55, true))⟩,
⟨(some 63), .load 10 (.t 62), (some (55, true))⟩,
⟨(some 64), .move (.t 3), (some (55, true))⟩,
⟨(some 65), .iaddr 10 (.t 63) (.t 64), (some (55, true))⟩,
⟨(some 66), .load 20 (.t 65), (some (55, true))⟩,
⟨(some 67), .call 0 (.f 81) [(.t 61), (.t 66)], (some (55, true))⟩,
⟨(some 68), .un .not (.t 67), (some (55, true))⟩,
⟨(some 69), .pick (.t 55) (.t 68) (.c (.bool false)), (some (52, false))⟩,
⟨(some 70), .pick (.t 52) (.c (.bool true)) (.t 69), none⟩])
    (.cond (.t 70) (.seq (.region false [] [
⟨(some 2), .assign (.c (.int .i64 270)), none⟩])
    (.ret)) (.skip))))
    (.region false [] [
⟨(some 34), .move (.t 3), none⟩,
⟨(some 35), .bin .add 2 (.t 34) (.c (.int .i64 1)), none⟩,
⟨(some 3), .assign (.t 35), none⟩]))))))
    (.seq (.seq (.region false [] [
⟨(some 4), .assign (.c (.int .i64 0)), none⟩])
    (.block 2 (.loop (.seq (.seq (.region false [] [
⟨(some 71), .move (.t 4), none⟩,
⟨(some 72), .faddr 0 (.t 1) 1, none⟩,
⟨(some 73), .load 9 (.t 72), none⟩,
⟨(some 74), .len 9 (.t 73), none⟩,
⟨(some 75), .bin .lss 2 (.t 71) (.t 74), none⟩])
    (.cond (.t 75) (.skip) (.exit 2)))
    (.seq (.block 3 (.seq (.seq (.region true [] [
⟨(some 78), .faddr 0 (.t 1) 1, none⟩,
⟨(some 79), .load 9 (.t 78), none⟩,
⟨(some 80), .move (.t 4), none⟩,
⟨(some 81), .iaddr 9 (.t 79) (.t 80), none⟩,
⟨(some 82), .load 6 (.t 81), none⟩,
⟨(some 83), .len 6 (.t 82), none⟩,
⟨(some 84), .faddr 0 (.t 1) 0, none⟩,
⟨(some 85), .load 10 (.t 84), none⟩,
⟨(some 86), .len 10 (.t 85), none⟩,
⟨(some 87), .bin .neq 2 (.t 83) (.t 86), none⟩])
    (.cond (.t 87) (.seq (.region false [] [
⟨(some 2), .assign (.c (.int .i64 270)), none⟩])
    (.ret)) (.skip)))
    (.seq (.region false [] [
⟨(some 5), .assign (.c (.int .i64 0)), none⟩])
    (.block 4 (.loop (.seq (.seq (.region false [] [
⟨(some 88), .move (.t 5), none⟩,
⟨(some 89), .faddr 0 (.t 1) 0, none⟩,
⟨(some 90), .load 10 (.t 89), none⟩,
⟨(some 91), .len 10 (.t 90), none⟩,
⟨(some 92), .bin .lss 2 (.t 88) (.t 91), none⟩])
    (.cond (.t 92) (.skip) (.exit 4)))
    (.seq (.block 5 (.seq (.region false [] [
⟨(some 95), .faddr 0 (.t 1) 1, none⟩,
⟨(some 96), .load 9 (.t 95), none⟩,
⟨(some 97), .move (.t 4), none⟩,
⟨(some 98), .iaddr 9 (.t 96) (.t 97), none⟩,
⟨(some 99), .load 6 (.t 98), none⟩,
⟨(some 100), .move (.t 5), none⟩,
⟨(some 101), .iaddr 6 (.t 99) (.t 100), none⟩,
⟨(some 102), .load 2 (.t 101), none⟩,
⟨(some 103), .call 0 (.f 79) [(.t 102), (.c (.int .i64 0)), (.c (.int .i64 4096))], none⟩,
⟨(some 104), .un .not (.t 103), none⟩])
    (.cond (.t 104) (.seq (.region false [] [
⟨(some 2), .assign (.c (.int .i64 270)), none⟩])
    (.ret)) (.skip))))
    (.region false [] [
⟨(some 93), .move (.t 5), none⟩,
⟨(some 94), .bin .add 2 (.t 93) (.c (.int .i64 1)), none⟩,
⟨(some 5), .assign (.t 94), none⟩]))))))))
    (.region false [] [
⟨(some 76), .move (.t 4), none⟩,
⟨(some 77), .bin .add 2 (.t 76) (.c (.int .i64 1)), none⟩,
⟨(some 4), .assign (.t 77), none⟩]))))))
    (.seq (.seq (.region false [] [
⟨(some 6), .assign (.c (.int .i64 0)), none⟩])
    (.block 6 (.loop (.seq (.seq (.region false [] [
⟨(some 105), .move (.t 6), none⟩,
⟨(some 106), .faddr 0 (.t 1) 2, none⟩,
⟨(some 107), .load 14 (.t 106), none⟩,
⟨(some 108), .len 14 (.t 107), none⟩,
⟨(some 109), .bin .lss 2 (.t 105) (.t 108), none⟩])
    (.cond (.t 109) (.skip) (.exit 6)))
    (.seq (.block 7 (.seq (.region true [] [
⟨(some 112), .load 0 (.t 1), none⟩,
⟨(some 113), .faddr 0 (.t 1) 2, none⟩,
⟨(some 114), .load 14 (.t 113), none⟩,
⟨(some 115), .move (.t 6), none⟩,
⟨(some 116), .iaddr 14 (.t 114) (.t 115), none⟩,
⟨(some 117), .load 15 (.t 116), none⟩,
⟨(some 118), .call 0 (.f 82) [(.t 112), (.t 117)], none⟩,
⟨(some 119), .un .not (.t 118), none⟩])
    (.cond (.t 119) (.seq (.region false [] [
⟨(some 2), .assign (.c (.int .i64 270)), none⟩])
    (.ret)) (.skip))))
    (.region false [] [
⟨(some 110), .move (.t 6), none⟩,
⟨(some 111), .bin .add 2 (.t 110) (.c (.int .i64 1)), none⟩,
⟨(some 6), .assign (.t 111), none⟩]))))))
    (.seq (.region false [] [
⟨(some 2), .assign (.c (.int .i64 0)), none⟩])
    (.ret))))))⟩

def f20 : DFn := ⟨26, [.tmp 4],
    .seq (.region false [] [
⟨(some 4), .assign (.c (.bool false)), none⟩])
    (.seq (.seq (.region false [] [
⟨(some 6), .move (.t 0), none⟩,
⟨(some 7), .len 6 (.t 6), none⟩,
⟨(some 8), .move (.t 1), none⟩,
⟨(some 9), .len 6 (.t 8), none⟩,
⟨(some 10), .bin .neq 2 (.t 7) (.t 9), none⟩])
    (.cond (.t 10) (.seq (.region false [] [
⟨(some 4), .assign (.c (.bool false)), none⟩])
    (.ret)) (.skip)))
    (.seq (.seq (.region false [] [
⟨(some 5), .assign (.c (.int .i64 0)), none⟩])
    (.block 0 (.loop (.seq (.seq (.region false [] [
⟨(some 11), .move (.t 5), none⟩,
⟨(some 12), .move (.t 0), none⟩,
⟨(some 13), .len 6 (.t 12), none⟩,
⟨(some 14), .bin .lss 2 (.t 11) (.t 13), none⟩])
    (.cond (.t 14) (.skip) (.exit 0)))
    (.seq (.block 1 (.seq (.region true [] [
⟨(some 17), .move (.t 0), none⟩,
⟨(some 18), .move (.t 5), none⟩,
⟨(some 19), .iaddr 6 (.t 17) (.t 18), none⟩,
⟨(some 20), .load 2 (.t 19), none⟩,
⟨(some 21), .move (.t 1), none⟩,
⟨(some 22), .move (.t 5), none⟩,
⟨(some 23), .iaddr 6 (.t 21) (.t 22), none⟩,
⟨(some 24), .load 2 (.t 23), none⟩,
⟨(some 25), .bin .neq 2 (.t 20) (.t 24), none⟩])
    (.cond (.t 25) (.seq (.region false [] [
⟨(some 4), .assign (.c (.bool false)), none⟩])
    (.ret)) (.skip))))
    (.region false [] [
⟨(some 15), .move (.t 5), none⟩,
⟨(some 16), .bin .add 2 (.t 15) (.c (.int .i64 1)), none⟩,
⟨(some 5), .assign (.t 16), none⟩]))))))
    (.seq (.region false [] [
⟨(some 4), .assign (.c (.bool true)), none⟩])
    (.ret))))⟩

def f35 : DFn := ⟨198, [.tmp 0],
    .seq (.region false [] [
⟨(some 0), .assign (.c (.bool false)), none⟩])
    (.seq (.region false [] [
⟨(some 28), .call 0 (.f 88) [], none⟩,
⟨(some 1), .alloc 0, none⟩,
⟨none, .store 0 (.t 1) (.t 28), none⟩])
    (.seq (.region false [] [
⟨(some 29), .bslice false 6 1 [(0, (.c (.int .i64 0)))], none⟩,
⟨(some 30), .bslice false 9 1 [(0, (.t 29))], none⟩,
⟨(some 31), .bslice false 6 1 [(0, (.c (.int .i64 3)))], none⟩,
⟨(some 32), .bslice false 9 1 [(0, (.t 31))], none⟩,
⟨(some 2), .assign (.t 30), none⟩,
⟨(some 3), .assign (.t 32), none⟩])
    (.seq (.region false [] [
⟨(some 34), .load 0 (.t 1), none⟩,
⟨(some 35), .move (.t 2), none⟩,
⟨(some 36), .call 0 (.f 37) [(.t 34), (.c (.imm .exact [])), (.c (.int .i64 60)), (.t 35)], none⟩,
⟨(some 33), .move (.t 36), none⟩,
⟨(some 37), .extract (.t 33) 0, none⟩,
⟨(some 38), .extract (.t 33) 1, none⟩,
⟨(some 39), .extract (.t 33) 2, none⟩,
⟨(some 4), .assign (.t 37), none⟩,
⟨(some 5), .assign (.t 38), none⟩,
⟨(some 6), .assign (.t 39), none⟩])
    (.seq (.region false [] [
⟨(some 41), .load 0 (.t 1), none⟩,
⟨(some 42), .move (.t 3), none⟩,
⟨(some 43), .call 0 (.f 37) [(.t 41), (.c (.imm .exact [])), (.c (.int .i64 60)), (.t 42)], none⟩,
⟨(some 40), .move (.t 43), none⟩,
⟨(some 44), .extract (.t 40) 0, none⟩,
⟨(some 45), .extract (.t 40) 1, none⟩,
⟨(some 46), .extract (.t 40) 2, none⟩,
⟨(some 7), .assign (.t 44), none⟩,
⟨(some 8), .assign (.t 45), none⟩,
⟨(some 9), .assign (.t 46), none⟩])
    (.seq (.region false [] [
⟨(some 48), .load 0 (.t 1), none⟩,
⟨(some 49), .bslice false 1 1 [(0, (.c (.int .i64 1)))], none⟩,
⟨(some 50), .move (.t 2), none⟩,
⟨(some 51), .call 0 (.f 37) [(.t 48), (.t 49), (.c (.int .i64 9)), (.t 50)], none⟩,
⟨(some 47), .move (.t 51), none⟩,
⟨(some 52), .extract (.t 47) 0, none⟩,
⟨(some 53), .extract (.t 47) 1, none⟩,
⟨(some 54), .extract (.t 47) 2, none⟩,
⟨(some 10), .assign (.t 52), none⟩,
⟨(some 11), .assign (.t 53), none⟩,
⟨(some 12), .assign (.t 54), none⟩])
    (.seq (.region false [] [
⟨(some 56), .load 0 (.t 1), none⟩,
⟨(some 57), .bslice false 6 1 [(0, (.c (.int .i64 1)))], none⟩,
⟨(some 58), .bslice false 9 1 [(0, (.t 57))], none⟩,
⟨(some 59), .call 0 (.f 39) [(.t 56), (.c (.imm .exact [])), (.c (.int .i64 0)), (.t 58)], none⟩,
⟨(some 55), .move (.t 59), none⟩,
⟨(some 60), .extract (.t 55) 0, none⟩,
⟨(some 61), .extract (.t 55) 1, none⟩,
⟨(some 13), .assign (.t 60), none⟩,
⟨(some 14), .assign (.t 61), none⟩])
    (.seq (.region false [] [
⟨(some 63), .load 0 (.t 1), none⟩,
⟨(some 64), .bslice false 6 1 [(0, (.c (.int .i64 1)))], none⟩,
⟨(some 65), .bslice false 9 1 [(0, (.t 64))], none⟩,
⟨(some 66), .call 0 (.f 39) [(.t 63), (.c (.imm .exact [])), (.c (.int .i64 10)), (.t 65)], none⟩,
⟨(some 62), .move (.t 66), none⟩,
⟨(some 67), .extract (.t 62) 0, none⟩,
⟨(some 68), .extract (.t 62) 1, none⟩,
⟨(some 15), .assign (.t 67), none⟩,
⟨(some 16), .assign (.t 68), none⟩])
    (.seq (.region false [] [
⟨(some 70), .load 0 (.t 1), none⟩,
⟨(some 71), .move (.t 2), none⟩,
⟨(some 72), .call 0 (.f 44) [(.t 70), (.c (.imm .exact [])), (.c (.int .i64 60)), (.t 71)], none⟩,
⟨(some 69), .move (.t 72), none⟩,
⟨(some 73), .extract (.t 69) 0, none⟩,
⟨(some 74), .extract (.t 69) 1, none⟩,
⟨(some 17), .assign (.t 73), none⟩,
⟨(some 18), .assign (.t 74), none⟩])
    (.seq (.region false [] [
⟨(some 75), .bslice false 6 0 [], none⟩,
⟨(some 76), .bslice false 9 1 [(0, (.t 75))], none⟩,
⟨(some 77), .build 0 [(1, (.t 76))], none⟩,
⟨(some 19), .alloc 0, none⟩,
⟨none, .store 0 (.t 19) (.t 77), none⟩])
    (.seq (.region false [] [
⟨(some 79), .load 0 (.t 19), none⟩,
⟨(some 80), .bslice false 6 0 [], none⟩,
⟨(some 81), .bslice false 9 1 [(0, (.t 80))], none⟩,
⟨(some 82), .call 0 (.f 37) [(.t 79), (.c (.imm .exact [])), (.c (.int .i64 0)), (.t 81)], none⟩,
⟨(some 78), .move (.t 82), none⟩,
⟨(some 83), .extract (.t 78) 0, none⟩,
⟨(some 84), .extract (.t 78) 1, none⟩,
⟨(some 85), .extract (.t 78) 2, none⟩,
⟨(some 20), .assign (.t 83), none⟩,
⟨(some 21), .assign (.t 84), none⟩,
⟨(some 22), .assign (.t 85), none⟩])
    (.seq (.region false [] [
⟨(some 87), .load 0 (.t 19), none⟩,
⟨(some 88), .bslice false 6 0 [], none⟩,
⟨(some 89), .bslice false 9 1 [(0, (.t 88))], none⟩,
⟨(some 90), .call 0 (.f 39) [(.t 87), (.c (.imm .exact [])), (.c (.int .i64 0)), (.t 89)], none⟩,
⟨(some 86), .move (.t 90), none⟩,
⟨(some 91), .extract (.t 86) 0, none⟩,
⟨(some 92), .extract (.t 86) 1, none⟩,
⟨(some 23), .assign (.t 91), none⟩,
⟨(some 24), .assign (.t 92), none⟩])
    (.seq (.region false [] [
⟨(some 94), .load 0 (.t 1), none⟩,
⟨(some 95), .bslice false 1 1 [(0, (.c (.int .i64 2)))], none⟩,
⟨(some 96), .move (.t 2), none⟩,
⟨(some 97), .call 0 (.f 37) [(.t 94), (.t 95), (.c (.int .i64 0)), (.t 96)], none⟩,
⟨(some 93), .move (.t 97), none⟩,
⟨(some 98), .extract (.t 93) 0, none⟩,
⟨(some 99), .extract (.t 93) 1, none⟩,
⟨(some 100), .extract (.t 93) 2, none⟩,
⟨(some 25), .assign (.t 98), none⟩,
⟨(some 26), .assign (.t 99), none⟩,
⟨(some 27), .assign (.t 100), none⟩])
    (.seq (.seq (.region false [] [
⟨(some 101), .move (.t 6), none⟩,
⟨(some 102), .bin .neq 3 (.t 101) (.c (.int .i64 0)), none⟩,
⟨(some 103), .move (.t 102), none⟩,
⟨(some 104), .move (.t 9), (some (103, false))⟩,
⟨(some 105), .bin .neq 3 (.t 104) (.c (.int .i64 0)), (some (103, false))⟩,
⟨(some 106), .pick (.t 103) (.c (.bool true)) (.t 105), none⟩,
⟨(some 107), .move (.t 106), none⟩,
⟨(some 108), .move (.t 12), (some (107, false))⟩,
⟨(some 109), .bin .neq 3 (.t 108) (.c (.int .i64 0)), (some (107, false))⟩,
⟨(some 110), .pick (.t 107) (.c (.bool true)) (.t 109), none⟩,
⟨(some 111), .move (.t 110), none⟩,
⟨(some 112), .move (.t 14), (some (111, false))⟩,
⟨(some 113), .bin .neq 3 (.t 112) (.c (.int .i64 0)), (some (111, false))⟩,
⟨(some 114), .pick (.t 111) (.c (.bool true)) (.t 113), none⟩,
⟨(some 115), .move (.t 114), none⟩,
⟨(some 116), .move (.t 16), (some (115, false))⟩,
⟨(some 117), .bin .neq 3 (.t 116) (.c (.int .i64 0)), (some (115, false))⟩,
⟨(some 118), .pick (.t 115) (.c (.bool true)) (.t 117), none⟩,
⟨(some 119), .move (.t 118), none⟩,
⟨(some 120), .move (.t 18), (some (119, false))⟩,
⟨(some 121), .bin .neq 3 (.t 120) (.c (.int .i64 0)), (some (119, false))⟩,
⟨(some 122), .pick (.t 119) (.c (.bool true)) (.t 121), none⟩,
⟨(some 123), .move (.t 122), none⟩,
⟨(some 124), .move (.t 22), (some (123, false))⟩,
⟨(some 125), .bin .neq 3 (.t 124) (.c (.int .i64 0)), (some (123, false))⟩,
⟨(some 126), .pick (.t 123) (.c (.bool true)) (.t 125), none⟩,
⟨(some 127), .move (.t 126), none⟩,
⟨(some 128), .move (.t 24), (some (127, false))⟩,
⟨(some 129), .bin .neq 3 (.t 128) (.c (.int .i64 0)), (some (127, false))⟩,
⟨(some 130), .pick (.t 127) (.c (.bool true)) (.t 129), none⟩,
⟨(some 131), .move (.t 130), none⟩,
⟨(some 132), .move (.t 27), (some (131, false))⟩,
⟨(some 133), .bin .neq 3 (.t 132) (.c (.int .i64 290)), (some (131, false))⟩,
⟨(some 134), .pick (.t 131) (.c (.bool true)) (.t 133), none⟩])
    (.cond (.t 134) (.seq (.region false [] [
⟨(some 0), .assign (.c (.bool false)), none⟩])
    (.ret)) (.skip)))
    (.seq (.region false [] [
⟨(some 135), .move (.t 4), none⟩,
⟨(some 136), .bin .eql 2 (.t 135) (.c (.int .i64 0)), none⟩,
⟨(some 137), .move (.t 136), none⟩,
⟨(some 138), .move (.t 5), (some (137, true))⟩,
⟨(some 139), .pick (.t 137) (.t 138) (.c (.bool false)), none⟩,
⟨(some 140), .move (.t 139), none⟩,
⟨(some 141), .move (.t 7), (some (140, true))⟩,
⟨(some 142), .bin .eql 2 (.t 141) (.c (.int .i64 3)), (some (140, true))⟩,
⟨(some 143), .pick (.t 140) (.t 142) (.c (.bool false)), none⟩,
⟨(some 144), .move (.t 143), none⟩,
⟨(some 145), .move (.t 8), (some (144, true))⟩,
⟨(some 146), .pick (.t 144) (.t 145) (.c (.bool false)), none⟩,
⟨(some 147), .move (.t 146), none⟩,
⟨(some 148), .move (.t 10), (some (147, true))⟩,
⟨(some 149), .bin .eql 2 (.t 148) (.c (.int .i64 0)), (some (147, true))⟩,
⟨(some 150), .pick (.t 147) (.t 149) (.c (.bool false)), none⟩,
⟨(some 151), .move (.t 150), none⟩,
⟨(some 152), .move (.t 11), (some (151, true))⟩,
⟨(some 153), .un .not (.t 152), (some (151, true))⟩,
⟨(some 154), .pick (.t 151) (.t 153) (.c (.bool false)), none⟩,
⟨(some 155), .move (.t 154), none⟩,
⟨(some 156), .move (.t 13), (some (155, true))⟩,
⟨(some 157), .pick (.t 155) (.t 156) (.c (.bool false)), none⟩,
⟨(some 158), .move (.t 157), none⟩,
⟨(some 159), .move (.t 15), (some (158, true))⟩,
⟨(some 160), .un .not (.t 159), (some (158, true))⟩,
⟨(some 161), .pick (.t 158) (.t 160) (.c (.bool false)), none⟩,
⟨(some 162), .move (.t 161), none⟩,
⟨(some 163), .move (.t 17), (some (162, true))⟩,
⟨(some 164), .bslice false 6 1 [(0, (.c (.int .i64 1)))], (some (162, true))⟩,
⟨(some 165), .bslice false 9 1 [(0, (.t 164))], (some (162, true))⟩,
⟨(some 166), .call 0 (.f 46) [(.t 163), (.t 165)], (some (162, true))⟩,
⟨(some 167), .pick (.t 162) (.t 166) (.c (.bool false)), none⟩,
⟨(some 168), .move (.t 167), none⟩,
⟨(some 169), .move (.t 20), (some (168, true))⟩,
⟨(some 170), .bin .eql 2 (.t 169) (.c (.int .i64 0)), (some (168, true))⟩,
⟨(some 171), .pick (.t 168) (.t 170) (.c (.bool false)), none⟩,
⟨(some 172), .move (.t 171), none⟩,
⟨(some 173), .move (.t 21), (some (172, true))⟩,
⟨(some 174), .pick (.t 172) (.t 173) (.c (.bool false)), none⟩,
⟨(some 175), .move (.t 174), none⟩,
⟨(some 176), .move (.t 23), (some (175, true))⟩,
⟨(some 177), .un .not (.t 176), (some (175, true))⟩,
⟨(some 178), .pick (.t 175) (.t 177) (.c (.bool false)), none⟩,
⟨(some 179), .move (.t 178), none⟩,
⟨(some 180), .load 0 (.t 19), (some (179, true))⟩,
⟨(some 181), .call 0 (.f 41) [(.t 180), (.c (.imm .exact []))], (some (179, true))⟩,
⟨(some 182), .bin .eql 3 (.t 181) (.c (.int .i64 290)), (some (179, true))⟩,
⟨(some 183), .pick (.t 179) (.t 182) (.c (.bool false)), none⟩,
⟨(some 184), .move (.t 183), none⟩,
⟨(some 185), .load 0 (.t 19), (some (184, true))⟩,
⟨(some 186), .bslice false 6 0 [], (some (184, true))⟩,
⟨(some 187), .bslice false 9 1 [(0, (.t 186))], (some (184, true))⟩,
⟨(some 188), .call 0 (.f 41) [(.t 185), (.t 187)], (some (184, true))⟩,
⟨(some 189), .bin .eql 3 (.t 188) (.c (.int .i64 0)), (some (184, true))⟩,
⟨(some 190), .pick (.t 184) (.t 189) (.c (.bool false)), none⟩,
⟨(some 191), .move (.t 190), none⟩,
⟨(some 192), .load 0 (.t 1), (some (191, true))⟩,
⟨(some 193), .bslice false 6 1 [(0, (.c (.int .i64 65537)))], (some (191, true))⟩,
⟨(some 194), .bslice false 9 1 [(0, (.t 193))], (some (191, true))⟩,
⟨(some 195), .call 0 (.f 41) [(.t 192), (.t 194)], (some (191, true))⟩,
⟨(some 196), .bin .eql 3 (.t 195) (.c (.int .i64 290)), (some (191, true))⟩,
⟨(some 197), .pick (.t 191) (.t 196) (.c (.bool false)), none⟩,
⟨(some 0), .assign (.t 197), none⟩])
    (.ret)))))))))))))))⟩

def f36 : DFn := ⟨19, [.tmp 2],
    .seq (.region false [] [
⟨(some 2), .assign (.c (.bool false)), none⟩])
    (.seq (.seq (.region false [] [
⟨(some 3), .assign (.c (.int .i64 0)), none⟩])
    (.block 0 (.loop (.seq (.seq (.region false [] [
⟨(some 4), .move (.t 3), none⟩,
⟨(some 5), .move (.t 0), none⟩,
⟨(some 6), .len 9 (.t 5), none⟩,
⟨(some 7), .bin .lss 2 (.t 4) (.t 6), none⟩])
    (.cond (.t 7) (.skip) (.exit 0)))
    (.seq (.block 1 (.seq (.region false [] [
⟨(some 10), .move (.t 0), none⟩,
⟨(some 11), .move (.t 3), none⟩,
⟨(some 12), .iaddr 9 (.t 10) (.t 11), none⟩,
⟨(some 13), .load 6 (.t 12), none⟩,
⟨(some 14), .len 6 (.t 13), none⟩,
⟨(some 15), .bin .gtr 2 (.t 14) (.c (.int .i64 60)), none⟩])
    (.cond (.t 15) (.seq (.region false [] [
⟨(some 2), .assign (.c (.bool false)), none⟩])
    (.ret)) (.skip))))
    (.region false [] [
⟨(some 8), .move (.t 3), none⟩,
⟨(some 9), .bin .add 2 (.t 8) (.c (.int .i64 1)), none⟩,
⟨(some 3), .assign (.t 9), none⟩]))))))
    (.seq (.region false [] [
⟨(some 16), .move (.t 0), none⟩,
⟨(some 17), .len 9 (.t 16), none⟩,
⟨(some 18), .bin .leq 2 (.t 17) (.c (.int .i64 40)), none⟩,
⟨(some 2), .assign (.t 18), none⟩])
    (.ret)))⟩

def f37 : DFn := ⟨30, [.tmp 8, .tmp 9, .tmp 10],
    .seq (.region false [] [
⟨(some 4), .box 0 (.t 0), none⟩,
⟨(some 8), .assign (.c (.int .i64 0)), none⟩,
⟨(some 9), .assign (.c (.bool false)), none⟩,
⟨(some 10), .assign (.c (.int .i64 0)), none⟩])
    (.seq (.seq (.region false [] [
⟨(some 12), .load 0 (.t 4), none⟩,
⟨(some 13), .move (.t 1), none⟩,
⟨(some 14), .move (.t 3), none⟩,
⟨(some 15), .call 0 (.f 89) [(.t 12), (.t 13), (.t 14)], none⟩,
⟨(some 11), .assign (.t 15), none⟩])
    (.seq (.region false [] [
⟨(some 16), .move (.t 11), none⟩,
⟨(some 17), .bin .neq 3 (.t 16) (.c (.int .i64 0)), none⟩])
    (.cond (.t 17) (.seq (.region false [] [
⟨(some 18), .move (.t 11), none⟩,
⟨(some 8), .assign (.c (.int .i64 0)), none⟩,
⟨(some 9), .assign (.c (.bool false)), none⟩,
⟨(some 10), .assign (.t 18), none⟩])
    (.ret)) (.skip))))
    (.seq (.region false [] [
⟨(some 20), .load 0 (.t 4), none⟩,
⟨(some 21), .move (.t 1), none⟩,
⟨(some 22), .move (.t 2), none⟩,
⟨(some 23), .move (.t 3), none⟩,
⟨(some 24), .build 25 [(0, (.t 20)), (1, (.t 21)), (2, (.t 22)), (3, (.t 23))], none⟩,
⟨(some 25), .call 0 (.f 90) [(.t 24), (.c (.bool true))], none⟩,
⟨(some 19), .move (.t 25), none⟩,
⟨(some 26), .extract (.t 19) 0, none⟩,
⟨(some 27), .extract (.t 19) 1, none⟩,
⟨(some 8), .assign (.t 26), none⟩,
⟨(some 9), .assign (.t 27), none⟩])
    (.seq (.region false [] [
⟨(some 28), .move (.t 8), none⟩,
⟨(some 29), .move (.t 9), none⟩,
⟨(some 8), .assign (.t 28), none⟩,
⟨(some 9), .assign (.t 29), none⟩,
⟨(some 10), .assign (.c (.int .i64 0)), none⟩])
    (.ret))))⟩

def f39 : DFn := ⟨35, [.tmp 8, .tmp 9],
    .seq (.region false [] [
⟨(some 4), .box 0 (.t 0), none⟩,
⟨(some 8), .assign (.c (.bool false)), none⟩,
⟨(some 9), .assign (.c (.int .i64 0)), none⟩])
    (.seq (.seq (.region false [] [
⟨(some 13), .load 0 (.t 4), none⟩,
⟨(some 14), .move (.t 1), none⟩,
⟨(some 15), .move (.t 3), none⟩,
⟨(some 16), .call 0 (.f 89) [(.t 13), (.t 14), (.t 15)], none⟩,
⟨(some 10), .assign (.t 16), none⟩])
    (.seq (.region false [] [
⟨(some 17), .move (.t 10), none⟩,
⟨(some 18), .bin .neq 3 (.t 17) (.c (.int .i64 0)), none⟩])
    (.cond (.t 18) (.seq (.region false [] [
⟨(some 19), .move (.t 10), none⟩,
⟨(some 8), .assign (.c (.bool false)), none⟩,
⟨(some 9), .assign (.t 19), none⟩])
    (.ret)) (.skip))))
    (.seq (.region false [] [
⟨(some 21), .load 0 (.t 4), none⟩,
⟨(some 22), .move (.t 1), none⟩,
⟨(some 23), .move (.t 2), none⟩,
⟨(some 24), .move (.t 3), none⟩,
⟨(some 25), .build 25 [(0, (.t 21)), (1, (.t 22)), (2, (.t 23)), (3, (.t 24))], none⟩,
⟨(some 26), .call 0 (.f 90) [(.t 25), (.c (.bool false))], none⟩,
⟨(some 20), .move (.t 26), none⟩,
⟨(some 27), .extract (.t 20) 0, none⟩,
⟨(some 28), .extract (.t 20) 1, none⟩,
⟨(some 11), .assign (.t 27), none⟩,
⟨(some 12), .assign (.t 28), none⟩])
    (.seq (.region false [] [
⟨(some 29), .move (.t 12), none⟩,
⟨(some 30), .un .not (.t 29), none⟩,
⟨(some 31), .move (.t 30), none⟩,
⟨(some 32), .move (.t 11), (some (31, false))⟩,
⟨(some 33), .bin .gtr 2 (.t 32) (.c (.int .i64 0)), (some (31, false))⟩,
⟨(some 34), .pick (.t 31) (.c (.bool true)) (.t 33), none⟩,
⟨(some 8), .assign (.t 34), none⟩,
⟨(some 9), .assign (.c (.int .i64 0)), none⟩])
    (.ret))))⟩

def f41 : DFn := ⟨24, [.tmp 4],
    .seq (.region false [] [
⟨(some 2), .box 0 (.t 0), none⟩,
⟨(some 4), .assign (.c (.int .i64 0)), none⟩])
    (.seq (.seq (.region false [] [
⟨(some 7), .load 0 (.t 2), none⟩,
⟨(some 8), .call 0 (.f 15) [(.t 7)], none⟩,
⟨(some 5), .assign (.t 8), none⟩])
    (.seq (.region false [] [
⟨(some 9), .move (.t 5), none⟩,
⟨(some 10), .bin .neq 3 (.t 9) (.c (.int .i64 0)), none⟩])
    (.cond (.t 10) (.seq (.region false [] [
⟨(some 11), .move (.t 5), none⟩,
⟨(some 4), .assign (.t 11), none⟩])
    (.ret)) (.skip))))
    (.seq (.region false [] [
⟨(some 12), .mkfn 93 [(.t 2)], none⟩,
⟨(some 6), .assign (.t 12), none⟩])
    (.seq (.seq (.region false [] [
⟨(some 13), .move (.t 1), none⟩,
⟨(some 14), .len 9 (.t 13), none⟩,
⟨(some 15), .faddr 0 (.t 2) 1, none⟩,
⟨(some 16), .load 9 (.t 15), none⟩,
⟨(some 17), .len 9 (.t 16), none⟩,
⟨(some 18), .bin .neq 2 (.t 14) (.t 17), none⟩,
⟨(some 19), .move (.t 18), none⟩,
⟨(some 20), .move (.t 1), (some (19, false))⟩,
⟨(some 21), .move (.t 6), (some (19, false))⟩,
⟨(some 22), .call 1 (.f 94) [(.t 20), (.t 21)], (some (19, false))⟩,
⟨(some 23), .pick (.t 19) (.c (.bool true)) (.t 22), none⟩])
    (.cond (.t 23) (.seq (.region false [] [
⟨(some 4), .assign (.c (.int .i64 290)), none⟩])
    (.ret)) (.skip)))
    (.seq (.region false [] [
⟨(some 4), .assign (.c (.int .i64 0)), none⟩])
    (.ret)))))⟩

def f42 : DFn := ⟨15, [.tmp 4],
    .seq (.region false [] [
⟨(some 2), .box 0 (.t 0), none⟩,
⟨(some 4), .assign (.c (.int .i64 0)), none⟩])
    (.seq (.region false [] [
⟨(some 6), .load 0 (.t 2), none⟩,
⟨(some 7), .call 0 (.f 19) [(.t 6)], none⟩,
⟨(some 5), .assign (.t 7), none⟩])
    (.seq (.seq (.region false [] [
⟨(some 8), .move (.t 5), none⟩,
⟨(some 9), .bin .neq 3 (.t 8) (.c (.int .i64 0)), none⟩])
    (.cond (.t 9) (.seq (.region false [] [
⟨(some 10), .move (.t 5), none⟩,
⟨(some 4), .assign (.t 10), none⟩])
    (.ret)) (.skip)))
    (.seq (.seq (.region false [] [
⟨(some 11), .load 0 (.t 2), none⟩,
⟨(some 12), .move (.t 1), none⟩,
⟨(some 13), .call 0 (.f 95) [(.t 11), (.t 12)], none⟩,
⟨(some 14), .un .not (.t 13), none⟩])
    (.cond (.t 14) (.seq (.region false [] [
⟨(some 4), .assign (.c (.int .i64 290)), none⟩])
    (.ret)) (.skip)))
    (.seq (.region false [] [
⟨(some 4), .assign (.c (.int .i64 0)), none⟩])
    (.ret)))))⟩

def f43 : DFn := ⟨52, [.tmp 8],
    .seq (.region false [] [
⟨(some 4), .box 0 (.t 0), none⟩,
⟨(some 8), .assign (.c (.bool false)), none⟩])
    (.seq (.seq (.region false [] [
⟨(some 13), .call 0 (.f 35) [], none⟩,
⟨(some 14), .un .not (.t 13), none⟩])
    (.cond (.t 14) (.seq (.region false [] [
⟨(some 8), .assign (.c (.bool false)), none⟩])
    (.ret)) (.skip)))
    (.seq (.seq (.region false [] [
⟨(some 15), .load 0 (.t 4), none⟩,
⟨(some 16), .call 0 (.f 2) [(.t 15)], none⟩,
⟨(some 17), .un .not (.t 16), none⟩,
⟨(some 18), .move (.t 17), none⟩,
⟨(some 19), .move (.t 3), (some (18, false))⟩,
⟨(some 20), .call 0 (.f 36) [(.t 19)], (some (18, false))⟩,
⟨(some 21), .un .not (.t 20), (some (18, false))⟩,
⟨(some 22), .pick (.t 18) (.c (.bool true)) (.t 21), none⟩,
⟨(some 23), .move (.t 22), none⟩,
⟨(some 24), .move (.t 1), (some (23, false))⟩,
⟨(some 25), .len 1 (.t 24), (some (23, false))⟩,
⟨(some 26), .bin .gtr 2 (.t 25) (.c (.int .i64 20)), (some (23, false))⟩,
⟨(some 27), .pick (.t 23) (.c (.bool true)) (.t 26), none⟩])
    (.cond (.t 27) (.seq (.region false [] [
⟨(some 8), .assign (.c (.bool true)), none⟩])
    (.ret)) (.skip)))
    (.seq (.region false [] [
⟨(some 29), .load 0 (.t 4), none⟩,
⟨(some 30), .move (.t 1), none⟩,
⟨(some 31), .move (.t 2), none⟩,
⟨(some 32), .move (.t 3), none⟩,
⟨(some 33), .call 0 (.f 44) [(.t 29), (.t 30), (.t 31), (.t 32)], none⟩,
⟨(some 28), .move (.t 33), none⟩,
⟨(some 34), .extract (.t 28) 0, none⟩,
⟨(some 35), .extract (.t 28) 1, none⟩,
⟨(some 9), .assign (.t 34), none⟩,
⟨(some 10), .assign (.t 35), none⟩])
    (.seq (.region false [] [
⟨(some 37), .load 0 (.t 4), none⟩,
⟨(some 38), .move (.t 1), none⟩,
⟨(some 39), .move (.t 2), none⟩,
⟨(some 40), .move (.t 3), none⟩,
⟨(some 41), .call 0 (.f 45) [(.t 37), (.t 38), (.t 39), (.t 40)], none⟩,
⟨(some 36), .move (.t 41), none⟩,
⟨(some 42), .extract (.t 36) 0, none⟩,
⟨(some 43), .extract (.t 36) 1, none⟩,
⟨(some 11), .assign (.t 42), none⟩,
⟨(some 12), .assign (.t 43), none⟩])
    (.seq (.region false [] [
⟨(some 44), .move (.t 9), none⟩,
⟨(some 45), .move (.t 11), none⟩,
⟨(some 46), .call 0 (.f 46) [(.t 44), (.t 45)], none⟩,
⟨(some 47), .move (.t 46), none⟩,
⟨(some 48), .move (.t 10), (some (47, true))⟩,
⟨(some 49), .move (.t 12), (some (47, true))⟩,
⟨(some 50), .bin .eql 3 (.t 48) (.t 49), (some (47, true))⟩,
⟨(some 51), .pick (.t 47) (.t 50) (.c (.bool false)), none⟩,
⟨(some 8), .assign (.t 51), none⟩])
    (.ret))))))⟩

def f44 : DFn := ⟨144, [.tmp 8, .tmp 9],
    .seq (.region false [] [
⟨(some 4), .box 0 (.t 0), none⟩,
⟨(some 8), .assign (.c (.imm .exact [])), none⟩,
⟨(some 9), .assign (.c (.int .i64 0)), none⟩])
    (.seq (.seq (.region false [] [
⟨(some 28), .load 0 (.t 4), none⟩,
⟨(some 29), .move (.t 1), none⟩,
⟨(some 30), .move (.t 3), none⟩,
⟨(some 31), .call 0 (.f 89) [(.t 28), (.t 29), (.t 30)], none⟩,
⟨(some 10), .assign (.t 31), none⟩])
    (.seq (.region false [] [
⟨(some 32), .move (.t 10), none⟩,
⟨(some 33), .bin .neq 3 (.t 32) (.c (.int .i64 0)), none⟩])
    (.cond (.t 33) (.seq (.region false [] [
⟨(some 34), .move (.t 10), none⟩,
⟨(some 8), .assign (.c (.imm .exact [])), none⟩,
⟨(some 9), .assign (.t 34), none⟩])
    (.ret)) (.skip))))
    (.seq (.region false [] [
⟨(some 35), .load 0 (.t 4), none⟩,
⟨(some 36), .move (.t 1), none⟩,
⟨(some 37), .move (.t 2), none⟩,
⟨(some 38), .move (.t 3), none⟩,
⟨(some 39), .build 25 [(0, (.t 35)), (1, (.t 36)), (2, (.t 37)), (3, (.t 38))], none⟩,
⟨(some 11), .alloc 25, none⟩,
⟨none, .store 25 (.t 11) (.t 39), none⟩])
    (.seq (.seq (.region false [] [
⟨(some 40), .move (.t 3), none⟩,
⟨(some 41), .len 9 (.t 40), none⟩,
⟨(some 42), .move (.c (.int .i64 0)), none⟩])
    (.block 0 (.loop (.seq (.region false [] [
⟨(some 43), .bin .lss 2 (.t 42) (.t 41), none⟩])
    (.seq (.cond (.t 43) (.skip) (.exit 0))
    (.seq (.block 1 (.seq (.region false [] [
⟨(some 44), .move (.t 42), none⟩,
⟨(some 45), .iaddr 9 (.t 40) (.t 42), none⟩,
⟨(some 46), .load 6 (.t 45), none⟩,
⟨(some 12), .assign (.t 44), none⟩,
⟨(some 13), .assign (.t 46), none⟩])
    (.seq (.region false [] [
⟨(some 47), .move (.t 8), none⟩,
⟨(some 48), .move (.t 13), none⟩,
⟨(some 49), .call 2 (.f 96) [(.t 48)], none⟩,
⟨(some 50), .bslice false 9 1 [(0, (.t 49))], none⟩,
⟨(some 51), .append 0 9 9 (.t 47) (.t 50), none⟩,
⟨(some 8), .assign (.t 51), none⟩])
    (.seq (.region false [] [
⟨(some 52), .move (.t 13), none⟩,
⟨(some 53), .len 6 (.t 52), none⟩,
⟨(some 54), .move (.c (.int .i64 0)), none⟩])
    (.block 2 (.loop (.seq (.region false [] [
⟨(some 55), .bin .lss 2 (.t 54) (.t 53), none⟩])
    (.seq (.cond (.t 55) (.skip) (.exit 2))
    (.seq (.block 3 (.seq (.region false [] [
⟨(some 56), .move (.t 54), none⟩,
⟨(some 14), .assign (.t 56), none⟩])
    (.region true [] [
⟨(some 57), .move (.t 8), none⟩,
⟨(some 58), .move (.t 12), none⟩,
⟨(some 59), .iaddr 9 (.t 57) (.t 58), none⟩,
⟨(some 60), .load 6 (.t 59), none⟩,
⟨(some 61), .move (.t 14), none⟩,
⟨(some 62), .iaddr 6 (.t 60) (.t 61), none⟩,
⟨(some 63), .load 2 (.t 62), none⟩,
⟨(some 64), .faddr 0 (.t 4) 1, none⟩,
⟨(some 65), .load 9 (.t 64), none⟩,
⟨(some 66), .move (.t 12), none⟩,
⟨(some 67), .iaddr 9 (.t 65) (.t 66), none⟩,
⟨(some 68), .load 6 (.t 67), none⟩,
⟨(some 69), .move (.t 14), none⟩,
⟨(some 70), .iaddr 6 (.t 68) (.t 69), none⟩,
⟨(some 71), .load 2 (.t 70), none⟩,
⟨(some 72), .bin .sub 2 (.t 63) (.t 71), none⟩,
⟨(some 73), .iaddr 6 (.t 60) (.t 61), none⟩,
⟨none, .store 2 (.t 73) (.t 72), none⟩])))
    (.region false [] [
⟨(some 74), .bin .add 2 (.t 54) (.c (.int .i64 1)), none⟩,
⟨(some 54), .move (.t 74), none⟩]))))))))))
    (.region false [] [
⟨(some 75), .bin .add 2 (.t 42) (.c (.int .i64 1)), none⟩,
⟨(some 42), .move (.t 75), none⟩])))))))
    (.seq (.seq (.region false [] [
⟨(some 76), .faddr 0 (.t 4) 2, none⟩,
⟨(some 77), .load 14 (.t 76), none⟩,
⟨(some 78), .len 14 (.t 77), none⟩,
⟨(some 79), .move (.c (.int .i64 0)), none⟩])
    (.block 4 (.loop (.seq (.region false [] [
⟨(some 80), .bin .lss 2 (.t 79) (.t 78), none⟩])
    (.seq (.cond (.t 80) (.skip) (.exit 4))
    (.seq (.block 5 (.seq (.region false [] [
⟨(some 81), .move (.t 79), none⟩,
⟨(some 82), .iaddr 14 (.t 77) (.t 79), none⟩,
⟨(some 83), .load 15 (.t 82), none⟩,
⟨(some 16), .alloc 15, none⟩,
⟨(some 15), .assign (.t 81), none⟩,
⟨none, .store 15 (.t 16) (.t 83), none⟩])
    (.seq (.region false [] [
⟨(some 85), .load 25 (.t 11), none⟩,
⟨(some 86), .move (.t 15), none⟩,
⟨(some 87), .call 0 (.f 97) [(.t 85), (.t 86), (.c (.bool true))], none⟩,
⟨(some 84), .move (.t 87), none⟩,
⟨(some 88), .extract (.t 84) 0, none⟩,
⟨(some 89), .extract (.t 84) 1, none⟩,
⟨(some 90), .extract (.t 84) 2, none⟩,
⟨(some 17), .alloc 17, none⟩,
⟨none, .store 17 (.t 17) (.t 88), none⟩,
⟨(some 18), .assign (.t 89), none⟩,
⟨(some 19), .assign (.t 90), none⟩])
    (.seq (.region false [] [
⟨(some 91), .faddr 17 (.t 17) 3, none⟩,
⟨(some 92), .load 18 (.t 91), none⟩,
⟨(some 93), .len 18 (.t 92), none⟩,
⟨(some 94), .move (.c (.int .i64 0)), none⟩])
    (.block 6 (.loop (.seq (.region false [] [
⟨(some 95), .bin .lss 2 (.t 94) (.t 93), none⟩])
    (.seq (.cond (.t 95) (.skip) (.exit 6))
    (.seq (.block 7 (.seq (.region false [] [
⟨(some 96), .iaddr 18 (.t 92) (.t 94), none⟩,
⟨(some 97), .load 19 (.t 96), none⟩,
⟨(some 21), .alloc 19, none⟩,
⟨none, .store 19 (.t 21) (.t 97), none⟩])
    (.seq (.region false [] [
⟨(some 98), .faddr 15 (.t 16) 2, none⟩,
⟨(some 99), .load 6 (.t 98), none⟩,
⟨(some 100), .len 6 (.t 99), none⟩,
⟨(some 101), .move (.c (.int .i64 0)), none⟩])
    (.block 8 (.loop (.seq (.region false [] [
⟨(some 102), .bin .lss 2 (.t 101) (.t 100), none⟩])
    (.seq (.cond (.t 102) (.skip) (.exit 8))
    (.seq (.block 9 (.seq (.region false [] [
⟨(some 103), .iaddr 6 (.t 99) (.t 101), none⟩,
⟨(some 104), .load 2 (.t 103), none⟩,
⟨(some 23), .assign (.t 104), none⟩])
    (.region true [] [
⟨(some 105), .move (.t 8), none⟩,
⟨(some 106), .move (.t 23), none⟩,
⟨(some 107), .iaddr 9 (.t 105) (.t 106), none⟩,
⟨(some 108), .load 6 (.t 107), none⟩,
⟨(some 109), .load 25 (.t 11), none⟩,
⟨(some 110), .faddr 19 (.t 21) 0, none⟩,
⟨(some 111), .load 20 (.t 110), none⟩,
⟨(some 112), .call 0 (.f 98) [(.t 109), (.t 111)], none⟩,
⟨(some 113), .iaddr 6 (.t 108) (.t 112), none⟩,
⟨(some 114), .load 2 (.t 113), none⟩,
⟨(some 115), .faddr 19 (.t 21) 1, none⟩,
⟨(some 116), .load 2 (.t 115), none⟩,
⟨(some 117), .bin .add 2 (.t 114) (.t 116), none⟩,
⟨(some 118), .iaddr 6 (.t 108) (.t 112), none⟩,
⟨none, .store 2 (.t 118) (.t 117), none⟩])))
    (.region false [] [
⟨(some 119), .bin .add 2 (.t 101) (.c (.int .i64 1)), none⟩,
⟨(some 101), .move (.t 119), none⟩])))))))))
    (.region false [] [
⟨(some 120), .bin .add 2 (.t 94) (.c (.int .i64 1)), none⟩,
⟨(some 94), .move (.t 120), none⟩]))))))))))
    (.region false [] [
⟨(some 121), .bin .add 2 (.t 79) (.c (.int .i64 1)), none⟩,
⟨(some 79), .move (.t 121), none⟩])))))))
    (.seq (.seq (.region false [] [
⟨(some 122), .move (.t 8), none⟩,
⟨(some 123), .len 9 (.t 122), none⟩,
⟨(some 124), .move (.c (.int .i64 0)), none⟩])
    (.block 10 (.loop (.seq (.region false [] [
⟨(some 125), .bin .lss 2 (.t 124) (.t 123), none⟩])
    (.seq (.cond (.t 125) (.skip) (.exit 10))
    (.seq (.block 11 (.seq (.region false [] [
⟨(some 126), .iaddr 9 (.t 122) (.t 124), none⟩,
⟨(some 127), .load 6 (.t 126), none⟩,
⟨(some 25), .assign (.t 127), none⟩])
    (.seq (.region false [] [
⟨(some 128), .move (.t 25), none⟩,
⟨(some 129), .len 6 (.t 128), none⟩,
⟨(some 130), .move (.c (.int .i64 0)), none⟩])
    (.block 12 (.loop (.seq (.region false [] [
⟨(some 131), .bin .lss 2 (.t 130) (.t 129), none⟩])
    (.seq (.cond (.t 131) (.skip) (.exit 12))
    (.seq (.block 13 (.seq (.region false [] [
⟨(some 132), .move (.t 130), none⟩,
⟨(some 133), .iaddr 6 (.t 128) (.t 130), none⟩,
⟨(some 134), .load 2 (.t 133), none⟩,
⟨(some 26), .assign (.t 132), none⟩,
⟨(some 27), .assign (.t 134), none⟩])
    (.region false [] [
⟨(some 135), .move (.t 25), none⟩,
⟨(some 136), .move (.t 26), none⟩,
⟨(some 137), .move (.t 27), none⟩,
⟨(some 138), .maxi [(.t 137), (.c (.int .i64 0))], none⟩,
⟨(some 139), .mini [(.t 138), (.c (.int .i64 65536))], none⟩,
⟨(some 140), .iaddr 6 (.t 135) (.t 136), none⟩,
⟨none, .store 2 (.t 140) (.t 139), none⟩])))
    (.region false [] [
⟨(some 141), .bin .add 2 (.t 130) (.c (.int .i64 1)), none⟩,
⟨(some 130), .move (.t 141), none⟩])))))))))
    (.region false [] [
⟨(some 142), .bin .add 2 (.t 124) (.c (.int .i64 1)), none⟩,
⟨(some 124), .move (.t 142), none⟩])))))))
    (.seq (.region false [] [
⟨(some 143), .move (.t 8), none⟩,
⟨(some 8), .assign (.t 143), none⟩,
⟨(some 9), .assign (.c (.int .i64 0)), none⟩])
    (.ret)))))))⟩

def f45 : DFn := ⟨187, [.tmp 8, .tmp 9],
    .seq (.region false [] [
⟨(some 4), .box 0 (.t 0), none⟩,
⟨(some 8), .assign (.c (.imm .exact [])), none⟩,
⟨(some 9), .assign (.c (.int .i64 0)), none⟩])
    (.seq (.region false [] [
⟨(some 24), .load 0 (.t 4), none⟩,
⟨(some 25), .move (.t 1), none⟩,
⟨(some 26), .move (.t 3), none⟩,
⟨(some 27), .call 0 (.f 91) [(.t 24), (.t 25), (.t 26)], none⟩,
⟨(some 10), .assign (.t 27), none⟩])
    (.seq (.seq (.region false [] [
⟨(some 28), .move (.t 10), none⟩,
⟨(some 29), .bin .neq 3 (.t 28) (.c (.int .i64 0)), none⟩])
    (.cond (.t 29) (.seq (.region false [] [
⟨(some 30), .move (.t 10), none⟩,
⟨(some 8), .assign (.c (.imm .exact [])), none⟩,
⟨(some 9), .assign (.t 30), none⟩])
    (.ret)) (.skip)))
    (.seq (.region false [] [
⟨(some 31), .bslice false 9 0 [], none⟩,
⟨(some 11), .assign (.t 31), none⟩])
    (.seq (.seq (.region false [] [
⟨(some 12), .assign (.c (.int .i64 0)), none⟩])
    (.block 0 (.loop (.seq (.seq (.region false [] [
⟨(some 32), .move (.t 12), none⟩,
⟨(some 33), .move (.t 3), none⟩,
⟨(some 34), .len 9 (.t 33), none⟩,
⟨(some 35), .bin .lss 2 (.t 32) (.t 34), none⟩])
    (.cond (.t 35) (.skip) (.exit 0)))
    (.seq (.block 1 (.seq (.region false [] [
⟨(some 38), .bslice false 6 0 [], none⟩,
⟨(some 13), .assign (.t 38), none⟩])
    (.seq (.seq (.region false [] [
⟨(some 14), .assign (.c (.int .i64 0)), none⟩])
    (.block 2 (.loop (.seq (.seq (.region false [] [
⟨(some 39), .move (.t 14), none⟩,
⟨(some 40), .move (.t 3), none⟩,
⟨(some 41), .move (.t 12), none⟩,
⟨(some 42), .iaddr 9 (.t 40) (.t 41), none⟩,
⟨(some 43), .load 6 (.t 42), none⟩,
⟨(some 44), .len 6 (.t 43), none⟩,
⟨(some 45), .bin .lss 2 (.t 39) (.t 44), none⟩])
    (.cond (.t 45) (.skip) (.exit 2)))
    (.seq (.block 3 (.region true [] [
⟨(some 48), .move (.t 13), none⟩,
⟨(some 49), .move (.t 3), none⟩,
⟨(some 50), .move (.t 12), none⟩,
⟨(some 51), .iaddr 9 (.t 49) (.t 50), none⟩,
⟨(some 52), .load 6 (.t 51), none⟩,
⟨(some 53), .move (.t 14), none⟩,
⟨(some 54), .iaddr 6 (.t 52) (.t 53), none⟩,
⟨(some 55), .load 2 (.t 54), none⟩,
⟨(some 56), .faddr 0 (.t 4) 1, none⟩,
⟨(some 57), .load 9 (.t 56), none⟩,
⟨(some 58), .move (.t 12), none⟩,
⟨(some 59), .iaddr 9 (.t 57) (.t 58), none⟩,
⟨(some 60), .load 6 (.t 59), none⟩,
⟨(some 61), .move (.t 14), none⟩,
⟨(some 62), .iaddr 6 (.t 60) (.t 61), none⟩,
⟨(some 63), .load 2 (.t 62), none⟩,
⟨(some 64), .bin .sub 2 (.t 55) (.t 63), none⟩,
⟨(some 65), .bslice false 6 1 [(0, (.t 64))], none⟩,
⟨(some 66), .append 2 6 6 (.t 48) (.t 65), none⟩,
⟨(some 13), .assign (.t 66), none⟩]))
    (.region false [] [
⟨(some 46), .move (.t 14), none⟩,
⟨(some 47), .bin .add 2 (.t 46) (.c (.int .i64 1)), none⟩,
⟨(some 14), .assign (.t 47), none⟩]))))))
    (.region false [] [
⟨(some 67), .move (.t 11), none⟩,
⟨(some 68), .move (.t 13), none⟩,
⟨(some 69), .bslice false 9 1 [(0, (.t 68))], none⟩,
⟨(some 70), .append 0 9 9 (.t 67) (.t 69), none⟩,
⟨(some 11), .assign (.t 70), none⟩]))))
    (.region false [] [
⟨(some 36), .move (.t 12), none⟩,
⟨(some 37), .bin .add 2 (.t 36) (.c (.int .i64 1)), none⟩,
⟨(some 12), .assign (.t 37), none⟩]))))))
    (.seq (.seq (.region false [] [
⟨(some 15), .assign (.c (.int .i64 0)), none⟩])
    (.block 4 (.loop (.seq (.seq (.region false [] [
⟨(some 71), .move (.t 15), none⟩,
⟨(some 72), .faddr 0 (.t 4) 2, none⟩,
⟨(some 73), .load 14 (.t 72), none⟩,
⟨(some 74), .len 14 (.t 73), none⟩,
⟨(some 75), .bin .lss 2 (.t 71) (.t 74), none⟩])
    (.cond (.t 75) (.skip) (.exit 4)))
    (.seq (.block 5 (.seq (.region false [] [
⟨(some 79), .load 0 (.t 4), none⟩,
⟨(some 80), .move (.t 1), none⟩,
⟨(some 81), .move (.t 2), none⟩,
⟨(some 82), .move (.t 3), none⟩,
⟨(some 83), .move (.t 15), none⟩,
⟨(some 84), .call 0 (.f 99) [(.t 79), (.t 80), (.t 81), (.t 82), (.t 83), (.c (.int .i64 1))], none⟩,
⟨(some 78), .move (.t 84), none⟩,
⟨(some 85), .extract (.t 78) 0, none⟩,
⟨(some 86), .extract (.t 78) 1, none⟩,
⟨(some 16), .assign (.t 85), none⟩,
⟨(some 17), .assign (.t 86), none⟩])
    (.seq (.seq (.region false [] [
⟨(some 87), .move (.t 16), none⟩,
⟨(some 88), .bin .lss 2 (.t 87) (.c (.int .i64 0)), none⟩])
    (.cond (.t 88) (.exit 5) (.skip)))
    (.seq (.region false [] [
⟨(some 89), .faddr 0 (.t 4) 2, none⟩,
⟨(some 90), .load 14 (.t 89), none⟩,
⟨(some 91), .move (.t 15), none⟩,
⟨(some 92), .iaddr 14 (.t 90) (.t 91), none⟩,
⟨(some 93), .load 15 (.t 92), none⟩,
⟨(some 18), .alloc 15, none⟩,
⟨none, .store 15 (.t 18) (.t 93), none⟩])
    (.seq (.region false [] [
⟨(some 19), .assign (.c (.int .i64 0)), none⟩])
    (.block 6 (.loop (.seq (.seq (.region false [] [
⟨(some 94), .move (.t 19), none⟩,
⟨(some 95), .faddr 15 (.t 18) 2, none⟩,
⟨(some 96), .load 6 (.t 95), none⟩,
⟨(some 97), .len 6 (.t 96), none⟩,
⟨(some 98), .bin .lss 2 (.t 94) (.t 97), none⟩])
    (.cond (.t 98) (.skip) (.exit 6)))
    (.seq (.block 7 (.seq (.region false [] [
⟨(some 20), .assign (.c (.int .i64 0)), none⟩])
    (.block 8 (.loop (.seq (.seq (.region false [] [
⟨(some 101), .move (.t 20), none⟩,
⟨(some 102), .faddr 15 (.t 18) 3, none⟩,
⟨(some 103), .load 16 (.t 102), none⟩,
⟨(some 104), .move (.t 16), none⟩,
⟨(some 105), .iaddr 16 (.t 103) (.t 104), none⟩,
⟨(some 106), .faddr 17 (.t 105) 3, none⟩,
⟨(some 107), .load 18 (.t 106), none⟩,
⟨(some 108), .len 18 (.t 107), none⟩,
⟨(some 109), .bin .lss 2 (.t 101) (.t 108), none⟩])
    (.cond (.t 109) (.skip) (.exit 8)))
    (.seq (.block 9 (.seq (.region true [] [
⟨(some 112), .load 0 (.t 4), none⟩,
⟨(some 113), .faddr 15 (.t 18) 3, none⟩,
⟨(some 114), .load 16 (.t 113), none⟩,
⟨(some 115), .move (.t 16), none⟩,
⟨(some 116), .iaddr 16 (.t 114) (.t 115), none⟩,
⟨(some 117), .faddr 17 (.t 116) 3, none⟩,
⟨(some 118), .load 18 (.t 117), none⟩,
⟨(some 119), .move (.t 20), none⟩,
⟨(some 120), .iaddr 18 (.t 118) (.t 119), none⟩,
⟨(some 121), .faddr 19 (.t 120) 0, none⟩,
⟨(some 122), .load 20 (.t 121), none⟩,
⟨(some 123), .call 0 (.f 100) [(.t 112), (.t 122)], none⟩,
⟨(some 21), .assign (.t 123), none⟩])
    (.region true [] [
⟨(some 124), .move (.t 11), none⟩,
⟨(some 125), .faddr 15 (.t 18) 2, none⟩,
⟨(some 126), .load 6 (.t 125), none⟩,
⟨(some 127), .move (.t 19), none⟩,
⟨(some 128), .iaddr 6 (.t 126) (.t 127), none⟩,
⟨(some 129), .load 2 (.t 128), none⟩,
⟨(some 130), .iaddr 9 (.t 124) (.t 129), none⟩,
⟨(some 131), .load 6 (.t 130), none⟩,
⟨(some 132), .move (.t 21), none⟩,
⟨(some 133), .move (.t 11), none⟩,
⟨(some 134), .faddr 15 (.t 18) 2, none⟩,
⟨(some 135), .load 6 (.t 134), none⟩,
⟨(some 136), .move (.t 19), none⟩,
⟨(some 137), .iaddr 6 (.t 135) (.t 136), none⟩,
⟨(some 138), .load 2 (.t 137), none⟩,
⟨(some 139), .iaddr 9 (.t 133) (.t 138), none⟩,
⟨(some 140), .load 6 (.t 139), none⟩,
⟨(some 141), .move (.t 21), none⟩,
⟨(some 142), .iaddr 6 (.t 140) (.t 141), none⟩,
⟨(some 143), .load 2 (.t 142), none⟩,
⟨(some 144), .faddr 15 (.t 18) 3, none⟩,
⟨(some 145), .load 16 (.t 144), none⟩,
⟨(some 146), .move (.t 16), none⟩,
⟨(some 147), .iaddr 16 (.t 145) (.t 146), none⟩,
⟨(some 148), .faddr 17 (.t 147) 3, none⟩,
⟨(some 149), .load 18 (.t 148), none⟩,
⟨(some 150), .move (.t 20), none⟩,
⟨(some 151), .iaddr 18 (.t 149) (.t 150), none⟩,
⟨(some 152), .faddr 19 (.t 151) 1, none⟩,
⟨(some 153), .load 2 (.t 152), none⟩,
⟨(some 154), .bin .add 2 (.t 143) (.t 153), none⟩,
⟨(some 155), .iaddr 6 (.t 131) (.t 132), none⟩,
⟨none, .store 2 (.t 155) (.t 154), none⟩])))
    (.region false [] [
⟨(some 110), .move (.t 20), none⟩,
⟨(some 111), .bin .add 2 (.t 110) (.c (.int .i64 1)), none⟩,
⟨(some 20), .assign (.t 111), none⟩])))))))
    (.region false [] [
⟨(some 99), .move (.t 19), none⟩,
⟨(some 100), .bin .add 2 (.t 99) (.c (.int .i64 1)), none⟩,
⟨(some 19), .assign (.t 100), none⟩]))))))))))
    (.region false [] [
⟨(some 76), .move (.t 15), none⟩,
⟨(some 77), .bin .add 2 (.t 76) (.c (.int .i64 1)), none⟩,
⟨(some 15), .assign (.t 77), none⟩]))))))
    (.seq (.seq (.region false [] [
⟨(some 22), .assign (.c (.int .i64 0)), none⟩])
    (.block 10 (.loop (.seq (.seq (.region false [] [
⟨(some 156), .move (.t 22), none⟩,
⟨(some 157), .move (.t 11), none⟩,
⟨(some 158), .len 9 (.t 157), none⟩,
⟨(some 159), .bin .lss 2 (.t 156) (.t 158), none⟩])
    (.cond (.t 159) (.skip) (.exit 10)))
    (.seq (.block 11 (.seq (.region false [] [
⟨(some 23), .assign (.c (.int .i64 0)), none⟩])
    (.block 12 (.loop (.seq (.seq (.region false [] [
⟨(some 162), .move (.t 23), none⟩,
⟨(some 163), .move (.t 11), none⟩,
⟨(some 164), .move (.t 22), none⟩,
⟨(some 165), .iaddr 9 (.t 163) (.t 164), none⟩,
⟨(some 166), .load 6 (.t 165), none⟩,
⟨(some 167), .len 6 (.t 166), none⟩,
⟨(some 168), .bin .lss 2 (.t 162) (.t 167), none⟩])
    (.cond (.t 168) (.skip) (.exit 12)))
    (.seq (.block 13 (.region true [] [
⟨(some 171), .move (.t 11), none⟩,
⟨(some 172), .move (.t 22), none⟩,
⟨(some 173), .iaddr 9 (.t 171) (.t 172), none⟩,
⟨(some 174), .load 6 (.t 173), none⟩,
⟨(some 175), .move (.t 23), none⟩,
⟨(some 176), .move (.t 11), none⟩,
⟨(some 177), .move (.t 22), none⟩,
⟨(some 178), .iaddr 9 (.t 176) (.t 177), none⟩,
⟨(some 179), .load 6 (.t 178), none⟩,
⟨(some 180), .move (.t 23), none⟩,
⟨(some 181), .iaddr 6 (.t 179) (.t 180), none⟩,
⟨(some 182), .load 2 (.t 181), none⟩,
⟨(some 183), .maxi [(.t 182), (.c (.int .i64 0))], none⟩,
⟨(some 184), .mini [(.t 183), (.c (.int .i64 65536))], none⟩,
⟨(some 185), .iaddr 6 (.t 174) (.t 175), none⟩,
⟨none, .store 2 (.t 185) (.t 184), none⟩]))
    (.region false [] [
⟨(some 169), .move (.t 23), none⟩,
⟨(some 170), .bin .add 2 (.t 169) (.c (.int .i64 1)), none⟩,
⟨(some 23), .assign (.t 170), none⟩])))))))
    (.region false [] [
⟨(some 160), .move (.t 22), none⟩,
⟨(some 161), .bin .add 2 (.t 160) (.c (.int .i64 1)), none⟩,
⟨(some 22), .assign (.t 161), none⟩]))))))
    (.seq (.region false [] [
⟨(some 186), .move (.t 11), none⟩,
⟨(some 8), .assign (.t 186), none⟩,
⟨(some 9), .assign (.c (.int .i64 0)), none⟩])
    (.ret))))))))⟩

def f46 : DFn := ⟨27, [.tmp 4],
    .seq (.region false [] [
⟨(some 4), .assign (.c (.bool false)), none⟩])
    (.seq (.seq (.region false [] [
⟨(some 6), .move (.t 0), none⟩,
⟨(some 7), .len 9 (.t 6), none⟩,
⟨(some 8), .move (.t 1), none⟩,
⟨(some 9), .len 9 (.t 8), none⟩,
⟨(some 10), .bin .neq 2 (.t 7) (.t 9), none⟩])
    (.cond (.t 10) (.seq (.region false [] [
⟨(some 4), .assign (.c (.bool false)), none⟩])
    (.ret)) (.skip)))
    (.seq (.seq (.region false [] [
⟨(some 5), .assign (.c (.int .i64 0)), none⟩])
    (.block 0 (.loop (.seq (.seq (.region false [] [
⟨(some 11), .move (.t 5), none⟩,
⟨(some 12), .move (.t 0), none⟩,
⟨(some 13), .len 9 (.t 12), none⟩,
⟨(some 14), .bin .lss 2 (.t 11) (.t 13), none⟩])
    (.cond (.t 14) (.skip) (.exit 0)))
    (.seq (.block 1 (.seq (.region true [] [
⟨(some 17), .move (.t 0), none⟩,
⟨(some 18), .move (.t 5), none⟩,
⟨(some 19), .iaddr 9 (.t 17) (.t 18), none⟩,
⟨(some 20), .load 6 (.t 19), none⟩,
⟨(some 21), .move (.t 1), none⟩,
⟨(some 22), .move (.t 5), none⟩,
⟨(some 23), .iaddr 9 (.t 21) (.t 22), none⟩,
⟨(some 24), .load 6 (.t 23), none⟩,
⟨(some 25), .call 0 (.f 20) [(.t 20), (.t 24)], none⟩,
⟨(some 26), .un .not (.t 25), none⟩])
    (.cond (.t 26) (.seq (.region false [] [
⟨(some 4), .assign (.c (.bool false)), none⟩])
    (.ret)) (.skip))))
    (.region false [] [
⟨(some 15), .move (.t 5), none⟩,
⟨(some 16), .bin .add 2 (.t 15) (.c (.int .i64 1)), none⟩,
⟨(some 5), .assign (.t 16), none⟩]))))))
    (.seq (.region false [] [
⟨(some 4), .assign (.c (.bool true)), none⟩])
    (.ret))))⟩

def f47 : DFn := ⟨174, [.tmp 12],
    .seq (.region false [] [
⟨(some 6), .box 0 (.t 0), none⟩,
⟨(some 12), .assign (.c (.bool false)), none⟩])
    (.seq (.seq (.region false [] [
⟨(some 28), .call 0 (.f 35) [], none⟩,
⟨(some 29), .un .not (.t 28), none⟩])
    (.cond (.t 29) (.seq (.region false [] [
⟨(some 12), .assign (.c (.bool false)), none⟩])
    (.ret)) (.skip)))
    (.seq (.seq (.region false [] [
⟨(some 30), .load 0 (.t 6), none⟩,
⟨(some 31), .call 0 (.f 2) [(.t 30)], none⟩,
⟨(some 32), .un .not (.t 31), none⟩,
⟨(some 33), .move (.t 32), none⟩,
⟨(some 34), .move (.t 5), (some (33, false))⟩,
⟨(some 35), .call 0 (.f 36) [(.t 34)], (some (33, false))⟩,
⟨(some 36), .un .not (.t 35), (some (33, false))⟩,
⟨(some 37), .pick (.t 33) (.c (.bool true)) (.t 36), none⟩,
⟨(some 38), .move (.t 37), none⟩,
⟨(some 39), .move (.t 1), (some (38, false))⟩,
⟨(some 40), .len 1 (.t 39), (some (38, false))⟩,
⟨(some 41), .bin .gtr 2 (.t 40) (.c (.int .i64 20)), (some (38, false))⟩,
⟨(some 42), .pick (.t 38) (.c (.bool true)) (.t 41), none⟩])
    (.cond (.t 42) (.seq (.region false [] [
⟨(some 12), .assign (.c (.bool true)), none⟩])
    (.ret)) (.skip)))
    (.seq (.seq (.region false [] [
⟨(some 43), .move (.t 4), none⟩,
⟨(some 44), .move (.t 3), none⟩,
⟨(some 45), .bin .gtr 2 (.t 43) (.t 44), none⟩])
    (.cond (.t 45) (.region false [] [
⟨(some 46), .move (.t 3), none⟩,
⟨(some 47), .move (.t 4), none⟩,
⟨(some 4), .assign (.t 46), none⟩,
⟨(some 3), .assign (.t 47), none⟩]) (.skip)))
    (.seq (.region false [] [
⟨(some 49), .load 0 (.t 6), none⟩,
⟨(some 50), .move (.t 1), none⟩,
⟨(some 51), .move (.t 3), none⟩,
⟨(some 52), .move (.t 5), none⟩,
⟨(some 53), .call 0 (.f 37) [(.t 49), (.t 50), (.t 51), (.t 52)], none⟩,
⟨(some 48), .move (.t 53), none⟩,
⟨(some 54), .extract (.t 48) 0, none⟩,
⟨(some 55), .extract (.t 48) 1, none⟩,
⟨(some 56), .extract (.t 48) 2, none⟩,
⟨(some 13), .assign (.t 54), none⟩,
⟨(some 14), .assign (.t 55), none⟩,
⟨(some 15), .assign (.t 56), none⟩])
    (.seq (.region false [] [
⟨(some 58), .load 0 (.t 6), none⟩,
⟨(some 59), .move (.t 1), none⟩,
⟨(some 60), .move (.t 3), none⟩,
⟨(some 61), .move (.t 5), none⟩,
⟨(some 62), .call 0 (.f 39) [(.t 58), (.t 59), (.t 60), (.t 61)], none⟩,
⟨(some 57), .move (.t 62), none⟩,
⟨(some 63), .extract (.t 57) 0, none⟩,
⟨(some 64), .extract (.t 57) 1, none⟩,
⟨(some 16), .assign (.t 63), none⟩,
⟨(some 17), .assign (.t 64), none⟩])
    (.seq (.seq (.region false [] [
⟨(some 65), .move (.t 15), none⟩,
⟨(some 66), .bin .neq 3 (.t 65) (.c (.int .i64 0)), none⟩,
⟨(some 67), .move (.t 66), none⟩,
⟨(some 68), .move (.t 17), (some (67, false))⟩,
⟨(some 69), .bin .neq 3 (.t 68) (.c (.int .i64 0)), (some (67, false))⟩,
⟨(some 70), .pick (.t 67) (.c (.bool true)) (.t 69), none⟩])
    (.cond (.t 70) (.seq (.region false [] [
⟨(some 71), .move (.t 15), none⟩,
⟨(some 72), .move (.t 17), none⟩,
⟨(some 73), .bin .eql 3 (.t 71) (.t 72), none⟩,
⟨(some 12), .assign (.t 73), none⟩])
    (.ret)) (.skip)))
    (.seq (.region false [] [
⟨(some 75), .load 0 (.t 6), none⟩,
⟨(some 76), .move (.t 1), none⟩,
⟨(some 77), .move (.t 4), none⟩,
⟨(some 78), .move (.t 5), none⟩,
⟨(some 79), .call 0 (.f 37) [(.t 75), (.t 76), (.t 77), (.t 78)], none⟩,
⟨(some 74), .move (.t 79), none⟩,
⟨(some 80), .extract (.t 74) 0, none⟩,
⟨(some 81), .extract (.t 74) 1, none⟩,
⟨(some 82), .extract (.t 74) 2, none⟩,
⟨(some 18), .assign (.t 80), none⟩,
⟨(some 19), .assign (.t 81), none⟩,
⟨(some 20), .assign (.t 82), none⟩])
    (.seq (.region false [] [
⟨(some 84), .load 0 (.t 6), none⟩,
⟨(some 85), .move (.t 1), none⟩,
⟨(some 86), .move (.t 4), none⟩,
⟨(some 87), .move (.t 5), none⟩,
⟨(some 88), .call 0 (.f 39) [(.t 84), (.t 85), (.t 86), (.t 87)], none⟩,
⟨(some 83), .move (.t 88), none⟩,
⟨(some 89), .extract (.t 83) 0, none⟩,
⟨(some 90), .extract (.t 83) 1, none⟩,
⟨(some 21), .assign (.t 89), none⟩,
⟨(some 22), .assign (.t 90), none⟩])
    (.seq (.seq (.region false [] [
⟨(some 91), .move (.t 20), none⟩,
⟨(some 92), .bin .neq 3 (.t 91) (.c (.int .i64 0)), none⟩,
⟨(some 93), .move (.t 92), none⟩,
⟨(some 94), .move (.t 22), (some (93, false))⟩,
⟨(some 95), .bin .neq 3 (.t 94) (.c (.int .i64 0)), (some (93, false))⟩,
⟨(some 96), .pick (.t 93) (.c (.bool true)) (.t 95), none⟩,
⟨(some 97), .move (.t 96), none⟩,
⟨(some 98), .move (.t 19), (some (97, false))⟩,
⟨(some 99), .move (.t 98), (some (97, false))⟩,
⟨(some 100), .move (.t 14), (some (99, true))⟩,
⟨(some 101), .un .not (.t 100), (some (99, true))⟩,
⟨(some 102), .move (.t 101), (some (99, true))⟩,
⟨(some 103), .move (.t 18), (some (102, false))⟩,
⟨(some 104), .move (.t 13), (some (102, false))⟩,
⟨(some 105), .bin .lss 2 (.t 103) (.t 104), (some (102, false))⟩,
⟨(some 106), .pick (.t 102) (.c (.bool true)) (.t 105), (some (99, true))⟩,
⟨(some 107), .pick (.t 99) (.t 106) (.c (.bool false)), (some (97, false))⟩,
⟨(some 108), .pick (.t 97) (.c (.bool true)) (.t 107), none⟩,
⟨(some 109), .move (.t 108), none⟩,
⟨(some 110), .move (.t 16), (some (109, false))⟩,
⟨(some 111), .move (.t 110), (some (109, false))⟩,
⟨(some 112), .move (.t 21), (some (111, true))⟩,
⟨(some 113), .un .not (.t 112), (some (111, true))⟩,
⟨(some 114), .pick (.t 111) (.t 113) (.c (.bool false)), (some (109, false))⟩,
⟨(some 115), .pick (.t 109) (.c (.bool true)) (.t 114), none⟩])
    (.cond (.t 115) (.seq (.region false [] [
⟨(some 12), .assign (.c (.bool false)), none⟩])
    (.ret)) (.skip)))
    (.seq (.region true [] [
⟨(some 117), .load 0 (.t 6), none⟩,
⟨(some 118), .bslice false 1 0 [], none⟩,
⟨(some 119), .move (.t 1), none⟩,
⟨(some 120), .append 0 1 1 (.t 118) (.t 119), none⟩,
⟨(some 121), .move (.t 2), none⟩,
⟨(some 122), .bslice false 1 1 [(0, (.t 121))], none⟩,
⟨(some 123), .append 0 1 1 (.t 120) (.t 122), none⟩,
⟨(some 124), .move (.t 3), none⟩,
⟨(some 125), .move (.t 5), none⟩,
⟨(some 126), .call 0 (.f 37) [(.t 117), (.t 123), (.t 124), (.t 125)], none⟩,
⟨(some 116), .move (.t 126), none⟩,
⟨(some 127), .extract (.t 116) 0, none⟩,
⟨(some 128), .extract (.t 116) 1, none⟩,
⟨(some 129), .extract (.t 116) 2, none⟩,
⟨(some 23), .assign (.t 127), none⟩,
⟨(some 24), .assign (.t 128), none⟩,
⟨(some 25), .assign (.t 129), none⟩])
    (.seq (.region true [] [
⟨(some 131), .load 0 (.t 6), none⟩,
⟨(some 132), .bslice false 1 0 [], none⟩,
⟨(some 133), .move (.t 1), none⟩,
⟨(some 134), .append 0 1 1 (.t 132) (.t 133), none⟩,
⟨(some 135), .move (.t 2), none⟩,
⟨(some 136), .bslice false 1 1 [(0, (.t 135))], none⟩,
⟨(some 137), .append 0 1 1 (.t 134) (.t 136), none⟩,
⟨(some 138), .move (.t 3), none⟩,
⟨(some 139), .move (.t 5), none⟩,
⟨(some 140), .call 0 (.f 39) [(.t 131), (.t 137), (.t 138), (.t 139)], none⟩,
⟨(some 130), .move (.t 140), none⟩,
⟨(some 141), .extract (.t 130) 0, none⟩,
⟨(some 142), .extract (.t 130) 1, none⟩,
⟨(some 26), .assign (.t 141), none⟩,
⟨(some 27), .assign (.t 142), none⟩])
    (.seq (.seq (.region false [] [
⟨(some 143), .move (.t 25), none⟩,
⟨(some 144), .bin .neq 3 (.t 143) (.c (.int .i64 0)), none⟩,
⟨(some 145), .move (.t 144), none⟩,
⟨(some 146), .move (.t 27), (some (145, false))⟩,
⟨(some 147), .bin .neq 3 (.t 146) (.c (.int .i64 0)), (some (145, false))⟩,
⟨(some 148), .pick (.t 145) (.c (.bool true)) (.t 147), none⟩])
    (.cond (.t 148) (.seq (.region false [] [
⟨(some 149), .move (.t 25), none⟩,
⟨(some 150), .bin .eql 3 (.t 149) (.c (.int .i64 290)), none⟩,
⟨(some 151), .move (.t 150), none⟩,
⟨(some 152), .move (.t 27), (some (151, true))⟩,
⟨(some 153), .bin .eql 3 (.t 152) (.c (.int .i64 290)), (some (151, true))⟩,
⟨(some 154), .pick (.t 151) (.t 153) (.c (.bool false)), none⟩,
⟨(some 12), .assign (.t 154), none⟩])
    (.ret)) (.skip)))
    (.seq (.region false [] [
⟨(some 155), .move (.t 24), none⟩,
⟨(some 156), .move (.t 155), none⟩,
⟨(some 157), .move (.t 14), (some (156, true))⟩,
⟨(some 158), .un .not (.t 157), (some (156, true))⟩,
⟨(some 159), .move (.t 158), (some (156, true))⟩,
⟨(some 160), .move (.t 23), (some (159, false))⟩,
⟨(some 161), .move (.t 13), (some (159, false))⟩,
⟨(some 162), .bin .lss 2 (.t 160) (.t 161), (some (159, false))⟩,
⟨(some 163), .pick (.t 159) (.c (.bool true)) (.t 162), (some (156, true))⟩,
⟨(some 164), .pick (.t 156) (.t 163) (.c (.bool false)), none⟩,
⟨(some 165), .un .not (.t 164), none⟩,
⟨(some 166), .move (.t 165), none⟩,
⟨(some 167), .move (.t 16), (some (166, true))⟩,
⟨(some 168), .move (.t 167), (some (166, true))⟩,
⟨(some 169), .move (.t 26), (some (168, true))⟩,
⟨(some 170), .un .not (.t 169), (some (168, true))⟩,
⟨(some 171), .pick (.t 168) (.t 170) (.c (.bool false)), (some (166, true))⟩,
⟨(some 172), .un .not (.t 171), (some (166, true))⟩,
⟨(some 173), .pick (.t 166) (.t 172) (.c (.bool false)), none⟩,
⟨(some 12), .assign (.t 173), none⟩])
    (.ret))))))))))))))⟩

def f48 : DFn := ⟨167, [.tmp 6],
    .seq (.region false [] [
⟨(some 3), .box 0 (.t 0), none⟩,
⟨(some 6), .assign (.c (.bool false)), none⟩])
    (.seq (.seq (.region false [] [
⟨(some 21), .call 0 (.f 35) [], none⟩,
⟨(some 22), .un .not (.t 21), none⟩])
    (.cond (.t 22) (.seq (.region false [] [
⟨(some 6), .assign (.c (.bool false)), none⟩])
    (.ret)) (.skip)))
    (.seq (.seq (.region false [] [
⟨(some 23), .load 0 (.t 3), none⟩,
⟨(some 24), .call 0 (.f 2) [(.t 23)], none⟩,
⟨(some 25), .un .not (.t 24), none⟩,
⟨(some 26), .move (.t 25), none⟩,
⟨(some 27), .move (.t 1), (some (26, false))⟩,
⟨(some 28), .len 1 (.t 27), (some (26, false))⟩,
⟨(some 29), .bin .gtr 2 (.t 28) (.c (.int .i64 20)), (some (26, false))⟩,
⟨(some 30), .pick (.t 26) (.c (.bool true)) (.t 29), none⟩,
⟨(some 31), .move (.t 30), none⟩,
⟨(some 32), .load 0 (.t 3), (some (31, false))⟩,
⟨(some 33), .call 0 (.f 15) [(.t 32)], (some (31, false))⟩,
⟨(some 34), .bin .neq 3 (.t 33) (.c (.int .i64 0)), (some (31, false))⟩,
⟨(some 35), .pick (.t 31) (.c (.bool true)) (.t 34), none⟩])
    (.cond (.t 35) (.seq (.region false [] [
⟨(some 6), .assign (.c (.bool true)), none⟩])
    (.ret)) (.skip)))
    (.seq (.region false [] [
⟨(some 7), .assign (.c (.imm .exact [])), none⟩])
    (.seq (.seq (.region false [] [
⟨(some 36), .faddr 0 (.t 3) 1, none⟩,
⟨(some 37), .load 9 (.t 36), none⟩,
⟨(some 38), .len 9 (.t 37), none⟩,
⟨(some 39), .move (.c (.int .i64 0)), none⟩])
    (.block 0 (.loop (.seq (.region false [] [
⟨(some 40), .bin .lss 2 (.t 39) (.t 38), none⟩])
    (.seq (.cond (.t 40) (.skip) (.exit 0))
    (.seq (.block 1 (.region false [] [
⟨(some 41), .move (.t 7), none⟩,
⟨(some 42), .faddr 0 (.t 3) 0, none⟩,
⟨(some 43), .load 10 (.t 42), none⟩,
⟨(some 44), .len 10 (.t 43), none⟩,
⟨(some 45), .mkslice false 6 (.t 44) (.t 44), none⟩,
⟨(some 46), .bslice false 9 1 [(0, (.t 45))], none⟩,
⟨(some 47), .append 0 9 9 (.t 41) (.t 46), none⟩,
⟨(some 7), .assign (.t 47), none⟩]))
    (.region false [] [
⟨(some 48), .bin .add 2 (.t 39) (.c (.int .i64 1)), none⟩,
⟨(some 39), .move (.t 48), none⟩])))))))
    (.seq (.region false [] [
⟨(some 50), .load 0 (.t 3), none⟩,
⟨(some 51), .move (.t 1), none⟩,
⟨(some 52), .move (.t 2), none⟩,
⟨(some 53), .move (.t 7), none⟩,
⟨(some 54), .call 0 (.f 37) [(.t 50), (.t 51), (.t 52), (.t 53)], none⟩,
⟨(some 49), .move (.t 54), none⟩,
⟨(some 55), .extract (.t 49) 0, none⟩,
⟨(some 56), .extract (.t 49) 1, none⟩,
⟨(some 57), .extract (.t 49) 2, none⟩,
⟨(some 8), .assign (.t 55), none⟩,
⟨(some 9), .assign (.t 56), none⟩,
⟨(some 10), .assign (.t 57), none⟩])
    (.seq (.region false [] [
⟨(some 59), .load 0 (.t 3), none⟩,
⟨(some 60), .move (.t 1), none⟩,
⟨(some 61), .move (.t 2), none⟩,
⟨(some 62), .move (.t 7), none⟩,
⟨(some 63), .call 0 (.f 39) [(.t 59), (.t 60), (.t 61), (.t 62)], none⟩,
⟨(some 58), .move (.t 63), none⟩,
⟨(some 64), .extract (.t 58) 0, none⟩,
⟨(some 65), .extract (.t 58) 1, none⟩,
⟨(some 11), .assign (.t 64), none⟩,
⟨(some 12), .assign (.t 65), none⟩])
    (.seq (.seq (.region false [] [
⟨(some 66), .move (.t 10), none⟩,
⟨(some 67), .bin .neq 3 (.t 66) (.c (.int .i64 0)), none⟩])
    (.cond (.t 67) (.seq (.region false [] [
⟨(some 68), .move (.t 10), none⟩,
⟨(some 69), .bin .eql 3 (.t 68) (.c (.int .i64 290)), none⟩,
⟨(some 70), .move (.t 69), none⟩,
⟨(some 71), .move (.t 12), (some (70, true))⟩,
⟨(some 72), .move (.t 10), (some (70, true))⟩,
⟨(some 73), .bin .eql 3 (.t 71) (.t 72), (some (70, true))⟩,
⟨(some 74), .pick (.t 70) (.t 73) (.c (.bool false)), none⟩,
⟨(some 6), .assign (.t 74), none⟩])
    (.ret)) (.skip)))
    (.seq (.region false [] [
⟨(some 13), .assign (.c (.int .i64 0)), none⟩,
⟨(some 14), .assign (.c (.bool true)), none⟩])
    (.seq (.seq (.region false [] [
⟨(some 75), .faddr 0 (.t 3) 2, none⟩,
⟨(some 76), .load 14 (.t 75), none⟩,
⟨(some 77), .len 14 (.t 76), none⟩,
⟨(some 78), .move (.c (.int .i64 0)), none⟩])
    (.block 2 (.loop (.seq (.region false [] [
⟨(some 79), .bin .lss 2 (.t 78) (.t 77), none⟩])
    (.seq (.cond (.t 79) (.skip) (.exit 2))
    (.seq (.block 3 (.seq (.region false [] [
⟨(some 80), .move (.t 78), none⟩,
⟨(some 81), .iaddr 14 (.t 76) (.t 78), none⟩,
⟨(some 82), .load 15 (.t 81), none⟩,
⟨(some 16), .alloc 15, none⟩,
⟨(some 15), .assign (.t 80), none⟩,
⟨none, .store 15 (.t 16) (.t 82), none⟩])
    (.seq (.region false [] [
⟨(some 17), .assign (.c (.int .i64 0)), none⟩,
⟨(some 18), .assign (.c (.bool false)), none⟩])
    (.seq (.seq (.region false [] [
⟨(some 83), .faddr 15 (.t 16) 3, none⟩,
⟨(some 84), .load 16 (.t 83), none⟩,
⟨(some 85), .len 16 (.t 84), none⟩,
⟨(some 86), .move (.c (.int .i64 0)), none⟩])
    (.block 4 (.loop (.seq (.region false [] [
⟨(some 87), .bin .lss 2 (.t 86) (.t 85), none⟩])
    (.seq (.cond (.t 87) (.skip) (.exit 4))
    (.seq (.block 5 (.seq (.region false [] [
⟨(some 88), .move (.t 86), none⟩,
⟨(some 89), .iaddr 16 (.t 84) (.t 86), none⟩,
⟨(some 90), .load 17 (.t 89), none⟩,
⟨(some 20), .alloc 17, none⟩,
⟨(some 19), .assign (.t 88), none⟩,
⟨none, .store 17 (.t 20) (.t 90), none⟩])
    (.seq (.region false [] [
⟨(some 91), .faddr 17 (.t 20) 0, none⟩,
⟨(some 92), .load 2 (.t 91), none⟩,
⟨(some 93), .move (.t 2), none⟩,
⟨(some 94), .bin .leq 2 (.t 92) (.t 93), none⟩,
⟨(some 95), .move (.t 94), none⟩,
⟨(some 96), .move (.t 15), (some (95, true))⟩,
⟨(some 97), .move (.t 1), (some (95, true))⟩,
⟨(some 98), .len 1 (.t 97), (some (95, true))⟩,
⟨(some 99), .bin .geq 2 (.t 96) (.t 98), (some (95, true))⟩,
⟨(some 100), .move (.t 99), (some (95, true))⟩,
⟨(some 101), .move (.t 1), (some (100, false))⟩,
⟨(some 102), .move (.t 15), (some (100, false))⟩,
⟨(some 103), .iaddr 1 (.t 101) (.t 102), (some (100, false))⟩,
⟨(some 104), .load 2 (.t 103), (some (100, false))⟩,
⟨(some 105), .move (.t 19), (some (100, false))⟩,
⟨(some 106), .bin .eql 2 (.t 104) (.t 105), (some (100, false))⟩,
⟨(some 107), .pick (.t 100) (.c (.bool true)) (.t 106), (some (95, true))⟩,
⟨(some 108), .pick (.t 95) (.t 107) (.c (.bool false)), none⟩,
⟨(some 109), .move (.t 108), none⟩,
⟨(some 110), .move (.t 18), (some (109, true))⟩,
⟨(some 111), .un .not (.t 110), (some (109, true))⟩,
⟨(some 112), .move (.t 111), (some (109, true))⟩,
⟨(some 113), .faddr 17 (.t 20) 1, (some (112, false))⟩,
⟨(some 114), .load 2 (.t 113), (some (112, false))⟩,
⟨(some 115), .faddr 15 (.t 16) 2, (some (112, false))⟩,
⟨(some 116), .load 6 (.t 115), (some (112, false))⟩,
⟨(some 117), .len 6 (.t 116), (some (112, false))⟩,
⟨(some 118), .bin .mul 2 (.t 114) (.t 117), (some (112, false))⟩,
⟨(some 119), .move (.t 17), (some (112, false))⟩,
⟨(some 120), .bin .lss 2 (.t 118) (.t 119), (some (112, false))⟩,
⟨(some 121), .pick (.t 112) (.c (.bool true)) (.t 120), (some (109, true))⟩,
⟨(some 122), .pick (.t 109) (.t 121) (.c (.bool false)), none⟩])
    (.cond (.t 122) (.region false [] [
⟨(some 123), .faddr 17 (.t 20) 1, none⟩,
⟨(some 124), .load 2 (.t 123), none⟩,
⟨(some 125), .faddr 15 (.t 16) 2, none⟩,
⟨(some 126), .load 6 (.t 125), none⟩,
⟨(some 127), .len 6 (.t 126), none⟩,
⟨(some 128), .bin .mul 2 (.t 124) (.t 127), none⟩,
⟨(some 17), .assign (.t 128), none⟩,
⟨(some 18), .assign (.c (.bool true)), none⟩]) (.skip)))))
    (.region false [] [
⟨(some 129), .bin .add 2 (.t 86) (.c (.int .i64 1)), none⟩,
⟨(some 86), .move (.t 129), none⟩])))))))
    (.seq (.region false [] [
⟨(some 130), .move (.t 13), none⟩,
⟨(some 131), .move (.t 17), none⟩,
⟨(some 132), .bin .add 2 (.t 130) (.t 131), none⟩,
⟨(some 13), .assign (.t 132), none⟩])
    (.region false [] [
⟨(some 133), .move (.t 14), none⟩,
⟨(some 134), .move (.t 133), none⟩,
⟨(some 135), .move (.t 18), (some (134, true))⟩,
⟨(some 136), .pick (.t 134) (.t 135) (.c (.bool false)), none⟩,
⟨(some 14), .assign (.t 136), none⟩]))))))
    (.region false [] [
⟨(some 137), .bin .add 2 (.t 78) (.c (.int .i64 1)), none⟩,
⟨(some 78), .move (.t 137), none⟩])))))))
    (.seq (.region false [] [
⟨(some 138), .move (.t 9), none⟩,
⟨(some 139), .move (.t 14), none⟩,
⟨(some 140), .bin .eql 7 (.t 138) (.t 139), none⟩,
⟨(some 141), .move (.t 140), none⟩,
⟨(some 142), .move (.t 14), (some (141, true))⟩,
⟨(some 143), .un .not (.t 142), (some (141, true))⟩,
⟨(some 144), .move (.t 143), (some (141, true))⟩,
⟨(some 145), .move (.t 8), (some (144, false))⟩,
⟨(some 146), .move (.t 13), (some (144, false))⟩,
⟨(some 147), .bin .eql 2 (.t 145) (.t 146), (some (144, false))⟩,
⟨(some 148), .pick (.t 144) (.c (.bool true)) (.t 147), (some (141, true))⟩,
⟨(some 149), .pick (.t 141) (.t 148) (.c (.bool false)), none⟩,
⟨(some 150), .move (.t 149), none⟩,
⟨(some 151), .move (.t 14), (some (150, true))⟩,
⟨(some 152), .move (.t 151), (some (150, true))⟩,
⟨(some 153), .move (.t 8), (some (152, false))⟩,
⟨(some 154), .bin .eql 2 (.t 153) (.c (.int .i64 0)), (some (152, false))⟩,
⟨(some 155), .pick (.t 152) (.c (.bool true)) (.t 154), (some (150, true))⟩,
⟨(some 156), .pick (.t 150) (.t 155) (.c (.bool false)), none⟩,
⟨(some 157), .move (.t 156), none⟩,
⟨(some 158), .move (.t 12), (some (157, true))⟩,
⟨(some 159), .bin .eql 3 (.t 158) (.c (.int .i64 0)), (some (157, true))⟩,
⟨(some 160), .pick (.t 157) (.t 159) (.c (.bool false)), none⟩,
⟨(some 161), .move (.t 160), none⟩,
⟨(some 162), .move (.t 11), (some (161, true))⟩,
⟨(some 163), .move (.t 14), (some (161, true))⟩,
⟨(some 164), .un .not (.t 163), (some (161, true))⟩,
⟨(some 165), .bin .eql 7 (.t 162) (.t 164), (some (161, true))⟩,
⟨(some 166), .pick (.t 161) (.t 165) (.c (.bool false)), none⟩,
⟨(some 6), .assign (.t 166), none⟩])
    (.ret)))))))))))⟩

def f49 : DFn := ⟨156, [.tmp 12],
    .seq (.region false [] [
⟨(some 6), .box 0 (.t 0), none⟩,
⟨(some 12), .assign (.c (.bool false)), none⟩])
    (.seq (.seq (.region false [] [
⟨(some 26), .call 0 (.f 35) [], none⟩,
⟨(some 27), .un .not (.t 26), none⟩])
    (.cond (.t 27) (.seq (.region false [] [
⟨(some 12), .assign (.c (.bool false)), none⟩])
    (.ret)) (.skip)))
    (.seq (.seq (.region false [] [
⟨(some 28), .load 0 (.t 6), none⟩,
⟨(some 29), .call 0 (.f 2) [(.t 28)], none⟩,
⟨(some 30), .un .not (.t 29), none⟩,
⟨(some 31), .move (.t 30), none⟩,
⟨(some 32), .move (.t 3), (some (31, false))⟩,
⟨(some 33), .call 0 (.f 36) [(.t 32)], (some (31, false))⟩,
⟨(some 34), .un .not (.t 33), (some (31, false))⟩,
⟨(some 35), .pick (.t 31) (.c (.bool true)) (.t 34), none⟩,
⟨(some 36), .move (.t 35), none⟩,
⟨(some 37), .move (.t 1), (some (36, false))⟩,
⟨(some 38), .len 1 (.t 37), (some (36, false))⟩,
⟨(some 39), .bin .gtr 2 (.t 38) (.c (.int .i64 20)), (some (36, false))⟩,
⟨(some 40), .pick (.t 36) (.c (.bool true)) (.t 39), none⟩,
⟨(some 41), .move (.t 40), none⟩,
⟨(some 42), .load 0 (.t 6), (some (41, false))⟩,
⟨(some 43), .call 0 (.f 15) [(.t 42)], (some (41, false))⟩,
⟨(some 44), .bin .neq 3 (.t 43) (.c (.int .i64 0)), (some (41, false))⟩,
⟨(some 45), .pick (.t 41) (.c (.bool true)) (.t 44), none⟩,
⟨(some 46), .move (.t 45), none⟩,
⟨(some 47), .faddr 0 (.t 6) 0, (some (46, false))⟩,
⟨(some 48), .load 10 (.t 47), (some (46, false))⟩,
⟨(some 49), .len 10 (.t 48), (some (46, false))⟩,
⟨(some 50), .bin .eql 2 (.t 49) (.c (.int .i64 0)), (some (46, false))⟩,
⟨(some 51), .pick (.t 46) (.c (.bool true)) (.t 50), none⟩,
⟨(some 52), .move (.t 51), none⟩,
⟨(some 53), .faddr 0 (.t 6) 1, (some (52, false))⟩,
⟨(some 54), .load 9 (.t 53), (some (52, false))⟩,
⟨(some 55), .len 9 (.t 54), (some (52, false))⟩,
⟨(some 56), .bin .eql 2 (.t 55) (.c (.int .i64 0)), (some (52, false))⟩,
⟨(some 57), .pick (.t 52) (.c (.bool true)) (.t 56), none⟩])
    (.cond (.t 57) (.seq (.region false [] [
⟨(some 12), .assign (.c (.bool true)), none⟩])
    (.ret)) (.skip)))
    (.seq (.region false [] [
⟨(some 58), .load 0 (.t 6), none⟩,
⟨(some 13), .alloc 0, none⟩,
⟨none, .store 0 (.t 13) (.t 58), none⟩])
    (.seq (.region false [] [
⟨(some 59), .bslice false 9 0 [], none⟩,
⟨(some 60), .faddr 0 (.t 6) 1, none⟩,
⟨(some 61), .load 9 (.t 60), none⟩,
⟨(some 62), .append 1 9 9 (.t 59) (.t 61), none⟩,
⟨(some 63), .faddr 0 (.t 13) 1, none⟩,
⟨none, .store 9 (.t 63) (.t 62), none⟩])
    (.seq (.region true [] [
⟨(some 64), .move (.t 4), none⟩,
⟨(some 65), .conv 13 2 (.t 64), none⟩,
⟨(some 66), .faddr 0 (.t 6) 1, none⟩,
⟨(some 67), .load 9 (.t 66), none⟩,
⟨(some 68), .len 9 (.t 67), none⟩,
⟨(some 69), .bin .rem 2 (.t 65) (.t 68), none⟩,
⟨(some 70), .move (.t 5), none⟩,
⟨(some 71), .conv 13 2 (.t 70), none⟩,
⟨(some 72), .faddr 0 (.t 6) 0, none⟩,
⟨(some 73), .load 10 (.t 72), none⟩,
⟨(some 74), .len 10 (.t 73), none⟩,
⟨(some 75), .bin .rem 2 (.t 71) (.t 74), none⟩,
⟨(some 14), .assign (.t 69), none⟩,
⟨(some 15), .assign (.t 75), none⟩])
    (.seq (.region true [] [
⟨(some 76), .faddr 0 (.t 13) 1, none⟩,
⟨(some 77), .load 9 (.t 76), none⟩,
⟨(some 78), .move (.t 14), none⟩,
⟨(some 79), .bslice false 6 0 [], none⟩,
⟨(some 80), .faddr 0 (.t 6) 1, none⟩,
⟨(some 81), .load 9 (.t 80), none⟩,
⟨(some 82), .move (.t 14), none⟩,
⟨(some 83), .iaddr 9 (.t 81) (.t 82), none⟩,
⟨(some 84), .load 6 (.t 83), none⟩,
⟨(some 85), .append 1 6 6 (.t 79) (.t 84), none⟩,
⟨(some 86), .iaddr 9 (.t 77) (.t 78), none⟩,
⟨none, .store 6 (.t 86) (.t 85), none⟩])
    (.seq (.region false [] [
⟨(some 87), .faddr 0 (.t 13) 1, none⟩,
⟨(some 88), .load 9 (.t 87), none⟩,
⟨(some 89), .move (.t 14), none⟩,
⟨(some 90), .iaddr 9 (.t 88) (.t 89), none⟩,
⟨(some 91), .load 6 (.t 90), none⟩,
⟨(some 92), .move (.t 15), none⟩,
⟨(some 93), .iaddr 6 (.t 91) (.t 92), none⟩,
⟨(some 94), .load 2 (.t 93), none⟩,
⟨(some 95), .bin .quo 2 (.t 94) (.c (.int .i64 2)), none⟩,
⟨(some 96), .iaddr 6 (.t 91) (.t 92), none⟩,
⟨none, .store 2 (.t 96) (.t 95), none⟩])
    (.seq (.region false [] [
⟨(some 98), .load 0 (.t 6), none⟩,
⟨(some 99), .move (.t 1), none⟩,
⟨(some 100), .move (.t 2), none⟩,
⟨(some 101), .move (.t 3), none⟩,
⟨(some 102), .call 0 (.f 37) [(.t 98), (.t 99), (.t 100), (.t 101)], none⟩,
⟨(some 97), .move (.t 102), none⟩,
⟨(some 103), .extract (.t 97) 0, none⟩,
⟨(some 104), .extract (.t 97) 1, none⟩,
⟨(some 105), .extract (.t 97) 2, none⟩,
⟨(some 16), .assign (.t 103), none⟩,
⟨(some 17), .assign (.t 104), none⟩,
⟨(some 18), .assign (.t 105), none⟩])
    (.seq (.region false [] [
⟨(some 107), .load 0 (.t 13), none⟩,
⟨(some 108), .move (.t 1), none⟩,
⟨(some 109), .move (.t 2), none⟩,
⟨(some 110), .move (.t 3), none⟩,
⟨(some 111), .call 1 (.f 37) [(.t 107), (.t 108), (.t 109), (.t 110)], none⟩,
⟨(some 106), .move (.t 111), none⟩,
⟨(some 112), .extract (.t 106) 0, none⟩,
⟨(some 113), .extract (.t 106) 1, none⟩,
⟨(some 114), .extract (.t 106) 2, none⟩,
⟨(some 19), .assign (.t 112), none⟩,
⟨(some 20), .assign (.t 113), none⟩,
⟨(some 21), .assign (.t 114), none⟩])
    (.seq (.region false [] [
⟨(some 116), .load 0 (.t 6), none⟩,
⟨(some 117), .move (.t 1), none⟩,
⟨(some 118), .move (.t 2), none⟩,
⟨(some 119), .move (.t 3), none⟩,
⟨(some 120), .call 0 (.f 39) [(.t 116), (.t 117), (.t 118), (.t 119)], none⟩,
⟨(some 115), .move (.t 120), none⟩,
⟨(some 121), .extract (.t 115) 0, none⟩,
⟨(some 122), .extract (.t 115) 1, none⟩,
⟨(some 22), .assign (.t 121), none⟩,
⟨(some 23), .assign (.t 122), none⟩])
    (.seq (.region false [] [
⟨(some 124), .load 0 (.t 13), none⟩,
⟨(some 125), .move (.t 1), none⟩,
⟨(some 126), .move (.t 2), none⟩,
⟨(some 127), .move (.t 3), none⟩,
⟨(some 128), .call 1 (.f 39) [(.t 124), (.t 125), (.t 126), (.t 127)], none⟩,
⟨(some 123), .move (.t 128), none⟩,
⟨(some 129), .extract (.t 123) 0, none⟩,
⟨(some 130), .extract (.t 123) 1, none⟩,
⟨(some 24), .assign (.t 129), none⟩,
⟨(some 25), .assign (.t 130), none⟩])
    (.seq (.region false [] [
⟨(some 131), .move (.t 18), none⟩,
⟨(some 132), .move (.t 21), none⟩,
⟨(some 133), .bin .eql 3 (.t 131) (.t 132), none⟩,
⟨(some 134), .move (.t 133), none⟩,
⟨(some 135), .move (.t 23), (some (134, true))⟩,
⟨(some 136), .move (.t 25), (some (134, true))⟩,
⟨(some 137), .bin .eql 3 (.t 135) (.t 136), (some (134, true))⟩,
⟨(some 138), .pick (.t 134) (.t 137) (.c (.bool false)), none⟩,
⟨(some 139), .move (.t 138), none⟩,
⟨(some 140), .move (.t 17), (some (139, true))⟩,
⟨(some 141), .move (.t 20), (some (139, true))⟩,
⟨(some 142), .bin .eql 7 (.t 140) (.t 141), (some (139, true))⟩,
⟨(some 143), .pick (.t 139) (.t 142) (.c (.bool false)), none⟩,
⟨(some 144), .move (.t 143), none⟩,
⟨(some 145), .move (.t 19), (some (144, true))⟩,
⟨(some 146), .move (.t 16), (some (144, true))⟩,
⟨(some 147), .bin .geq 2 (.t 145) (.t 146), (some (144, true))⟩,
⟨(some 148), .pick (.t 144) (.t 147) (.c (.bool false)), none⟩,
⟨(some 149), .move (.t 148), none⟩,
⟨(some 150), .move (.t 22), (some (149, true))⟩,
⟨(some 151), .un .not (.t 150), (some (149, true))⟩,
⟨(some 152), .move (.t 151), (some (149, true))⟩,
⟨(some 153), .move (.t 24), (some (152, false))⟩,
⟨(some 154), .pick (.t 152) (.c (.bool true)) (.t 153), (some (149, true))⟩,
⟨(some 155), .pick (.t 149) (.t 154) (.c (.bool false)), none⟩,
⟨(some 12), .assign (.t 155), none⟩])
    (.ret)))))))))))))⟩

def f50 : DFn := ⟨169, [.tmp 8],
    .seq (.region false [] [
⟨(some 4), .box 0 (.t 0), none⟩,
⟨(some 8), .assign (.c (.bool false)), none⟩])
    (.seq (.seq (.region false [] [
⟨(some 26), .call 0 (.f 35) [], none⟩,
⟨(some 27), .un .not (.t 26), none⟩])
    (.cond (.t 27) (.seq (.region false [] [
⟨(some 8), .assign (.c (.bool false)), none⟩])
    (.ret)) (.skip)))
    (.seq (.seq (.region false [] [
⟨(some 28), .load 0 (.t 4), none⟩,
⟨(some 29), .call 0 (.f 2) [(.t 28)], none⟩,
⟨(some 30), .un .not (.t 29), none⟩,
⟨(some 31), .move (.t 30), none⟩,
⟨(some 32), .move (.t 3), (some (31, false))⟩,
⟨(some 33), .call 0 (.f 36) [(.t 32)], (some (31, false))⟩,
⟨(some 34), .un .not (.t 33), (some (31, false))⟩,
⟨(some 35), .pick (.t 31) (.c (.bool true)) (.t 34), none⟩,
⟨(some 36), .move (.t 35), none⟩,
⟨(some 37), .move (.t 1), (some (36, false))⟩,
⟨(some 38), .len 1 (.t 37), (some (36, false))⟩,
⟨(some 39), .bin .gtr 2 (.t 38) (.c (.int .i64 20)), (some (36, false))⟩,
⟨(some 40), .pick (.t 36) (.c (.bool true)) (.t 39), none⟩])
    (.cond (.t 40) (.seq (.region false [] [
⟨(some 8), .assign (.c (.bool true)), none⟩])
    (.ret)) (.skip)))
    (.seq (.region false [] [
⟨(some 42), .load 0 (.t 4), none⟩,
⟨(some 43), .move (.t 1), none⟩,
⟨(some 44), .move (.t 2), none⟩,
⟨(some 45), .move (.t 3), none⟩,
⟨(some 46), .call 0 (.f 44) [(.t 42), (.t 43), (.t 44), (.t 45)], none⟩,
⟨(some 41), .move (.t 46), none⟩,
⟨(some 47), .extract (.t 41) 0, none⟩,
⟨(some 48), .extract (.t 41) 1, none⟩,
⟨(some 9), .assign (.t 47), none⟩,
⟨(some 10), .assign (.t 48), none⟩])
    (.seq (.seq (.region false [] [
⟨(some 49), .move (.t 10), none⟩,
⟨(some 50), .bin .neq 3 (.t 49) (.c (.int .i64 0)), none⟩])
    (.cond (.t 50) (.seq (.region false [] [
⟨(some 51), .move (.t 9), none⟩,
⟨(some 52), .len 9 (.t 51), none⟩,
⟨(some 53), .bin .eql 2 (.t 52) (.c (.int .i64 0)), none⟩,
⟨(some 8), .assign (.t 53), none⟩])
    (.ret)) (.skip)))
    (.seq (.seq (.region false [] [
⟨(some 54), .load 0 (.t 4), none⟩,
⟨(some 55), .move (.t 9), none⟩,
⟨(some 56), .call 0 (.f 41) [(.t 54), (.t 55)], none⟩,
⟨(some 57), .bin .neq 3 (.t 56) (.c (.int .i64 0)), none⟩])
    (.cond (.t 57) (.seq (.region false [] [
⟨(some 8), .assign (.c (.bool false)), none⟩])
    (.ret)) (.skip)))
    (.seq (.seq (.region false [] [
⟨(some 58), .move (.t 9), none⟩,
⟨(some 59), .len 9 (.t 58), none⟩,
⟨(some 60), .move (.c (.int .i64 0)), none⟩])
    (.block 0 (.loop (.seq (.region false [] [
⟨(some 61), .bin .lss 2 (.t 60) (.t 59), none⟩])
    (.seq (.cond (.t 61) (.skip) (.exit 0))
    (.seq (.block 1 (.seq (.region false [] [
⟨(some 62), .move (.t 60), none⟩,
⟨(some 63), .iaddr 9 (.t 58) (.t 60), none⟩,
⟨(some 64), .load 6 (.t 63), none⟩,
⟨(some 11), .assign (.t 62), none⟩,
⟨(some 12), .assign (.t 64), none⟩])
    (.seq (.region false [] [
⟨(some 65), .move (.t 12), none⟩,
⟨(some 66), .len 6 (.t 65), none⟩,
⟨(some 67), .move (.c (.int .i64 0)), none⟩])
    (.block 2 (.loop (.seq (.region false [] [
⟨(some 68), .bin .lss 2 (.t 67) (.t 66), none⟩])
    (.seq (.cond (.t 68) (.skip) (.exit 2))
    (.seq (.block 3 (.seq (.region false [] [
⟨(some 69), .move (.t 67), none⟩,
⟨(some 70), .iaddr 6 (.t 65) (.t 67), none⟩,
⟨(some 71), .load 2 (.t 70), none⟩,
⟨(some 13), .assign (.t 69), none⟩,
⟨(some 14), .assign (.t 71), none⟩])
    (.seq (.region false [] [
⟨(some 15), .assign (.c (.int .i64 0)), none⟩])
    (.seq (.seq (.region false [] [
⟨(some 72), .faddr 0 (.t 4) 2, none⟩,
⟨(some 73), .load 14 (.t 72), none⟩,
⟨(some 74), .len 14 (.t 73), none⟩,
⟨(some 75), .move (.c (.int .i64 0)), none⟩])
    (.block 4 (.loop (.seq (.region false [] [
⟨(some 76), .bin .lss 2 (.t 75) (.t 74), none⟩])
    (.seq (.cond (.t 76) (.skip) (.exit 4))
    (.seq (.block 5 (.seq (.region false [] [
⟨(some 77), .iaddr 14 (.t 73) (.t 75), none⟩,
⟨(some 78), .load 15 (.t 77), none⟩,
⟨(some 17), .alloc 15, none⟩,
⟨none, .store 15 (.t 17) (.t 78), none⟩])
    (.seq (.region false [] [
⟨(some 18), .assign (.c (.bool false)), none⟩,
⟨(some 19), .assign (.c (.int .i64 0)), none⟩])
    (.seq (.seq (.region false [] [
⟨(some 79), .faddr 15 (.t 17) 2, none⟩,
⟨(some 80), .load 6 (.t 79), none⟩,
⟨(some 81), .len 6 (.t 80), none⟩,
⟨(some 82), .move (.c (.int .i64 0)), none⟩])
    (.block 6 (.loop (.seq (.region false [] [
⟨(some 83), .bin .lss 2 (.t 82) (.t 81), none⟩])
    (.seq (.cond (.t 83) (.skip) (.exit 6))
    (.seq (.block 7 (.seq (.region false [] [
⟨(some 84), .iaddr 6 (.t 80) (.t 82), none⟩,
⟨(some 85), .load 2 (.t 84), none⟩,
⟨(some 21), .assign (.t 85), none⟩])
    (.region false [] [
⟨(some 86), .move (.t 18), none⟩,
⟨(some 87), .move (.t 86), none⟩,
⟨(some 88), .move (.t 21), (some (87, false))⟩,
⟨(some 89), .move (.t 11), (some (87, false))⟩,
⟨(some 90), .bin .eql 2 (.t 88) (.t 89), (some (87, false))⟩,
⟨(some 91), .pick (.t 87) (.c (.bool true)) (.t 90), none⟩,
⟨(some 18), .assign (.t 91), none⟩])))
    (.region false [] [
⟨(some 92), .bin .add 2 (.t 82) (.c (.int .i64 1)), none⟩,
⟨(some 82), .move (.t 92), none⟩])))))))
    (.seq (.seq (.region false [] [
⟨(some 93), .faddr 15 (.t 17) 3, none⟩,
⟨(some 94), .load 16 (.t 93), none⟩,
⟨(some 95), .len 16 (.t 94), none⟩,
⟨(some 96), .move (.c (.int .i64 0)), none⟩])
    (.block 8 (.loop (.seq (.region false [] [
⟨(some 97), .bin .lss 2 (.t 96) (.t 95), none⟩])
    (.seq (.cond (.t 97) (.skip) (.exit 8))
    (.seq (.block 9 (.seq (.region false [] [
⟨(some 98), .iaddr 16 (.t 94) (.t 96), none⟩,
⟨(some 99), .load 17 (.t 98), none⟩,
⟨(some 23), .alloc 17, none⟩,
⟨none, .store 17 (.t 23) (.t 99), none⟩])
    (.seq (.region false [] [
⟨(some 100), .faddr 17 (.t 23) 3, none⟩,
⟨(some 101), .load 18 (.t 100), none⟩,
⟨(some 102), .len 18 (.t 101), none⟩,
⟨(some 103), .move (.c (.int .i64 0)), none⟩])
    (.block 10 (.loop (.seq (.region false [] [
⟨(some 104), .bin .lss 2 (.t 103) (.t 102), none⟩])
    (.seq (.cond (.t 104) (.skip) (.exit 10))
    (.seq (.block 11 (.seq (.region false [] [
⟨(some 105), .iaddr 18 (.t 101) (.t 103), none⟩,
⟨(some 106), .load 19 (.t 105), none⟩,
⟨(some 25), .alloc 19, none⟩,
⟨none, .store 19 (.t 25) (.t 106), none⟩])
    (.seq (.region true [] [
⟨(some 107), .faddr 19 (.t 25) 0, none⟩,
⟨(some 108), .load 20 (.t 107), none⟩,
⟨(some 109), .faddr 0 (.t 4) 0, none⟩,
⟨(some 110), .load 10 (.t 109), none⟩,
⟨(some 111), .move (.t 13), none⟩,
⟨(some 112), .iaddr 10 (.t 110) (.t 111), none⟩,
⟨(some 113), .load 20 (.t 112), none⟩,
⟨(some 114), .bin .eql 20 (.t 108) (.t 113), none⟩])
    (.cond (.t 114) (.region false [] [
⟨(some 115), .move (.t 19), none⟩,
⟨(some 116), .faddr 19 (.t 25) 1, none⟩,
⟨(some 117), .load 2 (.t 116), none⟩,
⟨(some 118), .maxi [(.t 115), (.t 117)], none⟩,
⟨(some 19), .assign (.t 118), none⟩]) (.skip)))))
    (.region false [] [
⟨(some 119), .bin .add 2 (.t 103) (.c (.int .i64 1)), none⟩,
⟨(some 103), .move (.t 119), none⟩])))))))))
    (.region false [] [
⟨(some 120), .bin .add 2 (.t 96) (.c (.int .i64 1)), none⟩,
⟨(some 96), .move (.t 120), none⟩])))))))
    (.seq (.region false [] [
⟨(some 121), .move (.t 18), none⟩])
    (.cond (.t 121) (.region false [] [
⟨(some 122), .move (.t 15), none⟩,
⟨(some 123), .move (.t 19), none⟩,
⟨(some 124), .bin .add 2 (.t 122) (.t 123), none⟩,
⟨(some 15), .assign (.t 124), none⟩]) (.skip))))))))
    (.region false [] [
⟨(some 125), .bin .add 2 (.t 75) (.c (.int .i64 1)), none⟩,
⟨(some 75), .move (.t 125), none⟩])))))))
    (.seq (.region true [] [
⟨(some 126), .move (.t 14), none⟩,
⟨(some 127), .move (.t 3), none⟩,
⟨(some 128), .move (.t 11), none⟩,
⟨(some 129), .iaddr 9 (.t 127) (.t 128), none⟩,
⟨(some 130), .load 6 (.t 129), none⟩,
⟨(some 131), .move (.t 13), none⟩,
⟨(some 132), .iaddr 6 (.t 130) (.t 131), none⟩,
⟨(some 133), .load 2 (.t 132), none⟩,
⟨(some 134), .faddr 0 (.t 4) 1, none⟩,
⟨(some 135), .load 9 (.t 134), none⟩,
⟨(some 136), .move (.t 11), none⟩,
⟨(some 137), .iaddr 9 (.t 135) (.t 136), none⟩,
⟨(some 138), .load 6 (.t 137), none⟩,
⟨(some 139), .move (.t 13), none⟩,
⟨(some 140), .iaddr 6 (.t 138) (.t 139), none⟩,
⟨(some 141), .load 2 (.t 140), none⟩,
⟨(some 142), .bin .sub 2 (.t 133) (.t 141), none⟩,
⟨(some 143), .bin .lss 2 (.t 126) (.t 142), none⟩,
⟨(some 144), .move (.t 143), none⟩,
⟨(some 145), .move (.t 14), (some (144, false))⟩,
⟨(some 146), .move (.t 3), (some (144, false))⟩,
⟨(some 147), .move (.t 11), (some (144, false))⟩,
⟨(some 148), .iaddr 9 (.t 146) (.t 147), (some (144, false))⟩,
⟨(some 149), .load 6 (.t 148), (some (144, false))⟩,
⟨(some 150), .move (.t 13), (some (144, false))⟩,
⟨(some 151), .iaddr 6 (.t 149) (.t 150), (some (144, false))⟩,
⟨(some 152), .load 2 (.t 151), (some (144, false))⟩,
⟨(some 153), .move (.t 15), (some (144, false))⟩,
⟨(some 154), .bin .add 2 (.t 152) (.t 153), (some (144, false))⟩,
⟨(some 155), .faddr 0 (.t 4) 1, (some (144, false))⟩,
⟨(some 156), .load 9 (.t 155), (some (144, false))⟩,
⟨(some 157), .move (.t 11), (some (144, false))⟩,
⟨(some 158), .iaddr 9 (.t 156) (.t 157), (some (144, false))⟩,
⟨(some 159), .load 6 (.t 158), (some (144, false))⟩,
⟨(some 160), .move (.t 13), (some (144, false))⟩,
⟨(some 161), .iaddr 6 (.t 159) (.t 160), (some (144, false))⟩,
⟨(some 162), .load 2 (.t 161), (some (144, false))⟩,
⟨(some 163), .bin .sub 2 (.t 154) (.t 162), (some (144, false))⟩,
⟨(some 164), .maxi [(.c (.int .i64 0)), (.t 163)], (some (144, false))⟩,
⟨(some 165), .bin .gtr 2 (.t 145) (.t 164), (some (144, false))⟩,
⟨(some 166), .pick (.t 144) (.c (.bool true)) (.t 165), none⟩])
    (.cond (.t 166) (.seq (.region false [] [
⟨(some 8), .assign (.c (.bool false)), none⟩])
    (.ret)) (.skip)))))))
    (.region false [] [
⟨(some 167), .bin .add 2 (.t 67) (.c (.int .i64 1)), none⟩,
⟨(some 67), .move (.t 167), none⟩])))))))))
    (.region false [] [
⟨(some 168), .bin .add 2 (.t 60) (.c (.int .i64 1)), none⟩,
⟨(some 60), .move (.t 168), none⟩])))))))
    (.seq (.region false [] [
⟨(some 8), .assign (.c (.bool true)), none⟩])
    (.ret))))))))⟩

def f61 : DFn := ⟨32, [.tmp 4],
    .seq (.region false [] [
⟨(some 2), .box 0 (.t 0), none⟩,
⟨(some 4), .assign (.c (.int .i64 0)), none⟩])
    (.seq (.region false [] [
⟨(some 5), .assign (.c (.int .i64 1)), none⟩])
    (.seq (.seq (.region false [] [
⟨(some 6), .assign (.c (.int .i64 0)), none⟩])
    (.block 0 (.loop (.seq (.seq (.region false [] [
⟨(some 7), .move (.t 6), none⟩,
⟨(some 8), .faddr 0 (.t 2) 2, none⟩,
⟨(some 9), .load 14 (.t 8), none⟩,
⟨(some 10), .len 14 (.t 9), none⟩,
⟨(some 11), .bin .lss 2 (.t 7) (.t 10), none⟩,
⟨(some 12), .move (.t 11), none⟩,
⟨(some 13), .move (.t 5), (some (12, true))⟩,
⟨(some 14), .move (.t 1), (some (12, true))⟩,
⟨(some 15), .bin .lss 2 (.t 13) (.t 14), (some (12, true))⟩,
⟨(some 16), .pick (.t 12) (.t 15) (.c (.bool false)), none⟩])
    (.cond (.t 16) (.skip) (.exit 0)))
    (.seq (.block 1 (.region false [] [
⟨(some 19), .move (.t 5), none⟩,
⟨(some 20), .faddr 0 (.t 2) 2, none⟩,
⟨(some 21), .load 14 (.t 20), none⟩,
⟨(some 22), .move (.t 6), none⟩,
⟨(some 23), .iaddr 14 (.t 21) (.t 22), none⟩,
⟨(some 24), .faddr 15 (.t 23) 3, none⟩,
⟨(some 25), .load 16 (.t 24), none⟩,
⟨(some 26), .len 16 (.t 25), none⟩,
⟨(some 27), .maxi [(.c (.int .i64 1)), (.t 26)], none⟩,
⟨(some 28), .bin .mul 2 (.t 19) (.t 27), none⟩,
⟨(some 5), .assign (.t 28), none⟩]))
    (.region false [] [
⟨(some 17), .move (.t 6), none⟩,
⟨(some 18), .bin .add 2 (.t 17) (.c (.int .i64 1)), none⟩,
⟨(some 6), .assign (.t 18), none⟩]))))))
    (.seq (.region false [] [
⟨(some 29), .move (.t 5), none⟩,
⟨(some 30), .move (.t 1), none⟩,
⟨(some 31), .mini [(.t 29), (.t 30)], none⟩,
⟨(some 4), .assign (.t 31), none⟩])
    (.ret))))⟩

def f67 : DFn := ⟨15, [.tmp 6],
    .seq (.region false [] [
⟨(some 6), .assign (.c (.bool false)), none⟩])
    (.seq (.region false [] [
⟨(some 7), .move (.t 1), none⟩,
⟨(some 8), .move (.t 0), none⟩,
⟨(some 9), .bin .leq 2 (.t 7) (.t 8), none⟩,
⟨(some 10), .move (.t 9), none⟩,
⟨(some 11), .move (.t 0), (some (10, true))⟩,
⟨(some 12), .move (.t 2), (some (10, true))⟩,
⟨(some 13), .bin .leq 2 (.t 11) (.t 12), (some (10, true))⟩,
⟨(some 14), .pick (.t 10) (.t 13) (.c (.bool false)), none⟩,
⟨(some 6), .assign (.t 14), none⟩])
    (.ret))⟩

def f69 : DFn := ⟨24, [.tmp 4],
    .seq (.region false [] [
⟨(some 4), .assign (.c (.bool false)), none⟩])
    (.seq (.seq (.region false [] [
⟨(some 5), .assign (.c (.int .i64 1)), none⟩])
    (.block 0 (.loop (.seq (.seq (.region false [] [
⟨(some 6), .move (.t 5), none⟩,
⟨(some 7), .move (.t 0), none⟩,
⟨(some 8), .len 10 (.t 7), none⟩,
⟨(some 9), .bin .lss 2 (.t 6) (.t 8), none⟩])
    (.cond (.t 9) (.skip) (.exit 0)))
    (.seq (.block 1 (.seq (.region true [] [
⟨(some 12), .move (.t 1), none⟩,
⟨(some 13), .move (.t 0), none⟩,
⟨(some 14), .move (.t 5), none⟩,
⟨(some 15), .bin .sub 2 (.t 14) (.c (.int .i64 1)), none⟩,
⟨(some 16), .iaddr 10 (.t 13) (.t 15), none⟩,
⟨(some 17), .load 20 (.t 16), none⟩,
⟨(some 18), .move (.t 0), none⟩,
⟨(some 19), .move (.t 5), none⟩,
⟨(some 20), .iaddr 10 (.t 18) (.t 19), none⟩,
⟨(some 21), .load 20 (.t 20), none⟩,
⟨(some 22), .call 0 (.t 12) [(.t 17), (.t 21)], none⟩,
⟨(some 23), .bin .geq 2 (.t 22) (.c (.int .i64 0)), none⟩])
    (.cond (.t 23) (.seq (.region false [] [
⟨(some 4), .assign (.c (.bool false)), none⟩])
    (.ret)) (.skip))))
    (.region false [] [
⟨(some 10), .move (.t 5), none⟩,
⟨(some 11), .bin .add 2 (.t 10) (.c (.int .i64 1)), none⟩,
⟨(some 5), .assign (.t 11), none⟩]))))))
    (.seq (.region false [] [
⟨(some 4), .assign (.c (.bool true)), none⟩])
    (.ret)))⟩

def f70 : DFn := ⟨24, [.tmp 4],
    .seq (.region false [] [
⟨(some 2), .box 20 (.t 0), none⟩,
⟨(some 3), .box 20 (.t 1), none⟩,
⟨(some 4), .assign (.c (.int .i64 0)), none⟩])
    (.seq (.seq (.region false [] [
⟨(some 5), .faddr 20 (.t 2) 0, none⟩,
⟨(some 6), .load 7 (.t 5), none⟩,
⟨(some 7), .faddr 20 (.t 3) 0, none⟩,
⟨(some 8), .load 7 (.t 7), none⟩,
⟨(some 9), .bin .neq 7 (.t 6) (.t 8), none⟩])
    (.cond (.t 9) (.seq (.seq (.region false [] [
⟨(some 10), .faddr 20 (.t 3) 0, none⟩,
⟨(some 11), .load 7 (.t 10), none⟩])
    (.cond (.t 11) (.seq (.region false [] [
⟨(some 4), .assign (.c (.int .i64 (-1))), none⟩])
    (.ret)) (.skip)))
    (.seq (.region false [] [
⟨(some 4), .assign (.c (.int .i64 1)), none⟩])
    (.ret))) (.skip)))
    (.seq (.region true [] [
⟨(some 12), .faddr 20 (.t 2) 1, none⟩,
⟨(some 13), .load 2 (.t 12), none⟩,
⟨(some 14), .faddr 20 (.t 3) 1, none⟩,
⟨(some 15), .load 2 (.t 14), none⟩,
⟨(some 16), .call 0 (.f 74) [(.t 13), (.t 15)], none⟩,
⟨(some 17), .faddr 20 (.t 2) 2, none⟩,
⟨(some 18), .load 2 (.t 17), none⟩,
⟨(some 19), .faddr 20 (.t 3) 2, none⟩,
⟨(some 20), .load 2 (.t 19), none⟩,
⟨(some 21), .call 0 (.f 74) [(.t 18), (.t 20)], none⟩,
⟨(some 22), .bslice false 6 2 [(0, (.t 16)), (1, (.t 21))], none⟩,
⟨(some 23), .call 0 (.f 105) [(.t 22)], none⟩,
⟨(some 4), .assign (.t 23), none⟩])
    (.ret)))⟩

def f71 : DFn := ⟨9, [.tmp 4],
    .seq (.region false [] [
⟨(some 4), .assign (.c (.bool false)), none⟩])
    (.seq (.region false [] [
⟨(some 5), .move (.t 0), none⟩,
⟨(some 6), .move (.t 1), none⟩,
⟨(some 7), .call 0 (.f 106) [(.t 5), (.t 6)], none⟩,
⟨(some 8), .bin .geq 2 (.t 7) (.c (.int .i64 0)), none⟩,
⟨(some 4), .assign (.t 8), none⟩])
    (.ret))⟩

def f72 : DFn := ⟨6, [.tmp 2],
    .seq (.region false [] [
⟨(some 2), .assign (.c (.bool false)), none⟩])
    (.seq (.region false [] [
⟨(some 3), .move (.t 0), none⟩,
⟨(some 4), .call 0 (.f 67) [(.t 3), (.c (.int .i64 0)), (.c (.int .i64 4096))], none⟩,
⟨(some 5), .un .not (.t 4), none⟩,
⟨(some 2), .assign (.t 5), none⟩])
    (.ret))⟩

def f73 : DFn := ⟨24, [.tmp 4],
    .seq (.region false [] [
⟨(some 4), .assign (.c (.bool false)), none⟩])
    (.seq (.seq (.region false [] [
⟨(some 5), .assign (.c (.int .i64 1)), none⟩])
    (.block 0 (.loop (.seq (.seq (.region false [] [
⟨(some 6), .move (.t 5), none⟩,
⟨(some 7), .move (.t 0), none⟩,
⟨(some 8), .len 6 (.t 7), none⟩,
⟨(some 9), .bin .lss 2 (.t 6) (.t 8), none⟩])
    (.cond (.t 9) (.skip) (.exit 0)))
    (.seq (.block 1 (.seq (.region true [] [
⟨(some 12), .move (.t 1), none⟩,
⟨(some 13), .move (.t 0), none⟩,
⟨(some 14), .move (.t 5), none⟩,
⟨(some 15), .bin .sub 2 (.t 14) (.c (.int .i64 1)), none⟩,
⟨(some 16), .iaddr 6 (.t 13) (.t 15), none⟩,
⟨(some 17), .load 2 (.t 16), none⟩,
⟨(some 18), .move (.t 0), none⟩,
⟨(some 19), .move (.t 5), none⟩,
⟨(some 20), .iaddr 6 (.t 18) (.t 19), none⟩,
⟨(some 21), .load 2 (.t 20), none⟩,
⟨(some 22), .call 0 (.t 12) [(.t 17), (.t 21)], none⟩,
⟨(some 23), .bin .geq 2 (.t 22) (.c (.int .i64 0)), none⟩])
    (.cond (.t 23) (.seq (.region false [] [
⟨(some 4), .assign (.c (.bool false)), none⟩])
    (.ret)) (.skip))))
    (.region false [] [
⟨(some 10), .move (.t 5), none⟩,
⟨(some 11), .bin .add 2 (.t 10) (.c (.int .i64 1)), none⟩,
⟨(some 5), .assign (.t 11), none⟩]))))))
    (.seq (.region false [] [
⟨(some 4), .assign (.c (.bool true)), none⟩])
    (.ret)))⟩

def f74 : DFn := ⟨20, [.tmp 4],
    .seq (.region false [] [
⟨(some 4), .assign (.c (.int .i64 0)), none⟩])
    (.seq (.region false [] [
⟨(some 7), .move (.t 0), none⟩,
⟨(some 8), .call 0 (.f 107) [(.t 7)], none⟩,
⟨(some 5), .assign (.t 8), none⟩])
    (.seq (.region false [] [
⟨(some 9), .move (.t 1), none⟩,
⟨(some 10), .call 0 (.f 107) [(.t 9)], none⟩,
⟨(some 6), .assign (.t 10), none⟩])
    (.seq (.seq (.region false [] [
⟨(some 11), .move (.t 5), none⟩])
    (.cond (.t 11) (.seq (.seq (.region false [] [
⟨(some 12), .move (.t 6), none⟩])
    (.cond (.t 12) (.seq (.region false [] [
⟨(some 4), .assign (.c (.int .i64 0)), none⟩])
    (.ret)) (.skip)))
    (.seq (.region false [] [
⟨(some 4), .assign (.c (.int .i64 (-1))), none⟩])
    (.ret))) (.skip)))
    (.seq (.seq (.region false [] [
⟨(some 13), .move (.t 6), none⟩])
    (.cond (.t 13) (.seq (.region false [] [
⟨(some 4), .assign (.c (.int .i64 1)), none⟩])
    (.ret)) (.skip)))
    (.seq (.seq (.region false [] [
⟨(some 14), .move (.t 0), none⟩,
⟨(some 15), .move (.t 1), none⟩,
⟨(some 16), .bin .lss 2 (.t 14) (.t 15), none⟩])
    (.cond (.t 16) (.seq (.region false [] [
⟨(some 4), .assign (.c (.int .i64 (-1))), none⟩])
    (.ret)) (.skip)))
    (.seq (.seq (.region false [] [
⟨(some 17), .move (.t 0), none⟩,
⟨(some 18), .move (.t 1), none⟩,
⟨(some 19), .bin .gtr 2 (.t 17) (.t 18), none⟩])
    (.cond (.t 19) (.seq (.region false [] [
⟨(some 4), .assign (.c (.int .i64 1)), none⟩])
    (.ret)) (.skip)))
    (.seq (.region false [] [
⟨(some 4), .assign (.c (.int .i64 0)), none⟩])
    (.ret))))))))⟩

def f75 : DFn := ⟨24, [.tmp 4],
    .seq (.region false [] [
⟨(some 4), .assign (.c (.bool false)), none⟩])
    (.seq (.seq (.region false [] [
⟨(some 5), .assign (.c (.int .i64 1)), none⟩])
    (.block 0 (.loop (.seq (.seq (.region false [] [
⟨(some 6), .move (.t 5), none⟩,
⟨(some 7), .move (.t 0), none⟩,
⟨(some 8), .len 18 (.t 7), none⟩,
⟨(some 9), .bin .lss 2 (.t 6) (.t 8), none⟩])
    (.cond (.t 9) (.skip) (.exit 0)))
    (.seq (.block 1 (.seq (.region true [] [
⟨(some 12), .move (.t 1), none⟩,
⟨(some 13), .move (.t 0), none⟩,
⟨(some 14), .move (.t 5), none⟩,
⟨(some 15), .bin .sub 2 (.t 14) (.c (.int .i64 1)), none⟩,
⟨(some 16), .iaddr 18 (.t 13) (.t 15), none⟩,
⟨(some 17), .load 19 (.t 16), none⟩,
⟨(some 18), .move (.t 0), none⟩,
⟨(some 19), .move (.t 5), none⟩,
⟨(some 20), .iaddr 18 (.t 18) (.t 19), none⟩,
⟨(some 21), .load 19 (.t 20), none⟩,
⟨(some 22), .call 0 (.t 12) [(.t 17), (.t 21)], none⟩,
⟨(some 23), .bin .geq 2 (.t 22) (.c (.int .i64 0)), none⟩])
    (.cond (.t 23) (.seq (.region false [] [
⟨(some 4), .assign (.c (.bool false)), none⟩])
    (.ret)) (.skip))))
    (.region false [] [
⟨(some 10), .move (.t 5), none⟩,
⟨(some 11), .bin .add 2 (.t 10) (.c (.int .i64 1)), none⟩,
⟨(some 5), .assign (.t 11), none⟩]))))))
    (.seq (.region false [] [
⟨(some 4), .assign (.c (.bool true)), none⟩])
    (.ret)))⟩

def f76 : DFn := ⟨10, [.tmp 4],
    .seq (.region false [] [
⟨(some 2), .box 19 (.t 0), none⟩,
⟨(some 3), .box 19 (.t 1), none⟩,
⟨(some 4), .assign (.c (.int .i64 0)), none⟩])
    (.seq (.region false [] [
⟨(some 5), .faddr 19 (.t 2) 0, none⟩,
⟨(some 6), .load 20 (.t 5), none⟩,
⟨(some 7), .faddr 19 (.t 3) 0, none⟩,
⟨(some 8), .load 20 (.t 7), none⟩,
⟨(some 9), .call 0 (.f 70) [(.t 6), (.t 8)], none⟩,
⟨(some 4), .assign (.t 9), none⟩])
    (.ret))⟩

def f78 : DFn := ⟨32, [.tmp 4],
    .seq (.region false [] [
⟨(some 2), .box 0 (.t 0), none⟩,
⟨(some 4), .assign (.c (.bool false)), none⟩])
    (.seq (.seq (.region false [] [
⟨(some 6), .move (.t 1), none⟩,
⟨(some 7), .len 6 (.t 6), none⟩,
⟨(some 8), .faddr 0 (.t 2) 2, none⟩,
⟨(some 9), .load 14 (.t 8), none⟩,
⟨(some 10), .len 14 (.t 9), none⟩,
⟨(some 11), .bin .gtr 2 (.t 7) (.t 10), none⟩])
    (.cond (.t 11) (.seq (.region false [] [
⟨(some 4), .assign (.c (.bool false)), none⟩])
    (.ret)) (.skip)))
    (.seq (.seq (.region false [] [
⟨(some 5), .assign (.c (.int .i64 0)), none⟩])
    (.block 0 (.loop (.seq (.seq (.region false [] [
⟨(some 12), .move (.t 5), none⟩,
⟨(some 13), .move (.t 1), none⟩,
⟨(some 14), .len 6 (.t 13), none⟩,
⟨(some 15), .bin .lss 2 (.t 12) (.t 14), none⟩])
    (.cond (.t 15) (.skip) (.exit 0)))
    (.seq (.block 1 (.seq (.region true [] [
⟨(some 18), .move (.t 1), none⟩,
⟨(some 19), .move (.t 5), none⟩,
⟨(some 20), .iaddr 6 (.t 18) (.t 19), none⟩,
⟨(some 21), .load 2 (.t 20), none⟩,
⟨(some 22), .faddr 0 (.t 2) 2, none⟩,
⟨(some 23), .load 14 (.t 22), none⟩,
⟨(some 24), .move (.t 5), none⟩,
⟨(some 25), .iaddr 14 (.t 23) (.t 24), none⟩,
⟨(some 26), .faddr 15 (.t 25) 3, none⟩,
⟨(some 27), .load 16 (.t 26), none⟩,
⟨(some 28), .len 16 (.t 27), none⟩,
⟨(some 29), .bin .sub 2 (.t 28) (.c (.int .i64 1)), none⟩,
⟨(some 30), .call 0 (.f 79) [(.t 21), (.c (.int .i64 0)), (.t 29)], none⟩,
⟨(some 31), .un .not (.t 30), none⟩])
    (.cond (.t 31) (.seq (.region false [] [
⟨(some 4), .assign (.c (.bool false)), none⟩])
    (.ret)) (.skip))))
    (.region false [] [
⟨(some 16), .move (.t 5), none⟩,
⟨(some 17), .bin .add 2 (.t 16) (.c (.int .i64 1)), none⟩,
⟨(some 5), .assign (.t 17), none⟩]))))))
    (.seq (.region false [] [
⟨(some 4), .assign (.c (.bool true)), none⟩])
    (.ret))))⟩

def f79 : DFn := ⟨15, [.tmp 6],
    .seq (.region false [] [
⟨(some 6), .assign (.c (.bool false)), none⟩])
    (.seq (.region false [] [
⟨(some 7), .move (.t 1), none⟩,
⟨(some 8), .move (.t 0), none⟩,
⟨(some 9), .bin .leq 2 (.t 7) (.t 8), none⟩,
⟨(some 10), .move (.t 9), none⟩,
⟨(some 11), .move (.t 0), (some (10, true))⟩,
⟨(some 12), .move (.t 2), (some (10, true))⟩,
⟨(some 13), .bin .leq 2 (.t 11) (.t 12), (some (10, true))⟩,
⟨(some 14), .pick (.t 10) (.t 13) (.c (.bool false)), none⟩,
⟨(some 6), .assign (.t 14), none⟩])
    (.ret))⟩

def f81 : DFn := ⟨27, [.tmp 4],
    .seq (.region false [] [
⟨(some 2), .box 20 (.t 0), none⟩,
⟨(some 3), .box 20 (.t 1), none⟩,
⟨(some 4), .assign (.c (.bool false)), none⟩])
    (.seq (.seq (.region false [] [
⟨(some 5), .faddr 20 (.t 2) 0, none⟩,
⟨(some 6), .load 7 (.t 5), none⟩,
⟨(some 7), .faddr 20 (.t 3) 0, none⟩,
⟨(some 8), .load 7 (.t 7), none⟩,
⟨(some 9), .bin .neq 7 (.t 6) (.t 8), none⟩])
    (.cond (.t 9) (.seq (.region false [] [
⟨(some 10), .faddr 20 (.t 3) 0, none⟩,
⟨(some 11), .load 7 (.t 10), none⟩,
⟨(some 4), .assign (.t 11), none⟩])
    (.ret)) (.skip)))
    (.seq (.seq (.region false [] [
⟨(some 12), .faddr 20 (.t 2) 1, none⟩,
⟨(some 13), .load 2 (.t 12), none⟩,
⟨(some 14), .faddr 20 (.t 3) 1, none⟩,
⟨(some 15), .load 2 (.t 14), none⟩,
⟨(some 16), .bin .neq 2 (.t 13) (.t 15), none⟩])
    (.cond (.t 16) (.seq (.region false [] [
⟨(some 17), .faddr 20 (.t 2) 1, none⟩,
⟨(some 18), .load 2 (.t 17), none⟩,
⟨(some 19), .faddr 20 (.t 3) 1, none⟩,
⟨(some 20), .load 2 (.t 19), none⟩,
⟨(some 21), .bin .lss 2 (.t 18) (.t 20), none⟩,
⟨(some 4), .assign (.t 21), none⟩])
    (.ret)) (.skip)))
    (.seq (.region false [] [
⟨(some 22), .faddr 20 (.t 2) 2, none⟩,
⟨(some 23), .load 2 (.t 22), none⟩,
⟨(some 24), .faddr 20 (.t 3) 2, none⟩,
⟨(some 25), .load 2 (.t 24), none⟩,
⟨(some 26), .bin .lss 2 (.t 23) (.t 25), none⟩,
⟨(some 4), .assign (.t 26), none⟩])
    (.ret))))⟩

def f82 : DFn := ⟨131, [.tmp 4],
    .seq (.region false [] [
⟨(some 2), .box 0 (.t 0), none⟩,
⟨(some 3), .box 15 (.t 1), none⟩,
⟨(some 4), .assign (.c (.bool false)), none⟩])
    (.seq (.seq (.region false [] [
⟨(some 10), .faddr 15 (.t 3) 2, none⟩,
⟨(some 11), .load 6 (.t 10), none⟩,
⟨(some 12), .len 6 (.t 11), none⟩,
⟨(some 13), .bin .lss 2 (.t 12) (.c (.int .i64 1)), none⟩,
⟨(some 14), .move (.t 13), none⟩,
⟨(some 15), .faddr 15 (.t 3) 3, (some (14, false))⟩,
⟨(some 16), .load 16 (.t 15), (some (14, false))⟩,
⟨(some 17), .len 16 (.t 16), (some (14, false))⟩,
⟨(some 18), .bin .lss 2 (.t 17) (.c (.int .i64 1)), (some (14, false))⟩,
⟨(some 19), .pick (.t 14) (.c (.bool true)) (.t 18), none⟩,
⟨(some 20), .move (.t 19), none⟩,
⟨(some 21), .faddr 15 (.t 3) 3, (some (20, false))⟩,
⟨(some 22), .load 16 (.t 21), (some (20, false))⟩,
⟨(some 23), .len 16 (.t 22), (some (20, false))⟩,
⟨(some 24), .bin .gtr 2 (.t 23) (.c (.int .i64 96)), (some (20, false))⟩,
⟨(some 25), .pick (.t 20) (.c (.bool true)) (.t 24), none⟩])
    (.cond (.t 25) (.seq (.region false [] [
⟨(some 4), .assign (.c (.bool false)), none⟩])
    (.ret)) (.skip)))
    (.seq (.seq (.region false [] [
⟨(some 5), .assign (.c (.int .i64 0)), none⟩])
    (.block 0 (.loop (.seq (.seq (.region false [] [
⟨(some 26), .move (.t 5), none⟩,
⟨(some 27), .faddr 15 (.t 3) 2, none⟩,
⟨(some 28), .load 6 (.t 27), none⟩,
⟨(some 29), .len 6 (.t 28), none⟩,
⟨(some 30), .bin .lss 2 (.t 26) (.t 29), none⟩])
    (.cond (.t 30) (.skip) (.exit 0)))
    (.seq (.block 1 (.seq (.region true [] [
⟨(some 33), .faddr 15 (.t 3) 2, none⟩,
⟨(some 34), .load 6 (.t 33), none⟩,
⟨(some 35), .move (.t 5), none⟩,
⟨(some 36), .iaddr 6 (.t 34) (.t 35), none⟩,
⟨(some 37), .load 2 (.t 36), none⟩,
⟨(some 38), .faddr 0 (.t 2) 1, none⟩,
⟨(some 39), .load 9 (.t 38), none⟩,
⟨(some 40), .len 9 (.t 39), none⟩,
⟨(some 41), .bin .sub 2 (.t 40) (.c (.int .i64 1)), none⟩,
⟨(some 42), .call 0 (.f 79) [(.t 37), (.c (.int .i64 0)), (.t 41)], none⟩,
⟨(some 43), .un .not (.t 42), none⟩,
⟨(some 44), .move (.t 43), none⟩,
⟨(some 45), .move (.t 5), (some (44, false))⟩,
⟨(some 46), .bin .gtr 2 (.t 45) (.c (.int .i64 0)), (some (44, false))⟩,
⟨(some 47), .move (.t 46), (some (44, false))⟩,
⟨(some 48), .faddr 15 (.t 3) 2, (some (47, true))⟩,
⟨(some 49), .load 6 (.t 48), (some (47, true))⟩,
⟨(some 50), .move (.t 5), (some (47, true))⟩,
⟨(some 51), .bin .sub 2 (.t 50) (.c (.int .i64 1)), (some (47, true))⟩,
⟨(some 52), .iaddr 6 (.t 49) (.t 51), (some (47, true))⟩,
⟨(some 53), .load 2 (.t 52), (some (47, true))⟩,
⟨(some 54), .faddr 15 (.t 3) 2, (some (47, true))⟩,
⟨(some 55), .load 6 (.t 54), (some (47, true))⟩,
⟨(some 56), .move (.t 5), (some (47, true))⟩,
⟨(some 57), .iaddr 6 (.t 55) (.t 56), (some (47, true))⟩,
⟨(some 58), .load 2 (.t 57), (some (47, true))⟩,
⟨(some 59), .bin .geq 2 (.t 53) (.t 58), (some (47, true))⟩,
⟨(some 60), .pick (.t 47) (.t 59) (.c (.bool false)), (some (44, false))⟩,
⟨(some 61), .pick (.t 44) (.c (.bool true)) (.t 60), none⟩])
    (.cond (.t 61) (.seq (.region false [] [
⟨(some 4), .assign (.c (.bool false)), none⟩])
    (.ret)) (.skip))))
    (.region false [] [
⟨(some 31), .move (.t 5), none⟩,
⟨(some 32), .bin .add 2 (.t 31) (.c (.int .i64 1)), none⟩,
⟨(some 5), .assign (.t 32), none⟩]))))))
    (.seq (.seq (.region false [] [
⟨(some 6), .assign (.c (.int .i64 0)), none⟩])
    (.block 2 (.loop (.seq (.seq (.region false [] [
⟨(some 62), .move (.t 6), none⟩,
⟨(some 63), .faddr 15 (.t 3) 3, none⟩,
⟨(some 64), .load 16 (.t 63), none⟩,
⟨(some 65), .len 16 (.t 64), none⟩,
⟨(some 66), .bin .lss 2 (.t 62) (.t 65), none⟩])
    (.cond (.t 66) (.skip) (.exit 2)))
    (.seq (.block 3 (.seq (.region false [] [
⟨(some 69), .faddr 15 (.t 3) 3, none⟩,
⟨(some 70), .load 16 (.t 69), none⟩,
⟨(some 71), .move (.t 6), none⟩,
⟨(some 72), .iaddr 16 (.t 70) (.t 71), none⟩,
⟨(some 73), .load 17 (.t 72), none⟩,
⟨(some 7), .alloc 17, none⟩,
⟨none, .store 17 (.t 7) (.t 73), none⟩])
    (.seq (.seq (.region false [] [
⟨(some 74), .faddr 17 (.t 7) 0, none⟩,
⟨(some 75), .load 2 (.t 74), none⟩,
⟨(some 76), .call 0 (.f 79) [(.t 75), (.c (.int .i64 0)), (.c (.int .i64 1048576))], none⟩,
⟨(some 77), .un .not (.t 76), none⟩,
⟨(some 78), .move (.t 77), none⟩,
⟨(some 79), .faddr 17 (.t 7) 1, (some (78, false))⟩,
⟨(some 80), .load 2 (.t 79), (some (78, false))⟩,
⟨(some 81), .call 0 (.f 79) [(.t 80), (.c (.int .i64 0)), (.c (.int .i64 1048576))], (some (78, false))⟩,
⟨(some 82), .un .not (.t 81), (some (78, false))⟩,
⟨(some 83), .pick (.t 78) (.c (.bool true)) (.t 82), none⟩,
⟨(some 84), .move (.t 83), none⟩,
⟨(some 85), .faddr 17 (.t 7) 2, (some (84, false))⟩,
⟨(some 86), .load 2 (.t 85), (some (84, false))⟩,
⟨(some 87), .call 0 (.f 79) [(.t 86), (.c (.int .i64 0)), (.c (.int .i64 1048576))], (some (84, false))⟩,
⟨(some 88), .un .not (.t 87), (some (84, false))⟩,
⟨(some 89), .pick (.t 84) (.c (.bool true)) (.t 88), none⟩])
    (.cond (.t 89) (.seq (.region false [] [
⟨(some 4), .assign (.c (.bool false)), none⟩])
    (.ret)) (.skip)))
    (.seq (.region false [] [
⟨(some 8), .assign (.c (.int .i64 0)), none⟩])
    (.block 4 (.loop (.seq (.seq (.region false [] [
⟨(some 90), .move (.t 8), none⟩,
⟨(some 91), .faddr 17 (.t 7) 3, none⟩,
⟨(some 92), .load 18 (.t 91), none⟩,
⟨(some 93), .len 18 (.t 92), none⟩,
⟨(some 94), .bin .lss 2 (.t 90) (.t 93), none⟩])
    (.cond (.t 94) (.skip) (.exit 4)))
    (.seq (.block 5 (.seq (.region false [] [
⟨(some 97), .faddr 17 (.t 7) 3, none⟩,
⟨(some 98), .load 18 (.t 97), none⟩,
⟨(some 99), .move (.t 8), none⟩,
⟨(some 100), .iaddr 18 (.t 98) (.t 99), none⟩,
⟨(some 101), .load 19 (.t 100), none⟩,
⟨(some 9), .alloc 19, none⟩,
⟨none, .store 19 (.t 9) (.t 101), none⟩])
    (.seq (.region true [] [
⟨(some 102), .faddr 0 (.t 2) 0, none⟩,
⟨(some 103), .load 10 (.t 102), none⟩,
⟨(some 104), .faddr 19 (.t 9) 0, none⟩,
⟨(some 105), .load 20 (.t 104), none⟩,
⟨(some 106), .call 0 (.f 109) [(.t 103), (.t 105)], none⟩,
⟨(some 107), .bin .lss 2 (.t 106) (.c (.int .i64 0)), none⟩,
⟨(some 108), .move (.t 107), none⟩,
⟨(some 109), .faddr 19 (.t 9) 1, (some (108, false))⟩,
⟨(some 110), .load 2 (.t 109), (some (108, false))⟩,
⟨(some 111), .call 0 (.f 79) [(.t 110), (.c (.int .i64 1)), (.c (.int .i64 8))], (some (108, false))⟩,
⟨(some 112), .un .not (.t 111), (some (108, false))⟩,
⟨(some 113), .pick (.t 108) (.c (.bool true)) (.t 112), none⟩,
⟨(some 114), .move (.t 113), none⟩,
⟨(some 115), .move (.t 8), (some (114, false))⟩,
⟨(some 116), .bin .gtr 2 (.t 115) (.c (.int .i64 0)), (some (114, false))⟩,
⟨(some 117), .move (.t 116), (some (114, false))⟩,
⟨(some 118), .faddr 17 (.t 7) 3, (some (117, true))⟩,
⟨(some 119), .load 18 (.t 118), (some (117, true))⟩,
⟨(some 120), .move (.t 8), (some (117, true))⟩,
⟨(some 121), .bin .sub 2 (.t 120) (.c (.int .i64 1)), (some (117, true))⟩,
⟨(some 122), .iaddr 18 (.t 119) (.t 121), (some (117, true))⟩,
⟨(some 123), .faddr 19 (.t 122) 0, (some (117, true))⟩,
⟨(some 124), .load 20 (.t 123), (some (117, true))⟩,
⟨(some 125), .faddr 19 (.t 9) 0, (some (117, true))⟩,
⟨(some 126), .load 20 (.t 125), (some (117, true))⟩,
⟨(some 127), .call 0 (.f 81) [(.t 124), (.t 126)], (some (117, true))⟩,
⟨(some 128), .un .not (.t 127), (some (117, true))⟩,
⟨(some 129), .pick (.t 117) (.t 128) (.c (.bool false)), (some (114, false))⟩,
⟨(some 130), .pick (.t 114) (.c (.bool true)) (.t 129), none⟩])
    (.cond (.t 130) (.seq (.region false [] [
⟨(some 4), .assign (.c (.bool false)), none⟩])
    (.ret)) (.skip)))))
    (.region false [] [
⟨(some 95), .move (.t 8), none⟩,
⟨(some 96), .bin .add 2 (.t 95) (.c (.int .i64 1)), none⟩,
⟨(some 8), .assign (.t 96), none⟩])))))))))
    (.region false [] [
⟨(some 67), .move (.t 6), none⟩,
⟨(some 68), .bin .add 2 (.t 67) (.c (.int .i64 1)), none⟩,
⟨(some 6), .assign (.t 68), none⟩]))))))
    (.seq (.region false [] [
⟨(some 4), .assign (.c (.bool true)), none⟩])
    (.ret)))))⟩

def f88 : DFn := ⟨28, [.cell 0 0],
    .seq (.region false [] [
⟨(some 0), .alloc 0, none⟩])
    (.seq (.region false [] [
⟨(some 5), .build 20 [(2, (.c (.int .i64 9)))], none⟩,
⟨(some 1), .alloc 20, none⟩,
⟨none, .store 20 (.t 1) (.t 5), none⟩])
    (.seq (.region false [] [
⟨(some 6), .load 20 (.t 1), none⟩,
⟨(some 7), .build 19 [(0, (.t 6)), (1, (.c (.int .i64 1)))], none⟩,
⟨(some 8), .bslice false 18 1 [(0, (.t 7))], none⟩,
⟨(some 9), .build 17 [(3, (.t 8))], none⟩,
⟨(some 2), .alloc 17, none⟩,
⟨none, .store 17 (.t 2) (.t 9), none⟩])
    (.seq (.region false [] [
⟨(some 10), .bslice false 6 1 [(0, (.c (.int .i64 0)))], none⟩,
⟨(some 11), .load 17 (.t 2), none⟩,
⟨(some 12), .build 17 [(0, (.c (.int .i64 10))), (1, (.c (.int .i64 3)))], none⟩,
⟨(some 13), .bslice false 16 2 [(0, (.t 11)), (1, (.t 12))], none⟩,
⟨(some 14), .build 15 [(2, (.t 10)), (3, (.t 13))], none⟩,
⟨(some 3), .alloc 15, none⟩,
⟨none, .store 15 (.t 3) (.t 14), none⟩])
    (.seq (.region false [] [
⟨(some 15), .bslice false 6 1 [(0, (.c (.int .i64 0)))], none⟩,
⟨(some 16), .load 17 (.t 2), none⟩,
⟨(some 17), .build 17 [(0, (.c (.int .i64 20))), (1, (.c (.int .i64 5)))], none⟩,
⟨(some 18), .bslice false 16 2 [(0, (.t 16)), (1, (.t 17))], none⟩,
⟨(some 19), .build 15 [(2, (.t 15)), (3, (.t 18))], none⟩,
⟨(some 4), .alloc 15, none⟩,
⟨none, .store 15 (.t 4) (.t 19), none⟩])
    (.seq (.region false [] [
⟨(some 20), .load 20 (.t 1), none⟩,
⟨(some 21), .bslice false 10 1 [(0, (.t 20))], none⟩,
⟨(some 22), .bslice false 6 1 [(0, (.c (.int .i64 1)))], none⟩,
⟨(some 23), .bslice false 9 1 [(0, (.t 22))], none⟩,
⟨(some 24), .load 15 (.t 3), none⟩,
⟨(some 25), .load 15 (.t 4), none⟩,
⟨(some 26), .bslice false 14 2 [(0, (.t 24)), (1, (.t 25))], none⟩,
⟨(some 27), .build 0 [(0, (.t 21)), (1, (.t 23)), (2, (.t 26))], none⟩,
⟨none, .store 0 (.t 0) (.t 27), none⟩])
    (.ret))))))⟩

def f89 : DFn := ⟨43, [.tmp 6],
    .seq (.region false [] [
⟨(some 3), .box 0 (.t 0), none⟩,
⟨(some 6), .assign (.c (.int .i64 0)), none⟩])
    (.seq (.seq (.region false [] [
⟨(some 10), .load 0 (.t 3), none⟩,
⟨(some 11), .move (.t 2), none⟩,
⟨(some 12), .call 0 (.f 41) [(.t 10), (.t 11)], none⟩,
⟨(some 7), .assign (.t 12), none⟩])
    (.seq (.region false [] [
⟨(some 13), .move (.t 7), none⟩,
⟨(some 14), .bin .neq 3 (.t 13) (.c (.int .i64 0)), none⟩])
    (.cond (.t 14) (.seq (.region false [] [
⟨(some 15), .move (.t 7), none⟩,
⟨(some 6), .assign (.t 15), none⟩])
    (.ret)) (.skip))))
    (.seq (.seq (.region false [] [
⟨(some 16), .move (.t 1), none⟩,
⟨(some 17), .len 1 (.t 16), none⟩,
⟨(some 18), .faddr 0 (.t 3) 2, none⟩,
⟨(some 19), .load 14 (.t 18), none⟩,
⟨(some 20), .len 14 (.t 19), none⟩,
⟨(some 21), .bin .gtr 2 (.t 17) (.t 20), none⟩])
    (.cond (.t 21) (.seq (.region false [] [
⟨(some 6), .assign (.c (.int .i64 290)), none⟩])
    (.ret)) (.skip)))
    (.seq (.seq (.region false [] [
⟨(some 22), .move (.t 1), none⟩,
⟨(some 23), .len 1 (.t 22), none⟩,
⟨(some 24), .move (.c (.int .i64 0)), none⟩])
    (.block 0 (.loop (.seq (.region false [] [
⟨(some 25), .bin .lss 2 (.t 24) (.t 23), none⟩])
    (.seq (.cond (.t 25) (.skip) (.exit 0))
    (.seq (.block 1 (.seq (.region false [] [
⟨(some 26), .move (.t 24), none⟩,
⟨(some 27), .iaddr 1 (.t 22) (.t 24), none⟩,
⟨(some 28), .load 2 (.t 27), none⟩,
⟨(some 8), .assign (.t 26), none⟩,
⟨(some 9), .assign (.t 28), none⟩])
    (.seq (.region false [] [
⟨(some 29), .move (.t 9), none⟩,
⟨(some 30), .bin .lss 2 (.t 29) (.c (.int .i64 0)), none⟩,
⟨(some 31), .move (.t 30), none⟩,
⟨(some 32), .move (.t 9), (some (31, false))⟩,
⟨(some 33), .faddr 0 (.t 3) 2, (some (31, false))⟩,
⟨(some 34), .load 14 (.t 33), (some (31, false))⟩,
⟨(some 35), .move (.t 8), (some (31, false))⟩,
⟨(some 36), .iaddr 14 (.t 34) (.t 35), (some (31, false))⟩,
⟨(some 37), .faddr 15 (.t 36) 3, (some (31, false))⟩,
⟨(some 38), .load 16 (.t 37), (some (31, false))⟩,
⟨(some 39), .len 16 (.t 38), (some (31, false))⟩,
⟨(some 40), .bin .geq 2 (.t 32) (.t 39), (some (31, false))⟩,
⟨(some 41), .pick (.t 31) (.c (.bool true)) (.t 40), none⟩])
    (.cond (.t 41) (.seq (.region false [] [
⟨(some 6), .assign (.c (.int .i64 290)), none⟩])
    (.ret)) (.skip)))))
    (.region false [] [
⟨(some 42), .bin .add 2 (.t 24) (.c (.int .i64 1)), none⟩,
⟨(some 24), .move (.t 42), none⟩])))))))
    (.seq (.region false [] [
⟨(some 6), .assign (.c (.int .i64 0)), none⟩])
    (.ret)))))⟩

def f90 : DFn := ⟨66, [.tmp 4, .tmp 5],
    .seq (.region false [] [
⟨(some 2), .box 25 (.t 0), none⟩,
⟨(some 4), .assign (.c (.int .i64 0)), none⟩,
⟨(some 5), .assign (.c (.bool false)), none⟩])
    (.seq (.seq (.region false [] [
⟨(some 14), .faddr 25 (.t 2) 3, none⟩,
⟨(some 15), .load 9 (.t 14), none⟩,
⟨(some 16), .len 9 (.t 15), none⟩,
⟨(some 17), .move (.c (.int .i64 0)), none⟩])
    (.block 0 (.loop (.seq (.region false [] [
⟨(some 18), .bin .lss 2 (.t 17) (.t 16), none⟩])
    (.seq (.cond (.t 18) (.skip) (.exit 0))
    (.seq (.block 1 (.seq (.region false [] [
⟨(some 19), .move (.t 17), none⟩,
⟨(some 20), .iaddr 9 (.t 15) (.t 17), none⟩,
⟨(some 21), .load 6 (.t 20), none⟩,
⟨(some 6), .assign (.t 19), none⟩,
⟨(some 7), .assign (.t 21), none⟩])
    (.seq (.region false [] [
⟨(some 22), .move (.t 7), none⟩,
⟨(some 23), .len 6 (.t 22), none⟩,
⟨(some 24), .move (.c (.int .i64 0)), none⟩])
    (.block 2 (.loop (.seq (.region false [] [
⟨(some 25), .bin .lss 2 (.t 24) (.t 23), none⟩])
    (.seq (.cond (.t 25) (.skip) (.exit 2))
    (.seq (.block 3 (.seq (.region false [] [
⟨(some 26), .move (.t 24), none⟩,
⟨(some 27), .iaddr 6 (.t 22) (.t 24), none⟩,
⟨(some 28), .load 2 (.t 27), none⟩,
⟨(some 8), .assign (.t 26), none⟩,
⟨(some 9), .assign (.t 28), none⟩])
    (.region false [] [
⟨(some 29), .move (.t 4), none⟩,
⟨(some 30), .move (.t 9), none⟩,
⟨(some 31), .faddr 25 (.t 2) 0, none⟩,
⟨(some 32), .faddr 0 (.t 31) 1, none⟩,
⟨(some 33), .load 9 (.t 32), none⟩,
⟨(some 34), .move (.t 6), none⟩,
⟨(some 35), .iaddr 9 (.t 33) (.t 34), none⟩,
⟨(some 36), .load 6 (.t 35), none⟩,
⟨(some 37), .move (.t 8), none⟩,
⟨(some 38), .iaddr 6 (.t 36) (.t 37), none⟩,
⟨(some 39), .load 2 (.t 38), none⟩,
⟨(some 40), .bin .mul 2 (.t 30) (.t 39), none⟩,
⟨(some 41), .bin .sub 2 (.t 29) (.t 40), none⟩,
⟨(some 4), .assign (.t 41), none⟩])))
    (.region false [] [
⟨(some 42), .bin .add 2 (.t 24) (.c (.int .i64 1)), none⟩,
⟨(some 24), .move (.t 42), none⟩])))))))))
    (.region false [] [
⟨(some 43), .bin .add 2 (.t 17) (.c (.int .i64 1)), none⟩,
⟨(some 17), .move (.t 43), none⟩])))))))
    (.seq (.seq (.region false [] [
⟨(some 44), .faddr 25 (.t 2) 0, none⟩,
⟨(some 45), .faddr 0 (.t 44) 2, none⟩,
⟨(some 46), .load 14 (.t 45), none⟩,
⟨(some 47), .len 14 (.t 46), none⟩,
⟨(some 48), .move (.c (.int .i64 0)), none⟩])
    (.block 4 (.loop (.seq (.region false [] [
⟨(some 49), .bin .lss 2 (.t 48) (.t 47), none⟩])
    (.seq (.cond (.t 49) (.skip) (.exit 4))
    (.seq (.block 5 (.seq (.region false [] [
⟨(some 50), .move (.t 48), none⟩,
⟨(some 10), .assign (.t 50), none⟩])
    (.seq (.region false [] [
⟨(some 52), .load 25 (.t 2), none⟩,
⟨(some 53), .move (.t 10), none⟩,
⟨(some 54), .move (.t 1), none⟩,
⟨(some 55), .call 0 (.f 97) [(.t 52), (.t 53), (.t 54)], none⟩,
⟨(some 51), .move (.t 55), none⟩,
⟨(some 56), .extract (.t 51) 0, none⟩,
⟨(some 57), .extract (.t 51) 1, none⟩,
⟨(some 58), .extract (.t 51) 2, none⟩,
⟨(some 11), .alloc 17, none⟩,
⟨none, .store 17 (.t 11) (.t 56), none⟩,
⟨(some 12), .assign (.t 57), none⟩,
⟨(some 13), .assign (.t 58), none⟩])
    (.seq (.seq (.region false [] [
⟨(some 59), .move (.t 13), none⟩,
⟨(some 60), .un .not (.t 59), none⟩])
    (.cond (.t 60) (.seq (.region false [] [
⟨(some 4), .assign (.c (.int .i64 0)), none⟩,
⟨(some 5), .assign (.c (.bool false)), none⟩])
    (.ret)) (.skip)))
    (.region false [] [
⟨(some 61), .move (.t 4), none⟩,
⟨(some 62), .move (.t 12), none⟩,
⟨(some 63), .bin .add 2 (.t 61) (.t 62), none⟩,
⟨(some 4), .assign (.t 63), none⟩])))))
    (.region false [] [
⟨(some 64), .bin .add 2 (.t 48) (.c (.int .i64 1)), none⟩,
⟨(some 48), .move (.t 64), none⟩])))))))
    (.seq (.region false [] [
⟨(some 65), .move (.t 4), none⟩,
⟨(some 4), .assign (.t 65), none⟩,
⟨(some 5), .assign (.c (.bool true)), none⟩])
    (.ret))))⟩

def f91 : DFn := ⟨18, [.tmp 6],
    .seq (.region false [] [
⟨(some 3), .box 0 (.t 0), none⟩,
⟨(some 6), .assign (.c (.int .i64 0)), none⟩])
    (.seq (.region false [] [
⟨(some 8), .load 0 (.t 3), none⟩,
⟨(some 9), .move (.t 2), none⟩,
⟨(some 10), .call 0 (.f 42) [(.t 8), (.t 9)], none⟩,
⟨(some 7), .assign (.t 10), none⟩])
    (.seq (.seq (.region false [] [
⟨(some 11), .move (.t 7), none⟩,
⟨(some 12), .bin .neq 3 (.t 11) (.c (.int .i64 0)), none⟩])
    (.cond (.t 12) (.seq (.region false [] [
⟨(some 13), .move (.t 7), none⟩,
⟨(some 6), .assign (.t 13), none⟩])
    (.ret)) (.skip)))
    (.seq (.seq (.region false [] [
⟨(some 14), .load 0 (.t 3), none⟩,
⟨(some 15), .move (.t 1), none⟩,
⟨(some 16), .call 0 (.f 78) [(.t 14), (.t 15)], none⟩,
⟨(some 17), .un .not (.t 16), none⟩])
    (.cond (.t 17) (.seq (.region false [] [
⟨(some 6), .assign (.c (.int .i64 290)), none⟩])
    (.ret)) (.skip)))
    (.seq (.region false [] [
⟨(some 6), .assign (.c (.int .i64 0)), none⟩])
    (.ret)))))⟩

def f93 : DFn := ⟨14, [.tmp 3],
    .seq (.region false [] [
⟨(some 3), .assign (.c (.bool false)), none⟩])
    (.seq (.region false [] [
⟨(some 4), .move (.t 0), none⟩,
⟨(some 5), .len 6 (.t 4), none⟩,
⟨(some 6), .faddr 0 (.t 1) 0, none⟩,
⟨(some 7), .load 10 (.t 6), none⟩,
⟨(some 8), .len 10 (.t 7), none⟩,
⟨(some 9), .bin .neq 2 (.t 5) (.t 8), none⟩,
⟨(some 10), .move (.t 9), none⟩,
⟨(some 11), .move (.t 0), (some (10, false))⟩,
⟨(some 12), .call 0 (.f 71) [(.t 11), (.f 112)], (some (10, false))⟩,
⟨(some 13), .pick (.t 10) (.c (.bool true)) (.t 12), none⟩,
⟨(some 3), .assign (.t 13), none⟩])
    (.ret))⟩

def f94 : DFn := ⟨9, [.tmp 4],
    .seq (.region false [] [
⟨(some 4), .assign (.c (.bool false)), none⟩])
    (.seq (.region false [] [
⟨(some 5), .move (.t 0), none⟩,
⟨(some 6), .move (.t 1), none⟩,
⟨(some 7), .call 0 (.f 113) [(.t 5), (.t 6)], none⟩,
⟨(some 8), .bin .geq 2 (.t 7) (.c (.int .i64 0)), none⟩,
⟨(some 4), .assign (.t 8), none⟩])
    (.ret))⟩

def f95 : DFn := ⟨55, [.tmp 4],
    .seq (.region false [] [
⟨(some 2), .box 0 (.t 0), none⟩,
⟨(some 4), .assign (.c (.bool false)), none⟩])
    (.seq (.seq (.region false [] [
⟨(some 7), .move (.t 1), none⟩,
⟨(some 8), .len 9 (.t 7), none⟩,
⟨(some 9), .faddr 0 (.t 2) 1, none⟩,
⟨(some 10), .load 9 (.t 9), none⟩,
⟨(some 11), .len 9 (.t 10), none⟩,
⟨(some 12), .bin .neq 2 (.t 8) (.t 11), none⟩])
    (.cond (.t 12) (.seq (.region false [] [
⟨(some 4), .assign (.c (.bool false)), none⟩])
    (.ret)) (.skip)))
    (.seq (.seq (.region false [] [
⟨(some 5), .assign (.c (.int .i64 0)), none⟩])
    (.block 0 (.loop (.seq (.seq (.region false [] [
⟨(some 13), .move (.t 5), none⟩,
⟨(some 14), .move (.t 1), none⟩,
⟨(some 15), .len 9 (.t 14), none⟩,
⟨(some 16), .bin .lss 2 (.t 13) (.t 15), none⟩])
    (.cond (.t 16) (.skip) (.exit 0)))
    (.seq (.block 1 (.seq (.seq (.region true [] [
⟨(some 19), .move (.t 1), none⟩,
⟨(some 20), .move (.t 5), none⟩,
⟨(some 21), .iaddr 9 (.t 19) (.t 20), none⟩,
⟨(some 22), .load 6 (.t 21), none⟩,
⟨(some 23), .len 6 (.t 22), none⟩,
⟨(some 24), .faddr 0 (.t 2) 0, none⟩,
⟨(some 25), .load 10 (.t 24), none⟩,
⟨(some 26), .len 10 (.t 25), none⟩,
⟨(some 27), .bin .neq 2 (.t 23) (.t 26), none⟩])
    (.cond (.t 27) (.seq (.region false [] [
⟨(some 4), .assign (.c (.bool false)), none⟩])
    (.ret)) (.skip)))
    (.seq (.region false [] [
⟨(some 6), .assign (.c (.int .i64 0)), none⟩])
    (.block 2 (.loop (.seq (.seq (.region false [] [
⟨(some 28), .move (.t 6), none⟩,
⟨(some 29), .move (.t 1), none⟩,
⟨(some 30), .move (.t 5), none⟩,
⟨(some 31), .iaddr 9 (.t 29) (.t 30), none⟩,
⟨(some 32), .load 6 (.t 31), none⟩,
⟨(some 33), .len 6 (.t 32), none⟩,
⟨(some 34), .bin .lss 2 (.t 28) (.t 33), none⟩])
    (.cond (.t 34) (.skip) (.exit 2)))
    (.seq (.block 3 (.seq (.region false [] [
⟨(some 37), .move (.t 1), none⟩,
⟨(some 38), .move (.t 5), none⟩,
⟨(some 39), .iaddr 9 (.t 37) (.t 38), none⟩,
⟨(some 40), .load 6 (.t 39), none⟩,
⟨(some 41), .move (.t 6), none⟩,
⟨(some 42), .iaddr 6 (.t 40) (.t 41), none⟩,
⟨(some 43), .load 2 (.t 42), none⟩,
⟨(some 44), .bin .lss 2 (.t 43) (.c (.int .i64 0)), none⟩,
⟨(some 45), .move (.t 44), none⟩,
⟨(some 46), .move (.t 1), (some (45, false))⟩,
⟨(some 47), .move (.t 5), (some (45, false))⟩,
⟨(some 48), .iaddr 9 (.t 46) (.t 47), (some (45, false))⟩,
⟨(some 49), .load 6 (.t 48), (some (45, false))⟩,
⟨(some 50), .move (.t 6), (some (45, false))⟩,
⟨(some 51), .iaddr 6 (.t 49) (.t 50), (some (45, false))⟩,
⟨(some 52), .load 2 (.t 51), (some (45, false))⟩,
⟨(some 53), .bin .gtr 2 (.t 52) (.c (.int .i64 65536)), (some (45, false))⟩,
⟨(some 54), .pick (.t 45) (.c (.bool true)) (.t 53), none⟩])
    (.cond (.t 54) (.seq (.region false [] [
⟨(some 4), .assign (.c (.bool false)), none⟩])
    (.ret)) (.skip))))
    (.region false [] [
⟨(some 35), .move (.t 6), none⟩,
⟨(some 36), .bin .add 2 (.t 35) (.c (.int .i64 1)), none⟩,
⟨(some 6), .assign (.t 36), none⟩]))))))))
    (.region false [] [
⟨(some 17), .move (.t 5), none⟩,
⟨(some 18), .bin .add 2 (.t 17) (.c (.int .i64 1)), none⟩,
⟨(some 5), .assign (.t 18), none⟩]))))))
    (.seq (.region false [] [
⟨(some 4), .assign (.c (.bool true)), none⟩])
    (.ret))))⟩

def f96 : DFn := ⟨8, [.tmp 2],
    .seq (.region false [] [⟨(some 2), .assign (.c (.imm .exact [])), none⟩]) (.seq (.region false [] [
⟨(some 5), .bslice false 6 0 [], none⟩,
⟨(some 6), .move (.t 0), none⟩,
⟨(some 7), .append 1 6 6 (.t 5) (.t 6), none⟩,
⟨(some 2), .assign (.t 7), none⟩]) .ret)⟩

def f97 : DFn := ⟨24, [.cell 6 17, .tmp 7, .tmp 8],
    .seq (.region false [] [
⟨(some 3), .box 25 (.t 0), none⟩,
⟨(some 5), .box 7 (.t 2), none⟩,
⟨(some 6), .alloc 17, none⟩,
⟨(some 7), .assign (.c (.int .i64 0)), none⟩,
⟨(some 8), .assign (.c (.bool false)), none⟩])
    (.seq (.region false [] [
⟨(some 10), .faddr 25 (.t 3) 0, none⟩,
⟨(some 11), .faddr 0 (.t 10) 2, none⟩,
⟨(some 12), .load 14 (.t 11), none⟩,
⟨(some 13), .move (.t 1), none⟩,
⟨(some 14), .iaddr 14 (.t 12) (.t 13), none⟩,
⟨(some 15), .load 15 (.t 14), none⟩,
⟨(some 9), .alloc 15, none⟩,
⟨none, .store 15 (.t 9) (.t 15), none⟩])
    (.seq (.region false [] [
⟨(some 16), .load 25 (.t 3), none⟩,
⟨(some 17), .move (.t 1), none⟩,
⟨(some 18), .call 0 (.f 114) [(.t 16), (.t 17)], none⟩,
⟨(some 19), .mkfn 115 [(.t 5), (.t 9), (.t 3)], none⟩,
⟨(some 20), .call 1 (.f 116) [(.t 18), (.t 19)], none⟩,
⟨(some 21), .extract (.t 20) 0, none⟩,
⟨(some 22), .extract (.t 20) 1, none⟩,
⟨(some 23), .extract (.t 20) 2, none⟩,
⟨none, .store 17 (.t 6) (.t 21), none⟩,
⟨(some 7), .assign (.t 22), none⟩,
⟨(some 8), .assign (.t 23), none⟩])
    (.ret)))⟩

def f98 : DFn := ⟨16, [.tmp 4],
    .seq (.region false [] [
⟨(some 2), .box 25 (.t 0), none⟩,
⟨(some 3), .box 20 (.t 1), none⟩,
⟨(some 4), .assign (.c (.int .i64 0)), none⟩])
    (.seq (.region false [] [
⟨(some 8), .faddr 25 (.t 2) 0, none⟩,
⟨(some 9), .faddr 0 (.t 8) 0, none⟩,
⟨(some 10), .load 10 (.t 9), none⟩,
⟨(some 11), .load 20 (.t 3), none⟩,
⟨(some 12), .call 0 (.f 117) [(.t 10), (.t 11), (.f 118)], none⟩,
⟨(some 7), .move (.t 12), none⟩,
⟨(some 13), .extract (.t 7) 0, none⟩,
⟨(some 14), .extract (.t 7) 1, none⟩,
⟨(some 5), .assign (.t 13), none⟩,
⟨(some 6), .assign (.t 14), none⟩])
    (.seq (.region false [] [
⟨(some 15), .move (.t 5), none⟩,
⟨(some 4), .assign (.t 15), none⟩])
    (.ret)))⟩

def f99 : DFn := ⟨71, [.tmp 12, .tmp 13],
    .seq (.region false [] [
⟨(some 6), .box 0 (.t 0), none⟩,
⟨(some 12), .assign (.c (.int .i64 0)), none⟩,
⟨(some 13), .assign (.c (.int .i64 0)), none⟩])
    (.seq (.region false [] [
⟨(some 19), .faddr 0 (.t 6) 2, none⟩,
⟨(some 20), .load 14 (.t 19), none⟩,
⟨(some 21), .move (.t 4), none⟩,
⟨(some 22), .iaddr 14 (.t 20) (.t 21), none⟩,
⟨(some 23), .load 15 (.t 22), none⟩,
⟨(some 14), .alloc 15, none⟩,
⟨none, .store 15 (.t 14) (.t 23), none⟩])
    (.seq (.region false [] [
⟨(some 15), .assign (.c (.int .i64 (-1))), none⟩])
    (.seq (.region false [] [
⟨(some 16), .assign (.c (.int .i64 0)), none⟩])
    (.seq (.seq (.region false [] [
⟨(some 17), .assign (.c (.int .i64 0)), none⟩])
    (.block 0 (.loop (.seq (.seq (.region false [] [
⟨(some 24), .move (.t 17), none⟩,
⟨(some 25), .faddr 15 (.t 14) 3, none⟩,
⟨(some 26), .load 16 (.t 25), none⟩,
⟨(some 27), .len 16 (.t 26), none⟩,
⟨(some 28), .bin .lss 2 (.t 24) (.t 27), none⟩])
    (.cond (.t 28) (.skip) (.exit 0)))
    (.seq (.block 1 (.seq (.seq (.region false [] [
⟨(some 31), .load 0 (.t 6), none⟩,
⟨(some 32), .move (.t 1), none⟩,
⟨(some 33), .move (.t 2), none⟩,
⟨(some 34), .move (.t 4), none⟩,
⟨(some 35), .move (.t 17), none⟩,
⟨(some 36), .call 0 (.f 119) [(.t 31), (.t 32), (.t 33), (.t 34), (.t 35)], none⟩,
⟨(some 37), .un .not (.t 36), none⟩])
    (.cond (.t 37) (.exit 1) (.skip)))
    (.seq (.region true [] [
⟨(some 38), .move (.t 5), none⟩,
⟨(some 39), .faddr 15 (.t 14) 3, none⟩,
⟨(some 40), .load 16 (.t 39), none⟩,
⟨(some 41), .move (.t 17), none⟩,
⟨(some 42), .iaddr 16 (.t 40) (.t 41), none⟩,
⟨(some 43), .faddr 17 (.t 42) 1, none⟩,
⟨(some 44), .load 2 (.t 43), none⟩,
⟨(some 45), .bin .mul 2 (.t 38) (.t 44), none⟩,
⟨(some 46), .faddr 15 (.t 14) 2, none⟩,
⟨(some 47), .load 6 (.t 46), none⟩,
⟨(some 48), .len 6 (.t 47), none⟩,
⟨(some 49), .bin .mul 2 (.t 45) (.t 48), none⟩,
⟨(some 50), .load 0 (.t 6), none⟩,
⟨(some 51), .move (.t 3), none⟩,
⟨(some 52), .load 15 (.t 14), none⟩,
⟨(some 53), .faddr 15 (.t 14) 3, none⟩,
⟨(some 54), .load 16 (.t 53), none⟩,
⟨(some 55), .move (.t 17), none⟩,
⟨(some 56), .iaddr 16 (.t 54) (.t 55), none⟩,
⟨(some 57), .load 17 (.t 56), none⟩,
⟨(some 58), .call 0 (.f 120) [(.t 50), (.t 51), (.t 52), (.t 57)], none⟩,
⟨(some 59), .bin .add 2 (.t 49) (.t 58), none⟩,
⟨(some 18), .assign (.t 59), none⟩])
    (.seq (.region false [] [
⟨(some 60), .move (.t 15), none⟩,
⟨(some 61), .bin .lss 2 (.t 60) (.c (.int .i64 0)), none⟩,
⟨(some 62), .move (.t 61), none⟩,
⟨(some 63), .move (.t 18), (some (62, false))⟩,
⟨(some 64), .move (.t 16), (some (62, false))⟩,
⟨(some 65), .bin .lss 2 (.t 63) (.t 64), (some (62, false))⟩,
⟨(some 66), .pick (.t 62) (.c (.bool true)) (.t 65), none⟩])
    (.cond (.t 66) (.seq (.region false [] [
⟨(some 67), .move (.t 17), none⟩,
⟨(some 15), .assign (.t 67), none⟩])
    (.region false [] [
⟨(some 68), .move (.t 18), none⟩,
⟨(some 16), .assign (.t 68), none⟩])) (.skip))))))
    (.region false [] [
⟨(some 29), .move (.t 17), none⟩,
⟨(some 30), .bin .add 2 (.t 29) (.c (.int .i64 1)), none⟩,
⟨(some 17), .assign (.t 30), none⟩]))))))
    (.seq (.region false [] [
⟨(some 69), .move (.t 15), none⟩,
⟨(some 70), .move (.t 16), none⟩,
⟨(some 12), .assign (.t 69), none⟩,
⟨(some 13), .assign (.t 70), none⟩])
    (.ret))))))⟩

def f100 : DFn := ⟨21, [.tmp 4],
    .seq (.region false [] [
⟨(some 2), .box 0 (.t 0), none⟩,
⟨(some 3), .box 20 (.t 1), none⟩,
⟨(some 4), .assign (.c (.int .i64 0)), none⟩])
    (.seq (.seq (.region false [] [
⟨(some 5), .assign (.c (.int .i64 0)), none⟩])
    (.block 0 (.loop (.seq (.seq (.region false [] [
⟨(some 6), .move (.t 5), none⟩,
⟨(some 7), .faddr 0 (.t 2) 0, none⟩,
⟨(some 8), .load 10 (.t 7), none⟩,
⟨(some 9), .len 10 (.t 8), none⟩,
⟨(some 10), .bin .lss 2 (.t 6) (.t 9), none⟩])
    (.cond (.t 10) (.skip) (.exit 0)))
    (.seq (.block 1 (.seq (.region true [] [
⟨(some 13), .faddr 0 (.t 2) 0, none⟩,
⟨(some 14), .load 10 (.t 13), none⟩,
⟨(some 15), .move (.t 5), none⟩,
⟨(some 16), .iaddr 10 (.t 14) (.t 15), none⟩,
⟨(some 17), .load 20 (.t 16), none⟩,
⟨(some 18), .load 20 (.t 3), none⟩,
⟨(some 19), .bin .eql 20 (.t 17) (.t 18), none⟩])
    (.cond (.t 19) (.seq (.region false [] [
⟨(some 20), .move (.t 5), none⟩,
⟨(some 4), .assign (.t 20), none⟩])
    (.ret)) (.skip))))
    (.region false [] [
⟨(some 11), .move (.t 5), none⟩,
⟨(some 12), .bin .add 2 (.t 11) (.c (.int .i64 1)), none⟩,
⟨(some 5), .assign (.t 12), none⟩]))))))
    (.seq (.region false [] [
⟨(some 4), .assign (.c (.int .i64 (-1))), none⟩])
    (.ret)))⟩

def f105 : DFn := ⟨18, [.tmp 2],
    .seq (.region false [] [
⟨(some 2), .assign (.c (.int .i64 0)), none⟩])
    (.seq (.region false [] [
⟨(some 3), .assign (.c (.int .i64 0)), none⟩])
    (.seq (.seq (.region false [] [
⟨(some 6), .move (.t 0), none⟩,
⟨(some 7), .len 6 (.t 6), none⟩,
⟨(some 8), .move (.c (.int .i64 0)), none⟩])
    (.block 0 (.loop (.seq (.region false [] [
⟨(some 9), .bin .lss 2 (.t 8) (.t 7), none⟩])
    (.seq (.cond (.t 9) (.skip) (.exit 0))
    (.seq (.block 1 (.seq (.region false [] [
⟨(some 10), .iaddr 6 (.t 6) (.t 8), none⟩,
⟨(some 11), .load 2 (.t 10), none⟩,
⟨(some 5), .assign (.t 11), none⟩])
    (.seq (.region false [] [
⟨(some 12), .move (.t 5), none⟩,
⟨(some 13), .move (.t 3), none⟩,
⟨(some 14), .bin .neq 2 (.t 12) (.t 13), none⟩])
    (.cond (.t 14) (.seq (.region false [] [
⟨(some 15), .move (.t 5), none⟩,
⟨(some 2), .assign (.t 15), none⟩])
    (.ret)) (.skip)))))
    (.region false [] [
⟨(some 16), .bin .add 2 (.t 8) (.c (.int .i64 1)), none⟩,
⟨(some 8), .move (.t 16), none⟩])))))))
    (.seq (.region false [] [
⟨(some 17), .move (.t 3), none⟩,
⟨(some 2), .assign (.t 17), none⟩])
    (.ret))))⟩

def f106 : DFn := ⟨19, [.tmp 4],
    .seq (.region false [] [
⟨(some 4), .assign (.c (.int .i64 0)), none⟩])
    (.seq (.seq (.region false [] [
⟨(some 6), .move (.t 0), none⟩,
⟨(some 7), .len 6 (.t 6), none⟩,
⟨(some 8), .move (.c (.int .i64 0)), none⟩])
    (.block 0 (.loop (.seq (.region false [] [
⟨(some 9), .bin .lss 2 (.t 8) (.t 7), none⟩])
    (.seq (.cond (.t 9) (.skip) (.exit 0))
    (.seq (.block 1 (.seq (.region false [] [
⟨(some 10), .move (.t 8), none⟩,
⟨(some 5), .assign (.t 10), none⟩])
    (.seq (.region false [] [
⟨(some 11), .move (.t 1), none⟩,
⟨(some 12), .move (.t 0), none⟩,
⟨(some 13), .move (.t 5), none⟩,
⟨(some 14), .iaddr 6 (.t 12) (.t 13), none⟩,
⟨(some 15), .load 2 (.t 14), none⟩,
⟨(some 16), .call 0 (.t 11) [(.t 15)], none⟩])
    (.cond (.t 16) (.seq (.region false [] [
⟨(some 17), .move (.t 5), none⟩,
⟨(some 4), .assign (.t 17), none⟩])
    (.ret)) (.skip)))))
    (.region false [] [
⟨(some 18), .bin .add 2 (.t 8) (.c (.int .i64 1)), none⟩,
⟨(some 8), .move (.t 18), none⟩])))))))
    (.seq (.region false [] [
⟨(some 4), .assign (.c (.int .i64 (-1))), none⟩])
    (.ret)))⟩

def f107 : DFn := ⟨6, [.tmp 2],
    .seq (.region false [] [
⟨(some 2), .assign (.c (.bool false)), none⟩])
    (.seq (.region false [] [
⟨(some 3), .move (.t 0), none⟩,
⟨(some 4), .move (.t 0), none⟩,
⟨(some 5), .bin .neq 2 (.t 3) (.t 4), none⟩,
⟨(some 2), .assign (.t 5), none⟩])
    (.ret))⟩

def f109 : DFn := ⟨19, [.tmp 4],
    .seq (.region false [] [
⟨(some 3), .box 20 (.t 1), none⟩,
⟨(some 4), .assign (.c (.int .i64 0)), none⟩])
    (.seq (.seq (.region false [] [
⟨(some 5), .assign (.c (.int .i64 0)), none⟩])
    (.block 0 (.loop (.seq (.seq (.region false [] [
⟨(some 6), .move (.t 5), none⟩,
⟨(some 7), .move (.t 0), none⟩,
⟨(some 8), .len 10 (.t 7), none⟩,
⟨(some 9), .bin .lss 2 (.t 6) (.t 8), none⟩])
    (.cond (.t 9) (.skip) (.exit 0)))
    (.seq (.block 1 (.seq (.region true [] [
⟨(some 12), .move (.t 0), none⟩,
⟨(some 13), .move (.t 5), none⟩,
⟨(some 14), .iaddr 10 (.t 12) (.t 13), none⟩,
⟨(some 15), .load 20 (.t 14), none⟩,
⟨(some 16), .load 20 (.t 3), none⟩,
⟨(some 17), .bin .eql 20 (.t 15) (.t 16), none⟩])
    (.cond (.t 17) (.seq (.region false [] [
⟨(some 18), .move (.t 5), none⟩,
⟨(some 4), .assign (.t 18), none⟩])
    (.ret)) (.skip))))
    (.region false [] [
⟨(some 10), .move (.t 5), none⟩,
⟨(some 11), .bin .add 2 (.t 10) (.c (.int .i64 1)), none⟩,
⟨(some 5), .assign (.t 11), none⟩]))))))
    (.seq (.region false [] [
⟨(some 4), .assign (.c (.int .i64 (-1))), none⟩])
    (.ret)))⟩

def f112 : DFn := ⟨9, [.tmp 2],
    .seq (.region false [] [
⟨(some 2), .assign (.c (.bool false)), none⟩])
    (.seq (.region false [] [
⟨(some 3), .move (.t 0), none⟩,
⟨(some 4), .bin .lss 2 (.t 3) (.c (.int .i64 0)), none⟩,
⟨(some 5), .move (.t 4), none⟩,
⟨(some 6), .move (.t 0), (some (5, false))⟩,
⟨(some 7), .bin .gtr 2 (.t 6) (.c (.int .i64 65536)), (some (5, false))⟩,
⟨(some 8), .pick (.t 5) (.c (.bool true)) (.t 7), none⟩,
⟨(some 2), .assign (.t 8), none⟩])
    (.ret))⟩

def f113 : DFn := ⟨19, [.tmp 4],
    .seq (.region false [] [
⟨(some 4), .assign (.c (.int .i64 0)), none⟩])
    (.seq (.seq (.region false [] [
⟨(some 6), .move (.t 0), none⟩,
⟨(some 7), .len 9 (.t 6), none⟩,
⟨(some 8), .move (.c (.int .i64 0)), none⟩])
    (.block 0 (.loop (.seq (.region false [] [
⟨(some 9), .bin .lss 2 (.t 8) (.t 7), none⟩])
    (.seq (.cond (.t 9) (.skip) (.exit 0))
    (.seq (.block 1 (.seq (.region false [] [
⟨(some 10), .move (.t 8), none⟩,
⟨(some 5), .assign (.t 10), none⟩])
    (.seq (.region false [] [
⟨(some 11), .move (.t 1), none⟩,
⟨(some 12), .move (.t 0), none⟩,
⟨(some 13), .move (.t 5), none⟩,
⟨(some 14), .iaddr 9 (.t 12) (.t 13), none⟩,
⟨(some 15), .load 6 (.t 14), none⟩,
⟨(some 16), .call 0 (.t 11) [(.t 15)], none⟩])
    (.cond (.t 16) (.seq (.region false [] [
⟨(some 17), .move (.t 5), none⟩,
⟨(some 4), .assign (.t 17), none⟩])
    (.ret)) (.skip)))))
    (.region false [] [
⟨(some 18), .bin .add 2 (.t 8) (.c (.int .i64 1)), none⟩,
⟨(some 8), .move (.t 18), none⟩])))))))
    (.seq (.region false [] [
⟨(some 4), .assign (.c (.int .i64 (-1))), none⟩])
    (.ret)))⟩

def f114 : DFn := ⟨6, [.tmp 4],
    .seq (.region false [] [
⟨(some 2), .box 25 (.t 0), none⟩,
⟨(some 3), .box 2 (.t 1), none⟩,
⟨(some 4), .assign (.c .nilfn), none⟩])
    (.seq (.region false [] [
⟨(some 5), .mkfn 124 [(.t 2), (.t 3)], none⟩,
⟨(some 4), .assign (.t 5), none⟩])
    (.ret))⟩

def f115 : DFn := ⟨52, [.tmp 5],
    .seq (.region false [] [
⟨(some 4), .box 17 (.t 0), none⟩,
⟨(some 5), .assign (.c (.int .i64 0)), none⟩])
    (.seq (.seq (.region false [] [
⟨(some 11), .load 7 (.t 1), none⟩])
    (.cond (.t 11) (.region false [] [
⟨(some 12), .faddr 17 (.t 4) 1, none⟩,
⟨(some 13), .load 2 (.t 12), none⟩,
⟨(some 14), .faddr 15 (.t 2) 2, none⟩,
⟨(some 15), .load 6 (.t 14), none⟩,
⟨(some 16), .len 6 (.t 15), none⟩,
⟨(some 17), .bin .mul 2 (.t 13) (.t 16), none⟩,
⟨(some 5), .assign (.t 17), none⟩]) (.skip)))
    (.seq (.seq (.region false [] [
⟨(some 18), .faddr 17 (.t 4) 3, none⟩,
⟨(some 19), .load 18 (.t 18), none⟩,
⟨(some 20), .len 18 (.t 19), none⟩,
⟨(some 21), .move (.c (.int .i64 0)), none⟩])
    (.block 0 (.loop (.seq (.region false [] [
⟨(some 22), .bin .lss 2 (.t 21) (.t 20), none⟩])
    (.seq (.cond (.t 22) (.skip) (.exit 0))
    (.seq (.block 1 (.seq (.region false [] [
⟨(some 23), .iaddr 18 (.t 19) (.t 21), none⟩,
⟨(some 24), .load 19 (.t 23), none⟩,
⟨(some 7), .alloc 19, none⟩,
⟨none, .store 19 (.t 7) (.t 24), none⟩])
    (.seq (.region false [] [
⟨(some 25), .load 25 (.t 3), none⟩,
⟨(some 26), .faddr 19 (.t 7) 0, none⟩,
⟨(some 27), .load 20 (.t 26), none⟩,
⟨(some 28), .call 0 (.f 98) [(.t 25), (.t 27)], none⟩,
⟨(some 8), .assign (.t 28), none⟩])
    (.seq (.region false [] [
⟨(some 29), .faddr 15 (.t 2) 2, none⟩,
⟨(some 30), .load 6 (.t 29), none⟩,
⟨(some 31), .len 6 (.t 30), none⟩,
⟨(some 32), .move (.c (.int .i64 0)), none⟩])
    (.block 2 (.loop (.seq (.region false [] [
⟨(some 33), .bin .lss 2 (.t 32) (.t 31), none⟩])
    (.seq (.cond (.t 33) (.skip) (.exit 2))
    (.seq (.block 3 (.seq (.region false [] [
⟨(some 34), .iaddr 6 (.t 30) (.t 32), none⟩,
⟨(some 35), .load 2 (.t 34), none⟩,
⟨(some 10), .assign (.t 35), none⟩])
    (.region true [] [
⟨(some 36), .move (.t 5), none⟩,
⟨(some 37), .faddr 25 (.t 3) 3, none⟩,
⟨(some 38), .load 9 (.t 37), none⟩,
⟨(some 39), .move (.t 10), none⟩,
⟨(some 40), .iaddr 9 (.t 38) (.t 39), none⟩,
⟨(some 41), .load 6 (.t 40), none⟩,
⟨(some 42), .move (.t 8), none⟩,
⟨(some 43), .iaddr 6 (.t 41) (.t 42), none⟩,
⟨(some 44), .load 2 (.t 43), none⟩,
⟨(some 45), .faddr 19 (.t 7) 1, none⟩,
⟨(some 46), .load 2 (.t 45), none⟩,
⟨(some 47), .bin .mul 2 (.t 44) (.t 46), none⟩,
⟨(some 48), .bin .add 2 (.t 36) (.t 47), none⟩,
⟨(some 5), .assign (.t 48), none⟩])))
    (.region false [] [
⟨(some 49), .bin .add 2 (.t 32) (.c (.int .i64 1)), none⟩,
⟨(some 32), .move (.t 49), none⟩]))))))))))
    (.region false [] [
⟨(some 50), .bin .add 2 (.t 21) (.c (.int .i64 1)), none⟩,
⟨(some 21), .move (.t 50), none⟩])))))))
    (.seq (.region false [] [
⟨(some 51), .move (.t 5), none⟩,
⟨(some 5), .assign (.t 51), none⟩])
    (.ret))))⟩

def f116 : DFn := ⟨26, [.cell 4 17, .cell 5 2, .cell 6 7],
    .seq (.region false [] [
⟨(some 3), .box 27 (.t 1), none⟩,
⟨(some 4), .alloc 17, none⟩,
⟨(some 5), .alloc 2, none⟩,
⟨(some 6), .alloc 7, none⟩])
    (.seq (.seq (.region false [] [
⟨(some 9), .move (.t 0), none⟩])
    (.block 0 (.rfunc (.t 9) [10] (.region false [] [
⟨(some 7), .alloc 17, none⟩,
⟨none, .store 17 (.t 7) (.t 10), none⟩]) (.block 1 (.seq (.region false [] [
⟨(some 11), .load 27 (.t 3), none⟩,
⟨(some 12), .load 17 (.t 7), none⟩,
⟨(some 13), .call 0 (.t 11) [(.t 12)], none⟩,
⟨(some 8), .assign (.t 13), none⟩])
    (.seq (.region false [] [
⟨(some 14), .load 7 (.t 6), none⟩,
⟨(some 15), .un .not (.t 14), none⟩,
⟨(some 16), .move (.t 15), none⟩,
⟨(some 17), .move (.t 8), (some (16, false))⟩,
⟨(some 18), .load 2 (.t 5), (some (16, false))⟩,
⟨(some 19), .bin .lss 2 (.t 17) (.t 18), (some (16, false))⟩,
⟨(some 20), .pick (.t 16) (.c (.bool true)) (.t 19), none⟩])
    (.cond (.t 20) (.region false [] [
⟨(some 21), .load 17 (.t 7), none⟩,
⟨(some 22), .move (.t 8), none⟩,
⟨none, .store 17 (.t 4) (.t 21), none⟩,
⟨none, .store 2 (.t 5) (.t 22), none⟩,
⟨none, .store 7 (.t 6) (.c (.bool true)), none⟩]) (.skip))))))))
    (.seq (.region true [(1, 3), (2, 3), (2, 4)] [
⟨(some 23), .load 17 (.t 4), none⟩,
⟨(some 24), .load 2 (.t 5), none⟩,
⟨(some 25), .load 7 (.t 6), none⟩,
⟨none, .store 17 (.t 4) (.t 23), none⟩,
⟨none, .store 2 (.t 5) (.t 24), none⟩,
⟨none, .store 7 (.t 6) (.t 25), none⟩])
    (.ret)))⟩

def f117 : DFn := ⟨49, [.tmp 6, .tmp 7],
    .seq (.region false [] [
⟨(some 4), .box 20 (.t 1), none⟩,
⟨(some 6), .assign (.c (.int .i64 0)), none⟩,
⟨(some 7), .assign (.c (.bool false)), none⟩])
    (.seq (.region false [] [
⟨(some 12), .move (.t 0), none⟩,
⟨(some 13), .len 10 (.t 12), none⟩,
⟨(some 8), .assign (.t 13), none⟩])
    (.seq (.region false [] [
⟨(some 14), .move (.t 8), none⟩,
⟨(some 9), .assign (.c (.int .i64 0)), none⟩,
⟨(some 10), .assign (.t 14), none⟩])
    (.seq (.block 0 (.loop (.seq (.seq (.region false [] [
⟨(some 15), .move (.t 9), none⟩,
⟨(some 16), .move (.t 10), none⟩,
⟨(some 17), .bin .lss 2 (.t 15) (.t 16), none⟩])
    (.cond (.t 17) (.skip) (.exit 0)))
    (.block 1 (.seq (.region false [] [
⟨(some 18), .move (.t 9), none⟩,
⟨(some 19), .move (.t 10), none⟩,
⟨(some 20), .bin .add 2 (.t 18) (.t 19), none⟩,
⟨(some 21), .conv 2 12 (.t 20), none⟩,
⟨(some 22), .bin .shr 12 (.t 21) (.c (.int .u64 1)), none⟩,
⟨(some 23), .conv 12 2 (.t 22), none⟩,
⟨(some 11), .assign (.t 23), none⟩])
    (.seq (.region true [] [
⟨(some 24), .move (.t 2), none⟩,
⟨(some 25), .move (.t 0), none⟩,
⟨(some 26), .move (.t 11), none⟩,
⟨(some 27), .iaddr 10 (.t 25) (.t 26), none⟩,
⟨(some 28), .load 20 (.t 27), none⟩,
⟨(some 29), .load 20 (.t 4), none⟩,
⟨(some 30), .call 0 (.t 24) [(.t 28), (.t 29)], none⟩,
⟨(some 31), .bin .lss 2 (.t 30) (.c (.int .i64 0)), none⟩])
    (.cond (.t 31) (.region false [] [
⟨(some 32), .move (.t 11), none⟩,
⟨(some 33), .bin .add 2 (.t 32) (.c (.int .i64 1)), none⟩,
⟨(some 9), .assign (.t 33), none⟩]) (.region false [] [
⟨(some 34), .move (.t 11), none⟩,
⟨(some 10), .assign (.t 34), none⟩]))))))))
    (.seq (.region true [] [
⟨(some 35), .move (.t 9), none⟩,
⟨(some 36), .move (.t 9), none⟩,
⟨(some 37), .move (.t 8), none⟩,
⟨(some 38), .bin .lss 2 (.t 36) (.t 37), none⟩,
⟨(some 39), .move (.t 38), none⟩,
⟨(some 40), .move (.t 2), (some (39, true))⟩,
⟨(some 41), .move (.t 0), (some (39, true))⟩,
⟨(some 42), .move (.t 9), (some (39, true))⟩,
⟨(some 43), .iaddr 10 (.t 41) (.t 42), (some (39, true))⟩,
⟨(some 44), .load 20 (.t 43), (some (39, true))⟩,
⟨(some 45), .load 20 (.t 4), (some (39, true))⟩,
⟨(some 46), .call 0 (.t 40) [(.t 44), (.t 45)], (some (39, true))⟩,
⟨(some 47), .bin .eql 2 (.t 46) (.c (.int .i64 0)), (some (39, true))⟩,
⟨(some 48), .pick (.t 39) (.t 47) (.c (.bool false)), none⟩,
⟨(some 6), .assign (.t 35), none⟩,
⟨(some 7), .assign (.t 48), none⟩])
    (.ret)))))⟩

def f118 : DFn := ⟨25, [.tmp 4],
    .seq (.region false [] [
⟨(some 2), .box 20 (.t 0), none⟩,
⟨(some 3), .box 20 (.t 1), none⟩,
⟨(some 4), .assign (.c (.int .i64 0)), none⟩])
    (.seq (.region false [] [
⟨(some 5), .assign (.f 125), none⟩])
    (.seq (.region true [] [
⟨(some 6), .move (.t 5), none⟩,
⟨(some 7), .load 20 (.t 2), none⟩,
⟨(some 8), .call 0 (.t 6) [(.t 7)], none⟩,
⟨(some 9), .move (.t 5), none⟩,
⟨(some 10), .load 20 (.t 3), none⟩,
⟨(some 11), .call 0 (.t 9) [(.t 10)], none⟩,
⟨(some 12), .call 0 (.f 74) [(.t 8), (.t 11)], none⟩,
⟨(some 13), .faddr 20 (.t 2) 1, none⟩,
⟨(some 14), .load 2 (.t 13), none⟩,
⟨(some 15), .faddr 20 (.t 3) 1, none⟩,
⟨(some 16), .load 2 (.t 15), none⟩,
⟨(some 17), .call 0 (.f 74) [(.t 14), (.t 16)], none⟩,
⟨(some 18), .faddr 20 (.t 2) 2, none⟩,
⟨(some 19), .load 2 (.t 18), none⟩,
⟨(some 20), .faddr 20 (.t 3) 2, none⟩,
⟨(some 21), .load 2 (.t 20), none⟩,
⟨(some 22), .call 0 (.f 74) [(.t 19), (.t 21)], none⟩,
⟨(some 23), .bslice false 6 3 [(0, (.t 12)), (1, (.t 17)), (2, (.t 22))], none⟩,
⟨(some 24), .call 0 (.f 105) [(.t 23)], none⟩,
⟨(some 4), .assign (.t 24), none⟩])
    (.ret)))⟩

def f119 : DFn := ⟨35, [.tmp 10],
    .seq (.region false [] [
⟨(some 5), .box 0 (.t 0), none⟩,
⟨(some 10), .assign (.c (.bool false)), none⟩])
    (.seq (.seq (.region false [] [
⟨(some 11), .move (.t 3), none⟩,
⟨(some 12), .move (.t 1), none⟩,
⟨(some 13), .len 1 (.t 12), none⟩,
⟨(some 14), .bin .lss 2 (.t 11) (.t 13), none⟩,
⟨(some 15), .move (.t 14), none⟩,
⟨(some 16), .move (.t 1), (some (15, true))⟩,
⟨(some 17), .move (.t 3), (some (15, true))⟩,
⟨(some 18), .iaddr 1 (.t 16) (.t 17), (some (15, true))⟩,
⟨(some 19), .load 2 (.t 18), (some (15, true))⟩,
⟨(some 20), .move (.t 4), (some (15, true))⟩,
⟨(some 21), .bin .neq 2 (.t 19) (.t 20), (some (15, true))⟩,
⟨(some 22), .pick (.t 15) (.t 21) (.c (.bool false)), none⟩])
    (.cond (.t 22) (.seq (.region false [] [
⟨(some 10), .assign (.c (.bool false)), none⟩])
    (.ret)) (.skip)))
    (.seq (.region false [] [
⟨(some 23), .faddr 0 (.t 5) 2, none⟩,
⟨(some 24), .load 14 (.t 23), none⟩,
⟨(some 25), .move (.t 3), none⟩,
⟨(some 26), .iaddr 14 (.t 24) (.t 25), none⟩,
⟨(some 27), .faddr 15 (.t 26) 3, none⟩,
⟨(some 28), .load 16 (.t 27), none⟩,
⟨(some 29), .move (.t 4), none⟩,
⟨(some 30), .iaddr 16 (.t 28) (.t 29), none⟩,
⟨(some 31), .faddr 17 (.t 30) 0, none⟩,
⟨(some 32), .load 2 (.t 31), none⟩,
⟨(some 33), .move (.t 2), none⟩,
⟨(some 34), .bin .leq 2 (.t 32) (.t 33), none⟩,
⟨(some 10), .assign (.t 34), none⟩])
    (.ret)))⟩

def f120 : DFn := ⟨56, [.tmp 8],
    .seq (.region false [] [
⟨(some 4), .box 0 (.t 0), none⟩,
⟨(some 6), .box 15 (.t 2), none⟩,
⟨(some 7), .box 17 (.t 3), none⟩,
⟨(some 8), .assign (.c (.int .i64 0)), none⟩])
    (.seq (.region false [] [
⟨(some 9), .assign (.c (.int .i64 0)), none⟩])
    (.seq (.seq (.region false [] [
⟨(some 10), .assign (.c (.int .i64 0)), none⟩])
    (.block 0 (.loop (.seq (.seq (.region false [] [
⟨(some 13), .move (.t 10), none⟩,
⟨(some 14), .faddr 17 (.t 7) 3, none⟩,
⟨(some 15), .load 18 (.t 14), none⟩,
⟨(some 16), .len 18 (.t 15), none⟩,
⟨(some 17), .bin .lss 2 (.t 13) (.t 16), none⟩])
    (.cond (.t 17) (.skip) (.exit 0)))
    (.seq (.block 1 (.seq (.region true [] [
⟨(some 20), .load 0 (.t 4), none⟩,
⟨(some 21), .faddr 17 (.t 7) 3, none⟩,
⟨(some 22), .load 18 (.t 21), none⟩,
⟨(some 23), .move (.t 10), none⟩,
⟨(some 24), .iaddr 18 (.t 22) (.t 23), none⟩,
⟨(some 25), .faddr 19 (.t 24) 0, none⟩,
⟨(some 26), .load 20 (.t 25), none⟩,
⟨(some 27), .call 0 (.f 100) [(.t 20), (.t 26)], none⟩,
⟨(some 11), .assign (.t 27), none⟩])
    (.seq (.region false [] [
⟨(some 12), .assign (.c (.int .i64 0)), none⟩])
    (.block 2 (.loop (.seq (.seq (.region false [] [
⟨(some 28), .move (.t 12), none⟩,
⟨(some 29), .faddr 15 (.t 6) 2, none⟩,
⟨(some 30), .load 6 (.t 29), none⟩,
⟨(some 31), .len 6 (.t 30), none⟩,
⟨(some 32), .bin .lss 2 (.t 28) (.t 31), none⟩])
    (.cond (.t 32) (.skip) (.exit 2)))
    (.seq (.block 3 (.region true [] [
⟨(some 35), .move (.t 9), none⟩,
⟨(some 36), .move (.t 1), none⟩,
⟨(some 37), .faddr 15 (.t 6) 2, none⟩,
⟨(some 38), .load 6 (.t 37), none⟩,
⟨(some 39), .move (.t 12), none⟩,
⟨(some 40), .iaddr 6 (.t 38) (.t 39), none⟩,
⟨(some 41), .load 2 (.t 40), none⟩,
⟨(some 42), .iaddr 9 (.t 36) (.t 41), none⟩,
⟨(some 43), .load 6 (.t 42), none⟩,
⟨(some 44), .move (.t 11), none⟩,
⟨(some 45), .iaddr 6 (.t 43) (.t 44), none⟩,
⟨(some 46), .load 2 (.t 45), none⟩,
⟨(some 47), .faddr 17 (.t 7) 3, none⟩,
⟨(some 48), .load 18 (.t 47), none⟩,
⟨(some 49), .move (.t 10), none⟩,
⟨(some 50), .iaddr 18 (.t 48) (.t 49), none⟩,
⟨(some 51), .faddr 19 (.t 50) 1, none⟩,
⟨(some 52), .load 2 (.t 51), none⟩,
⟨(some 53), .bin .mul 2 (.t 46) (.t 52), none⟩,
⟨(some 54), .bin .add 2 (.t 35) (.t 53), none⟩,
⟨(some 9), .assign (.t 54), none⟩]))
    (.region false [] [
⟨(some 33), .move (.t 12), none⟩,
⟨(some 34), .bin .add 2 (.t 33) (.c (.int .i64 1)), none⟩,
⟨(some 12), .assign (.t 34), none⟩]))))))))
    (.region false [] [
⟨(some 18), .move (.t 10), none⟩,
⟨(some 19), .bin .add 2 (.t 18) (.c (.int .i64 1)), none⟩,
⟨(some 10), .assign (.t 19), none⟩]))))))
    (.seq (.region false [] [
⟨(some 55), .move (.t 9), none⟩,
⟨(some 8), .assign (.t 55), none⟩])
    (.ret))))⟩

def f124 : DFn := ⟨47, [],
    .seq (.region false [] [
⟨(some 6), .faddr 25 (.t 1) 0, none⟩,
⟨(some 7), .faddr 0 (.t 6) 2, none⟩,
⟨(some 8), .load 14 (.t 7), none⟩,
⟨(some 9), .load 2 (.t 2), none⟩,
⟨(some 10), .iaddr 14 (.t 8) (.t 9), none⟩,
⟨(some 11), .faddr 15 (.t 10) 3, none⟩,
⟨(some 12), .load 16 (.t 11), none⟩,
⟨(some 13), .len 16 (.t 12), none⟩,
⟨(some 14), .move (.c (.int .i64 0)), none⟩])
    (.block 0 (.loop (.seq (.region false [] [
⟨(some 15), .bin .lss 2 (.t 14) (.t 13), none⟩])
    (.seq (.cond (.t 15) (.skip) (.exit 0))
    (.seq (.block 1 (.seq (.region false [] [
⟨(some 16), .move (.t 14), none⟩,
⟨(some 17), .iaddr 16 (.t 12) (.t 14), none⟩,
⟨(some 18), .load 17 (.t 17), none⟩,
⟨(some 5), .alloc 17, none⟩,
⟨(some 4), .assign (.t 16), none⟩,
⟨none, .store 17 (.t 5) (.t 18), none⟩])
    (.seq (.region false [] [
⟨(some 19), .faddr 17 (.t 5) 0, none⟩,
⟨(some 20), .load 2 (.t 19), none⟩,
⟨(some 21), .faddr 25 (.t 1) 2, none⟩,
⟨(some 22), .load 2 (.t 21), none⟩,
⟨(some 23), .bin .leq 2 (.t 20) (.t 22), none⟩,
⟨(some 24), .move (.t 23), none⟩,
⟨(some 25), .load 2 (.t 2), (some (24, true))⟩,
⟨(some 26), .faddr 25 (.t 1) 1, (some (24, true))⟩,
⟨(some 27), .load 1 (.t 26), (some (24, true))⟩,
⟨(some 28), .len 1 (.t 27), (some (24, true))⟩,
⟨(some 29), .bin .geq 2 (.t 25) (.t 28), (some (24, true))⟩,
⟨(some 30), .move (.t 29), (some (24, true))⟩,
⟨(some 31), .faddr 25 (.t 1) 1, (some (30, false))⟩,
⟨(some 32), .load 1 (.t 31), (some (30, false))⟩,
⟨(some 33), .load 2 (.t 2), (some (30, false))⟩,
⟨(some 34), .iaddr 1 (.t 32) (.t 33), (some (30, false))⟩,
⟨(some 35), .load 2 (.t 34), (some (30, false))⟩,
⟨(some 36), .move (.t 4), (some (30, false))⟩,
⟨(some 37), .bin .eql 2 (.t 35) (.t 36), (some (30, false))⟩,
⟨(some 38), .pick (.t 30) (.c (.bool true)) (.t 37), (some (24, true))⟩,
⟨(some 39), .pick (.t 24) (.t 38) (.c (.bool false)), none⟩,
⟨(some 40), .move (.t 39), none⟩,
⟨(some 41), .move (.t 0), (some (40, true))⟩,
⟨(some 42), .load 17 (.t 5), (some (40, true))⟩,
⟨(some 43), .call 2 (.t 41) [(.t 42)], (some (40, true))⟩,
⟨(some 44), .un .not (.t 43), (some (40, true))⟩,
⟨(some 45), .pick (.t 40) (.t 44) (.c (.bool false)), none⟩])
    (.cond (.t 45) (.ret) (.skip)))))
    (.region false [] [
⟨(some 46), .bin .add 2 (.t 14) (.c (.int .i64 1)), none⟩,
⟨(some 14), .move (.t 46), none⟩]))))))⟩

def f125 : DFn := ⟨5, [.tmp 2],
    .seq (.region false [] [
⟨(some 1), .box 20 (.t 0), none⟩,
⟨(some 2), .assign (.c (.int .i64 0)), none⟩])
    (.seq (.seq (.region false [] [
⟨(some 3), .faddr 20 (.t 1) 0, none⟩,
⟨(some 4), .load 7 (.t 3), none⟩])
    (.cond (.t 4) (.seq (.region false [] [
⟨(some 2), .assign (.c (.int .i64 1)), none⟩])
    (.ret)) (.skip)))
    (.seq (.region false [] [
⟨(some 2), .assign (.c (.int .i64 0)), none⟩])
    (.ret)))⟩

def tyTab : Nat → TI
  | 0 => ⟨.struct [(0, 10), (1, 9), (2, 14)], 3, 72, [(.imm .exact []), (.imm .exact []), (.imm .exact [])], false⟩
  | 1 => ⟨.slice 2, 1, 24, [(.imm .exact [])], false⟩
  | 2 => ⟨.int .i64, 1, 8, [(.int .i64 0)], false⟩
  | 3 => ⟨.int .i64, 1, 8, [(.int .i64 0)], false⟩
  | 4 => ⟨.slice 1, 1, 24, [(.imm .exact [])], false⟩
  | 5 => ⟨.slice 7, 1, 24, [(.imm .exact [])], false⟩
  | 6 => ⟨.slice 2, 1, 24, [(.imm .exact [])], false⟩
  | 7 => ⟨.bool, 1, 1, [(.bool false)], false⟩
  | 8 => ⟨.slice 11, 1, 24, [(.imm .exact [])], false⟩
  | 9 => ⟨.slice 6, 1, 24, [(.imm .exact [])], false⟩
  | 10 => ⟨.slice 20, 1, 24, [(.imm .exact [])], false⟩
  | 11 => ⟨.struct [(0, 2), (1, 2)], 2, 16, [(.int .i64 0), (.int .i64 0)], true⟩
  | 12 => ⟨.int .u64, 1, 8, [(.int .u64 0)], false⟩
  | 13 => ⟨.int .u8, 1, 1, [(.int .u8 0)], false⟩
  | 14 => ⟨.slice 15, 1, 24, [(.imm .exact [])], false⟩
  | 15 => ⟨.struct [(0, 2), (1, 2), (2, 6), (3, 16)], 4, 64, [(.int .i64 0), (.int .i64 0), (.imm .exact []), (.imm .exact [])], false⟩
  | 16 => ⟨.slice 17, 1, 24, [(.imm .exact [])], false⟩
  | 17 => ⟨.struct [(0, 2), (1, 2), (2, 2), (3, 18)], 4, 48, [(.int .i64 0), (.int .i64 0), (.int .i64 0), (.imm .exact [])], false⟩
  | 18 => ⟨.slice 19, 1, 24, [(.imm .exact [])], false⟩
  | 19 => ⟨.struct [(0, 20), (3, 2)], 4, 32, [(.bool false), (.int .i64 0), (.int .i64 0), (.int .i64 0)], true⟩
  | 20 => ⟨.struct [(0, 7), (1, 2), (2, 2)], 3, 24, [(.bool false), (.int .i64 0), (.int .i64 0)], true⟩
  | 21 => ⟨.map 20 7, 1, 8, [(.map none)], false⟩
  | 22 => ⟨.arr 4 2, 4, 32, [(.int .i64 0), (.int .i64 0), (.int .i64 0), (.int .i64 0)], true⟩
  | 23 => ⟨.arr 2 6, 2, 48, [(.imm .exact []), (.imm .exact [])], false⟩
  | 24 => ⟨.slice 23, 1, 24, [(.imm .exact [])], false⟩
  | 25 => ⟨.struct [(0, 0), (3, 1), (4, 2), (5, 9)], 6, 128, [(.imm .exact []), (.imm .exact []), (.imm .exact []), (.imm .exact []), (.int .i64 0), (.imm .exact [])], false⟩
  | 26 => ⟨.map 20 2, 1, 8, [(.map none)], false⟩
  | 27 => ⟨.func, 1, 8, [.nilfn], false⟩
  | _ => ⟨.other, 0, 0, [], false⟩

def fnTab : Nat → Option DFn
  | 2 => some f2
  | 15 => some f15
  | 19 => some f19
  | 20 => some f20
  | 35 => some f35
  | 36 => some f36
  | 37 => some f37
  | 39 => some f39
  | 41 => some f41
  | 42 => some f42
  | 43 => some f43
  | 44 => some f44
  | 45 => some f45
  | 46 => some f46
  | 47 => some f47
  | 48 => some f48
  | 49 => some f49
  | 50 => some f50
  | 61 => some f61
  | 67 => some f67
  | 69 => some f69
  | 70 => some f70
  | 71 => some f71
  | 72 => some f72
  | 73 => some f73
  | 74 => some f74
  | 75 => some f75
  | 76 => some f76
  | 78 => some f78
  | 79 => some f79
  | 81 => some f81
  | 82 => some f82
  | 88 => some f88
  | 89 => some f89
  | 90 => some f90
  | 91 => some f91
  | 93 => some f93
  | 94 => some f94
  | 95 => some f95
  | 96 => some f96
  | 97 => some f97
  | 98 => some f98
  | 99 => some f99
  | 100 => some f100
  | 105 => some f105
  | 106 => some f106
  | 107 => some f107
  | 109 => some f109
  | 112 => some f112
  | 113 => some f113
  | 114 => some f114
  | 115 => some f115
  | 116 => some f116
  | 117 => some f117
  | 118 => some f118
  | 119 => some f119
  | 120 => some f120
  | 124 => some f124
  | 125 => some f125
  | _ => none

def E : Env := ⟨tyTab, fnTab⟩

end Dv
