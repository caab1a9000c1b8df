/- Texts that a proof of this claim uses, joined: Dv.Code. -/
import Derived.Test.YticmiacfglmbeaaGreatDva
set_option linter.all false
namespace Dv
open Go (IntKind BinOp UnOp)

abbrev oO (n:Nat) (x:DOp):DOpr := ⟨some n,x,none⟩
abbrev oE (x:DOp):DOpr := ⟨none,x,none⟩
abbrev oM (n k:Nat):DOpr := ⟨some n,.move (.t k),none⟩
abbrev u9I (k:Int):Opd := .c (.int .i64 k)
abbrev u9B (k:Bool):Opd := .c (.bool k)
abbrev u9G (n:Nat) (x:DOp) (k:Nat):DOpr := ⟨some n,x,some (k,false)⟩
abbrev oL (n t a:Nat):DOpr := ⟨some n,.load t (.t a),none⟩
abbrev oF (n t a k:Nat):DOpr := ⟨some n,.faddr t (.t a) k,none⟩
abbrev oI (n t a b:Nat):DOpr := ⟨some n,.iaddr t (.t a) (.t b),none⟩
abbrev oN (n t a:Nat):DOpr := ⟨some n,.len t (.t a),none⟩
abbrev oA (n a:Nat):DOpr := ⟨some n,.assign (.t a),none⟩
abbrev rg (l:List DOpr):DC := .region false [] l
def f3:DFn := ⟨89,[.cell 4 6,.tmp 5],
 .seq (rg [oO 2 (.box 0 (.t 0)),
 oO 4 (.alloc 6),
 oO 5 (.assign (u9I 0))])
(.seq (.seq (rg [oL 14 0 2,
 oM 15 1,
 oO 16 (.call 0 (.f 62) [(.t 14),(.t 15)]),
 oA 5 16])
(.seq (rg [oM 17 5,
 oO 18 (.bin .neq 3 (.t 17) (u9I 0))])
(.cond (.t 18) (.seq (rg [oM 19 5,
 oE (.store 6 (.t 4) (.c (.imm .exact []))),
 oA 5 19])
(.ret)) (.skip))))
(.seq (rg [oO 20 (.mkslice true 6 (u9I 4) (u9I 4)),
 oE (.store 6 (.t 4) (.t 20))])
(.seq (.seq (rg [oF 21 0 2 1,
 oL 22 9 21,
 oN 23 9 22,
 oO 24 (.move (u9I 0))])
(.block 0 (.loop (.seq (rg [oO 25 (.bin .lss 2 (.t 24) (.t 23))])
(.seq (.cond (.t 25) (.skip) (.exit 0))
(.seq (.block 1 (.seq (rg [oM 26 24,
 oI 27 9 22 24,
 oL 28 6 27,
 oA 6 26,
 oA 7 28])
(.seq (rg [oL 30 0 2,
 oM 31 1,
 oM 32 6,
 oO 33 (.call 0 (.f 14) [(.t 30),(.t 31),(.t 32)]),
 oM 29 33,
 oO 34 (.extract (.t 29) 0),
 oO 35 (.extract (.t 29) 1),
 oA 8 34,
 oA 9 35])
(.seq (rg [oM 36 8,
 oN 37 6 36,
 oO 38 (.move (u9I 0))])
(.block 2 (.loop (.seq (rg [oO 39 (.bin .lss 2 (.t 38) (.t 37))])
(.seq (.cond (.t 39) (.skip) (.exit 2))
(.seq (.block 3 (.seq (rg [oM 40 38,
 oI 41 6 36 38,
 oL 42 2 41,
 oA 10 40,
 oA 11 42])
(.region true [] [
 oL 43 6 4,
 oO 44 (.iaddr 6 (.t 43) (u9I 0)),
 oL 45 2 44,
 oM 46 11,
 oM 47 7,
 oM 48 10,
 oI 49 6 47 48,
 oL 50 2 49,
 oO 51 (.bin .sub 2 (.t 46) (.t 50)),
 oO 52 (.maxi [(.t 51),(u9I 0)]),
 oO 53 (.bin .add 2 (.t 45) (.t 52)),
 oO 54 (.iaddr 6 (.t 43) (u9I 0)),
 oE (.store 2 (.t 54) (.t 53))])))
(rg [oO 55 (.bin .add 2 (.t 38) (u9I 1)),
 oM 38 55]))))))))))
(rg [oO 56 (.bin .add 2 (.t 24) (u9I 1)),
 oM 24 56])))))))
(.seq (.seq (rg [oL 57 0 2,
 oM 58 1,
 oO 59 (.call 0 (.f 63) [(.t 57),(.t 58)])])
(.block 4 (.rfunc (.t 59) [60,61] (.seq (rg [oA 12 60])
(rg [oO 13 (.alloc 17),
 oE (.store 17 (.t 13) (.t 61))])) (.block 5 (.seq (.region true [] [
 oL 62 6 4,
 oL 63 6 4,
 oO 64 (.iaddr 6 (.t 63) (u9I 1)),
 oL 65 2 64,
 oF 66 17 13 0,
 oL 67 2 66,
 oO 68 (.maxi [(.t 65),(.t 67)]),
 oO 69 (.iaddr 6 (.t 62) (u9I 1)),
 oE (.store 2 (.t 69) (.t 68))])
(.seq (.region true [] [
 oL 70 6 4,
 oO 71 (.iaddr 6 (.t 70) (u9I 2)),
 oL 72 2 71,
 oF 73 17 13 1,
 oL 74 2 73,
 oM 75 12,
 oO 76 (.bin .mul 2 (.t 74) (.t 75)),
 oO 77 (.bin .add 2 (.t 72) (.t 76)),
 oO 78 (.iaddr 6 (.t 70) (u9I 2)),
 oE (.store 2 (.t 78) (.t 77))])
(.region true [] [
 oL 79 6 4,
 oO 80 (.iaddr 6 (.t 79) (u9I 3)),
 oL 81 2 80,
 oF 82 17 13 2,
 oL 83 2 82,
 oM 84 12,
 oO 85 (.bin .mul 2 (.t 83) (.t 84)),
 oO 86 (.bin .add 2 (.t 81) (.t 85)),
 oO 87 (.iaddr 6 (.t 79) (u9I 3)),
 oE (.store 2 (.t 87) (.t 86))])))))))
(.seq (rg [oL 88 6 4,
 oE (.store 6 (.t 4) (.t 88)),
 oO 5 (.assign (u9I 0))])
(.ret))))))⟩

def f9:DFn := ⟨20,[.tmp 4,.tmp 5],
 .seq (rg [oO 2 (.box 0 (.t 0)),
 oO 4 (.assign (.c (.imm .exact []))),
 oO 5 (.assign (u9I 0))])
(.seq (.seq (rg [oL 6 0 2,
 oM 7 1,
 oO 8 (.call 0 (.f 62) [(.t 6),(.t 7)]),
 oA 5 8])
(.seq (rg [oM 9 5,
 oO 10 (.bin .neq 3 (.t 9) (u9I 0))])
(.cond (.t 10) (.seq (rg [oM 11 5,
 oO 4 (.assign (.c (.imm .exact []))),
 oA 5 11])
(.ret)) (.skip))))
(.seq (rg [oF 12 0 2 2,
 oL 13 14 12,
 oN 14 14 13,
 oO 15 (.mkslice true 6 (.t 14) (.t 14)),
 oA 4 15])
(.seq (rg [oM 16 4,
 oM 17 1,
 oO 18 (.copy 6 1 (.t 16) (.t 17))])
(.seq (rg [oM 19 4,
 oA 4 19,
 oO 5 (.assign (u9I 0))])
(.ret)))))⟩

def f14:DFn := ⟨27,[.tmp 6,.tmp 7],
 .seq (rg [oO 3 (.box 0 (.t 0)),
 oO 6 (.assign (.c (.imm .exact []))),
 oO 7 (.assign (u9I 0))])
(.seq (.seq (rg [oL 8 0 3,
 oM 9 1,
 oO 10 (.call 0 (.f 66) [(.t 8),(.t 9)]),
 oA 7 10])
(.seq (rg [oM 11 7,
 oO 12 (.bin .neq 3 (.t 11) (u9I 0))])
(.cond (.t 12) (.seq (rg [oM 13 7,
 oO 6 (.assign (.c (.imm .exact []))),
 oA 7 13])
(.ret)) (.skip))))
(.seq (.seq (rg [oM 14 2,
 oF 15 0 3 1,
 oL 16 9 15,
 oN 17 9 16,
 oO 18 (.bin .sub 2 (.t 17) (u9I 1)),
 oO 19 (.call 0 (.f 67) [(.t 14),(u9I 0),(.t 18)]),
 oO 20 (.un .not (.t 19))])
(.cond (.t 20) (.seq (rg [oO 6 (.assign (.c (.imm .exact []))),
 oO 7 (.assign (u9I 270))])
(.ret)) (.skip)))
(.seq (rg [oL 21 0 3,
 oM 22 1,
 oO 23 (.call 0 (.f 68) [(.t 21),(.t 22)]),
 oM 24 2,
 oI 25 9 23 24,
 oL 26 6 25,
 oA 6 26,
 oO 7 (.assign (u9I 0))])
(.ret))))⟩

def f15:DFn := ⟨173,[.tmp 2],
 .seq (rg [oO 1 (.box 0 (.t 0)),
 oO 2 (.assign (u9I 0))])
(.seq (.seq (rg [oF 15 0 1 0,
 oL 16 10 15,
 oN 17 10 16,
 oO 18 (.bin .gtr 2 (.t 17) (u9I 4096)),
 oM 19 18,
 u9G 20 (.faddr 0 (.t 1) 1) 19,
 u9G 21 (.load 9 (.t 20)) 19,
 u9G 22 (.len 9 (.t 21)) 19,
 u9G 23 (.call 0 (.f 67) [(.t 22),(u9I 1),(u9I 32)]) 19,
 u9G 24 (.un .not (.t 23)) 19,
 oO 25 (.pick (.t 19) (u9B true) (.t 24)),
 oM 26 25,
 u9G 27 (.faddr 0 (.t 1) 2) 26,
 u9G 28 (.load 14 (.t 27)) 26,
 u9G 29 (.len 14 (.t 28)) 26,
 u9G 30 (.bin .gtr 2 (.t 29) (u9I 64)) 26,
 oO 31 (.pick (.t 26) (u9B true) (.t 30)),
 oM 32 31,
 u9G 33 (.faddr 0 (.t 1) 0) 32,
 u9G 34 (.load 10 (.t 33)) 32,
 u9G 35 (.call 0 (.f 69) [(.t 34),(.f 70)]) 32,
 u9G 36 (.un .not (.t 35)) 32,
 oO 37 (.pick (.t 32) (u9B true) (.t 36))])
(.cond (.t 37) (.seq (rg [oO 2 (.assign (u9I 270))])
(.ret)) (.skip)))
(.seq (rg [oO 38 (.mkmap 21),
 oA 3 38])
(.seq (.seq (rg [oF 39 0 1 0,
 oL 40 10 39,
 oN 41 10 40,
 oO 42 (.move (u9I 0))])
(.block 0 (.loop (.seq (rg [oO 43 (.bin .lss 2 (.t 42) (.t 41))])
(.seq (.cond (.t 43) (.skip) (.exit 0))
(.seq (.block 1 (.seq (rg [oI 44 10 40 42,
 oL 45 20 44,
 oO 5 (.alloc 20),
 oE (.store 20 (.t 5) (.t 45))])
(.seq (.seq (rg [oF 46 20 5 1,
 oL 47 2 46,
 oO 48 (.bin .lss 2 (.t 47) (u9I 0)),
 oM 49 48,
 u9G 50 (.faddr 20 (.t 5) 2) 49,
 u9G 51 (.load 2 (.t 50)) 49,
 u9G 52 (.bin .lss 2 (.t 51) (u9I 0)) 49,
 oO 53 (.pick (.t 49) (u9B true) (.t 52))])
(.cond (.t 53) (.seq (rg [oO 2 (.assign (u9I 270))])
(.ret)) (.skip)))
(rg [oM 54 3,
 oL 55 20 5,
 oE (.mapset 21 (.t 54) (.t 55) (u9B true))]))))
(rg [oO 56 (.bin .add 2 (.t 42) (u9I 1)),
 oM 42 56])))))))
(.seq (.seq (rg [oF 57 0 1 1,
 oL 58 9 57,
 oN 59 9 58,
 oO 60 (.move (u9I 0))])
(.block 2 (.loop (.seq (rg [oO 61 (.bin .lss 2 (.t 60) (.t 59))])
(.seq (.cond (.t 61) (.skip) (.exit 2))
(.seq (.block 3 (.seq (rg [oI 62 9 58 60,
 oL 63 6 62,
 oA 7 63])
(.seq (rg [oM 64 7,
 oN 65 6 64,
 oF 66 0 1 0,
 oL 67 10 66,
 oN 68 10 67,
 oO 69 (.bin .neq 2 (.t 65) (.t 68)),
 oM 70 69,
 u9G 71 (.move (.t 7)) 70,
 u9G 72 (.call 0 (.f 71) [(.t 71),(.f 72)]) 70,
 oO 73 (.pick (.t 70) (u9B true) (.t 72))])
(.cond (.t 73) (.seq (rg [oO 2 (.assign (u9I 270))])
(.ret)) (.skip)))))
(rg [oO 74 (.bin .add 2 (.t 60) (u9I 1)),
 oM 60 74])))))))
(.seq (.seq (rg [oF 75 0 1 2,
 oL 76 14 75,
 oN 77 14 76,
 oO 78 (.move (u9I 0))])
(.block 4 (.loop (.seq (rg [oO 79 (.bin .lss 2 (.t 78) (.t 77))])
(.seq (.cond (.t 79) (.skip) (.exit 4))
(.seq (.block 5 (.seq (rg [oI 80 14 76 78,
 oL 81 15 80,
 oO 9 (.alloc 15),
 oE (.store 15 (.t 9) (.t 81))])
(.seq (.seq (.region true [] [
 oF 82 15 9 2,
 oL 83 6 82,
 oN 84 6 83,
 oO 85 (.bin .eql 2 (.t 84) (u9I 0)),
 oM 86 85,
 u9G 87 (.faddr 15 (.t 9) 3) 86,
 u9G 88 (.load 16 (.t 87)) 86,
 u9G 89 (.len 16 (.t 88)) 86,
 u9G 90 (.call 0 (.f 67) [(.t 89),(u9I 1),(u9I 96)]) 86,
 u9G 91 (.un .not (.t 90)) 86,
 oO 92 (.pick (.t 86) (u9B true) (.t 91)),
 oM 93 92,
 u9G 94 (.faddr 15 (.t 9) 2) 93,
 u9G 95 (.load 6 (.t 94)) 93,
 u9G 96 (.call 0 (.f 73) [(.t 95),(.f 74)]) 93,
 u9G 97 (.un .not (.t 96)) 93,
 oO 98 (.pick (.t 93) (u9B true) (.t 97)),
 oM 99 98,
 u9G 100 (.faddr 15 (.t 9) 2) 99,
 u9G 101 (.load 6 (.t 100)) 99,
 u9G 102 (.iaddr 6 (.t 101) (u9I 0)) 99,
 u9G 103 (.load 2 (.t 102)) 99,
 u9G 104 (.bin .lss 2 (.t 103) (u9I 0)) 99,
 oO 105 (.pick (.t 99) (u9B true) (.t 104)),
 oM 106 105,
 u9G 107 (.faddr 15 (.t 9) 2) 106,
 u9G 108 (.load 6 (.t 107)) 106,
 u9G 109 (.faddr 15 (.t 9) 2) 106,
 u9G 110 (.load 6 (.t 109)) 106,
 u9G 111 (.len 6 (.t 110)) 106,
 u9G 112 (.bin .sub 2 (.t 111) (u9I 1)) 106,
 u9G 113 (.iaddr 6 (.t 108) (.t 112)) 106,
 u9G 114 (.load 2 (.t 113)) 106,
 u9G 115 (.faddr 0 (.t 1) 1) 106,
 u9G 116 (.load 9 (.t 115)) 106,
 u9G 117 (.len 9 (.t 116)) 106,
 u9G 118 (.bin .geq 2 (.t 114) (.t 117)) 106,
 oO 119 (.pick (.t 106) (u9B true) (.t 118))])
(.cond (.t 119) (.seq (rg [oO 2 (.assign (u9I 270))])
(.ret)) (.skip)))
(.seq (rg [oF 120 15 9 3,
 oL 121 16 120,
 oN 122 16 121,
 oO 123 (.move (u9I 0))])
(.block 6 (.loop (.seq (rg [oO 124 (.bin .lss 2 (.t 123) (.t 122))])
(.seq (.cond (.t 124) (.skip) (.exit 6))
(.seq (.block 7 (.seq (rg [oI 125 16 121 123,
 oL 126 17 125,
 oO 11 (.alloc 17),
 oE (.store 17 (.t 11) (.t 126))])
(.seq (rg [oO 12 (.assign (u9I 1048576))])
(.seq (.seq (rg [oF 127 17 11 0,
 oL 128 2 127,
 oM 129 12,
 oO 130 (.call 0 (.f 67) [(.t 128),(u9I 0),(.t 129)]),
 oO 131 (.un .not (.t 130)),
 oM 132 131,
 u9G 133 (.faddr 17 (.t 11) 1) 132,
 u9G 134 (.load 2 (.t 133)) 132,
 u9G 135 (.move (.t 12)) 132,
 u9G 136 (.call 0 (.f 67) [(.t 134),(u9I 0),(.t 135)]) 132,
 u9G 137 (.un .not (.t 136)) 132,
 oO 138 (.pick (.t 132) (u9B true) (.t 137)),
 oM 139 138,
 u9G 140 (.faddr 17 (.t 11) 2) 139,
 u9G 141 (.load 2 (.t 140)) 139,
 u9G 142 (.move (.t 12)) 139,
 u9G 143 (.call 0 (.f 67) [(.t 141),(u9I 0),(.t 142)]) 139,
 u9G 144 (.un .not (.t 143)) 139,
 oO 145 (.pick (.t 139) (u9B true) (.t 144)),
 oM 146 145,
 u9G 147 (.faddr 17 (.t 11) 3) 146,
 u9G 148 (.load 18 (.t 147)) 146,
 u9G 149 (.call 0 (.f 75) [(.t 148),(.f 76)]) 146,
 u9G 150 (.un .not (.t 149)) 146,
 oO 151 (.pick (.t 146) (u9B true) (.t 150))])
(.cond (.t 151) (.seq (rg [oO 2 (.assign (u9I 270))])
(.ret)) (.skip)))
(.seq (rg [oF 152 17 11 3,
 oL 153 18 152,
 oN 154 18 153,
 oO 155 (.move (u9I 0))])
(.block 8 (.loop (.seq (rg [oO 156 (.bin .lss 2 (.t 155) (.t 154))])
(.seq (.cond (.t 156) (.skip) (.exit 8))
(.seq (.block 9 (.seq (rg [oI 157 18 153 155,
 oL 158 19 157,
 oO 14 (.alloc 19),
 oE (.store 19 (.t 14) (.t 158))])
(.seq (rg [oM 159 3,
 oF 160 19 14 0,
 oL 161 20 160,
 oO 162 (.lookup 21 (.t 159) (.t 161) false),
 oO 163 (.un .not (.t 162)),
 oM 164 163,
 u9G 165 (.faddr 19 (.t 14) 1) 164,
 u9G 166 (.load 2 (.t 165)) 164,
 u9G 167 (.call 0 (.f 67) [(.t 166),(u9I 1),(u9I 8)]) 164,
 u9G 168 (.un .not (.t 167)) 164,
 oO 169 (.pick (.t 164) (u9B true) (.t 168))])
(.cond (.t 169) (.seq (rg [oO 2 (.assign (u9I 270))])
(.ret)) (.skip)))))
(rg [oO 170 (.bin .add 2 (.t 155) (u9I 1)),
 oM 155 170])))))))))))
(rg [oO 171 (.bin .add 2 (.t 123) (u9I 1)),
 oM 123 171]))))))))))
(rg [oO 172 (.bin .add 2 (.t 78) (u9I 1)),
 oM 78 172])))))))
(.seq (rg [oO 2 (.assign (u9I 0))])
(.ret)))))))⟩

def f20:DFn := ⟨26,[.tmp 4],
 .seq (rg [oO 4 (.assign (u9B false))])
(.seq (.seq (rg [oM 6 0,
 oN 7 6 6,
 oM 8 1,
 oN 9 6 8,
 oO 10 (.bin .neq 2 (.t 7) (.t 9))])
(.cond (.t 10) (.seq (rg [oO 4 (.assign (u9B false))])
(.ret)) (.skip)))
(.seq (.seq (rg [oO 5 (.assign (u9I 0))])
(.block 0 (.loop (.seq (.seq (rg [oM 11 5,
 oM 12 0,
 oN 13 6 12,
 oO 14 (.bin .lss 2 (.t 11) (.t 13))])
(.cond (.t 14) (.skip) (.exit 0)))
(.seq (.block 1 (.seq (.region true [] [
 oM 17 0,
 oM 18 5,
 oI 19 6 17 18,
 oL 20 2 19,
 oM 21 1,
 oM 22 5,
 oI 23 6 21 22,
 oL 24 2 23,
 oO 25 (.bin .neq 2 (.t 20) (.t 24))])
(.cond (.t 25) (.seq (rg [oO 4 (.assign (u9B false))])
(.ret)) (.skip))))
(rg [oM 15 5,
 oO 16 (.bin .add 2 (.t 15) (u9I 1)),
 oA 5 16]))))))
(.seq (rg [oO 4 (.assign (u9B true))])
(.ret))))⟩

def f22:DFn := ⟨76,[.tmp 4,.tmp 5],
 .seq (rg [oO 2 (.box 0 (.t 0)),
 oO 4 (.assign (.c (.imm .exact []))),
 oO 5 (.assign (u9I 0))])
(.seq (.seq (rg [oL 13 0 2,
 oM 14 1,
 oO 15 (.call 0 (.f 83) [(.t 13),(.t 14)]),
 oA 5 15])
(.seq (rg [oM 16 5,
 oO 17 (.bin .neq 3 (.t 16) (u9I 0))])
(.cond (.t 17) (.seq (rg [oM 18 5,
 oO 4 (.assign (.c (.imm .exact []))),
 oA 5 18])
(.ret)) (.skip))))
(.seq (rg [oO 6 (.alloc 22)])
(.seq (.seq (rg [oL 19 0 2,
 oM 20 1,
 oO 21 (.call 0 (.f 84) [(.t 19),(.t 20)])])
(.block 0 (.rfunc (.t 21) [22,23] (rg [oA 8 23]) (.block 1 (rg [oO 24 (.iaddr 22 (.t 6) (u9I 0)),
 oL 25 2 24,
 oM 26 8,
 oO 27 (.bin .add 2 (.t 25) (.t 26)),
 oO 28 (.iaddr 22 (.t 6) (u9I 0)),
 oE (.store 2 (.t 28) (.t 27))])))))
(.seq (.seq (rg [oM 29 1,
 oN 30 6 29,
 oO 31 (.move (u9I 0))])
(.block 2 (.loop (.seq (rg [oO 32 (.bin .lss 2 (.t 31) (.t 30))])
(.seq (.cond (.t 32) (.skip) (.exit 2))
(.seq (.block 3 (.seq (rg [oM 33 31,
 oI 34 6 29 31,
 oL 35 2 34,
 oA 9 33,
 oA 10 35])
(.seq (.region true [(10,17),(14,17),(15,17)] [
 oF 36 0 2 2,
 oL 37 14 36,
 oM 38 9,
 oI 39 14 37 38,
 oF 40 15 39 3,
 oL 41 16 40,
 oM 42 10,
 oI 43 16 41 42,
 oL 44 17 43,
 oF 45 0 2 2,
 oL 46 14 45,
 oM 47 9,
 oI 48 14 46 47,
 oF 49 15 48 2,
 oL 50 6 49,
 oN 51 6 50,
 oO 11 (.alloc 17),
 oE (.store 17 (.t 11) (.t 44)),
 oA 12 51])
(.seq (rg [oO 52 (.iaddr 22 (.t 6) (u9I 1)),
 oL 53 2 52,
 oF 54 17 11 0,
 oL 55 2 54,
 oO 56 (.maxi [(.t 53),(.t 55)]),
 oO 57 (.iaddr 22 (.t 6) (u9I 1)),
 oE (.store 2 (.t 57) (.t 56))])
(.seq (rg [oO 58 (.iaddr 22 (.t 6) (u9I 2)),
 oL 59 2 58,
 oF 60 17 11 1,
 oL 61 2 60,
 oM 62 12,
 oO 63 (.bin .mul 2 (.t 61) (.t 62)),
 oO 64 (.bin .add 2 (.t 59) (.t 63)),
 oO 65 (.iaddr 22 (.t 6) (u9I 2)),
 oE (.store 2 (.t 65) (.t 64))])
(rg [oO 66 (.iaddr 22 (.t 6) (u9I 3)),
 oL 67 2 66,
 oF 68 17 11 2,
 oL 69 2 68,
 oM 70 12,
 oO 71 (.bin .mul 2 (.t 69) (.t 70)),
 oO 72 (.bin .add 2 (.t 67) (.t 71)),
 oO 73 (.iaddr 22 (.t 6) (u9I 3)),
 oE (.store 2 (.t 73) (.t 72))]))))))
(rg [oO 74 (.bin .add 2 (.t 31) (u9I 1)),
 oM 31 74])))))))
(.seq (rg [oO 75 (.slice 22 (.t 6) none none none),
 oA 4 75,
 oO 5 (.assign (u9I 0))])
(.ret))))))⟩

def f24:DFn := ⟨62,[.tmp 6,.tmp 7],
 .seq (rg [oO 3 (.box 0 (.t 0)),
 oO 6 (.assign (u9B false)),
 oO 7 (.assign (u9I 0))])
(.seq (rg [oL 15 0 3,
 oM 16 1,
 oO 17 (.call 0 (.f 22) [(.t 15),(.t 16)]),
 oM 14 17,
 oO 18 (.extract (.t 14) 0),
 oO 19 (.extract (.t 14) 1),
 oA 8 18,
 oA 7 19])
(.seq (.seq (rg [oM 20 7,
 oO 21 (.bin .neq 3 (.t 20) (u9I 0))])
(.cond (.t 21) (.seq (rg [oM 22 7,
 oO 6 (.assign (u9B false)),
 oA 7 22])
(.ret)) (.skip)))
(.seq (rg [oL 24 0 3,
 oM 25 2,
 oO 26 (.call 0 (.f 22) [(.t 24),(.t 25)]),
 oM 23 26,
 oO 27 (.extract (.t 23) 0),
 oO 28 (.extract (.t 23) 1),
 oA 9 27,
 oA 7 28])
(.seq (.seq (rg [oM 29 7,
 oO 30 (.bin .neq 3 (.t 29) (u9I 0))])
(.cond (.t 30) (.seq (rg [oM 31 7,
 oO 6 (.assign (u9B false)),
 oA 7 31])
(.ret)) (.skip)))
(.seq (.seq (rg [oM 32 8,
 oM 33 9,
 oO 34 (.build 23 [(0,(.t 32)),(1,(.t 33))]),
 oM 35 1,
 oM 36 2,
 oO 37 (.build 23 [(0,(.t 35)),(1,(.t 36))]),
 oO 38 (.bslice false 24 2 [(0,(.t 34)),(1,(.t 37))]),
 oN 39 24 38,
 oO 40 (.move (u9I 0))])
(.block 0 (.loop (.seq (rg [oO 41 (.bin .lss 2 (.t 40) (.t 39))])
(.seq (.cond (.t 41) (.skip) (.exit 0))
(.seq (.block 1 (.seq (rg [oI 42 24 38 40,
 oL 43 23 42,
 oO 11 (.alloc 23),
 oE (.store 23 (.t 11) (.t 43))])
(.seq (rg [oO 45 (.iaddr 23 (.t 11) (u9I 0)),
 oL 46 6 45,
 oO 47 (.iaddr 23 (.t 11) (u9I 1)),
 oL 48 6 47,
 oO 49 (.call 0 (.f 30) [(.t 46),(.t 48)]),
 oM 44 49,
 oO 50 (.extract (.t 44) 0),
 oO 51 (.extract (.t 44) 1),
 oA 12 50,
 oA 13 51])
(.seq (rg [oM 52 13,
 oO 53 (.bin .neq 3 (.t 52) (u9I 0)),
 oM 54 53,
 u9G 55 (.move (.t 12)) 54,
 u9G 56 (.bin .neq 2 (.t 55) (u9I 0)) 54,
 oO 57 (.pick (.t 54) (u9B true) (.t 56))])
(.cond (.t 57) (.seq (rg [oM 58 12,
 oO 59 (.bin .lss 2 (.t 58) (u9I 0)),
 oM 60 13,
 oA 6 59,
 oA 7 60])
(.ret)) (.skip))))))
(rg [oO 61 (.bin .add 2 (.t 40) (u9I 1)),
 oM 40 61])))))))
(.seq (rg [oO 6 (.assign (u9B false)),
 oO 7 (.assign (u9I 0))])
(.ret)))))))⟩

def f30:DFn := ⟨14,[.tmp 4,.tmp 5],
 .seq (rg [oO 4 (.assign (u9I 0)),
 oO 5 (.assign (u9I 0))])
(.seq (.seq (rg [oM 6 0,
 oN 7 6 6,
 oM 8 1,
 oN 9 6 8,
 oO 10 (.bin .neq 2 (.t 7) (.t 9))])
(.cond (.t 10) (.seq (rg [oO 4 (.assign (u9I 0)),
 oO 5 (.assign (u9I 60))])
(.ret)) (.skip)))
(.seq (rg [oM 11 0,
 oM 12 1,
 oO 13 (.call 0 (.f 87) [(.t 11),(.t 12)]),
 oA 4 13,
 oO 5 (.assign (u9I 0))])
(.ret)))⟩

def f37:DFn := ⟨30,[.tmp 8,.tmp 9,.tmp 10],
 .seq (rg [oO 4 (.box 0 (.t 0)),
 oO 8 (.assign (u9I 0)),
 oO 9 (.assign (u9B false)),
 oO 10 (.assign (u9I 0))])
(.seq (.seq (rg [oL 12 0 4,
 oM 13 1,
 oM 14 3,
 oO 15 (.call 0 (.f 89) [(.t 12),(.t 13),(.t 14)]),
 oA 11 15])
(.seq (rg [oM 16 11,
 oO 17 (.bin .neq 3 (.t 16) (u9I 0))])
(.cond (.t 17) (.seq (rg [oM 18 11,
 oO 8 (.assign (u9I 0)),
 oO 9 (.assign (u9B false)),
 oA 10 18])
(.ret)) (.skip))))
(.seq (rg [oL 20 0 4,
 oM 21 1,
 oM 22 2,
 oM 23 3,
 oO 24 (.build 25 [(0,(.t 20)),(1,(.t 21)),(2,(.t 22)),(3,(.t 23))]),
 oO 25 (.call 0 (.f 90) [(.t 24),(u9B true)]),
 oM 19 25,
 oO 26 (.extract (.t 19) 0),
 oO 27 (.extract (.t 19) 1),
 oA 8 26,
 oA 9 27])
(.seq (rg [oM 28 8,
 oM 29 9,
 oA 8 28,
 oA 9 29,
 oO 10 (.assign (u9I 0))])
(.ret))))⟩

def f39:DFn := ⟨35,[.tmp 8,.tmp 9],
 .seq (rg [oO 4 (.box 0 (.t 0)),
 oO 8 (.assign (u9B false)),
 oO 9 (.assign (u9I 0))])
(.seq (.seq (rg [oL 13 0 4,
 oM 14 1,
 oM 15 3,
 oO 16 (.call 0 (.f 89) [(.t 13),(.t 14),(.t 15)]),
 oA 10 16])
(.seq (rg [oM 17 10,
 oO 18 (.bin .neq 3 (.t 17) (u9I 0))])
(.cond (.t 18) (.seq (rg [oM 19 10,
 oO 8 (.assign (u9B false)),
 oA 9 19])
(.ret)) (.skip))))
(.seq (rg [oL 21 0 4,
 oM 22 1,
 oM 23 2,
 oM 24 3,
 oO 25 (.build 25 [(0,(.t 21)),(1,(.t 22)),(2,(.t 23)),(3,(.t 24))]),
 oO 26 (.call 0 (.f 90) [(.t 25),(u9B false)]),
 oM 20 26,
 oO 27 (.extract (.t 20) 0),
 oO 28 (.extract (.t 20) 1),
 oA 11 27,
 oA 12 28])
(.seq (rg [oM 29 12,
 oO 30 (.un .not (.t 29)),
 oM 31 30,
 u9G 32 (.move (.t 11)) 31,
 u9G 33 (.bin .gtr 2 (.t 32) (u9I 0)) 31,
 oO 34 (.pick (.t 31) (u9B true) (.t 33)),
 oA 8 34,
 oO 9 (.assign (u9I 0))])
(.ret))))⟩

def f41:DFn := ⟨24,[.tmp 4],
 .seq (rg [oO 2 (.box 0 (.t 0)),
 oO 4 (.assign (u9I 0))])
(.seq (.seq (rg [oL 7 0 2,
 oO 8 (.call 0 (.f 15) [(.t 7)]),
 oA 5 8])
(.seq (rg [oM 9 5,
 oO 10 (.bin .neq 3 (.t 9) (u9I 0))])
(.cond (.t 10) (.seq (rg [oM 11 5,
 oA 4 11])
(.ret)) (.skip))))
(.seq (rg [oO 12 (.mkfn 93 [(.t 2)]),
 oA 6 12])
(.seq (.seq (rg [oM 13 1,
 oN 14 9 13,
 oF 15 0 2 1,
 oL 16 9 15,
 oN 17 9 16,
 oO 18 (.bin .neq 2 (.t 14) (.t 17)),
 oM 19 18,
 u9G 20 (.move (.t 1)) 19,
 u9G 21 (.move (.t 6)) 19,
 u9G 22 (.call 1 (.f 94) [(.t 20),(.t 21)]) 19,
 oO 23 (.pick (.t 19) (u9B true) (.t 22))])
(.cond (.t 23) (.seq (rg [oO 4 (.assign (u9I 290))])
(.ret)) (.skip)))
(.seq (rg [oO 4 (.assign (u9I 0))])
(.ret)))))⟩

def f62:DFn := ⟨39,[.tmp 4],
 .seq (rg [oO 2 (.box 0 (.t 0)),
 oO 4 (.assign (u9I 0))])
(.seq (.seq (rg [oL 7 0 2,
 oO 8 (.call 0 (.f 15) [(.t 7)]),
 oA 4 8])
(.seq (rg [oM 9 4,
 oO 10 (.bin .neq 3 (.t 9) (u9I 0))])
(.cond (.t 10) (.seq (rg [oM 11 4,
 oA 4 11])
(.ret)) (.skip))))
(.seq (.seq (rg [oM 12 1,
 oN 13 1 12,
 oF 14 0 2 2,
 oL 15 14 14,
 oN 16 14 15,
 oO 17 (.bin .gtr 2 (.t 13) (.t 16))])
(.cond (.t 17) (.seq (rg [oO 4 (.assign (u9I 280))])
(.ret)) (.skip)))
(.seq (.seq (rg [oM 18 1,
 oN 19 1 18,
 oO 20 (.move (u9I 0))])
(.block 0 (.loop (.seq (rg [oO 21 (.bin .lss 2 (.t 20) (.t 19))])
(.seq (.cond (.t 21) (.skip) (.exit 0))
(.seq (.block 1 (.seq (rg [oM 22 20,
 oI 23 1 18 20,
 oL 24 2 23,
 oA 5 22,
 oA 6 24])
(.seq (rg [oM 25 6,
 oO 26 (.bin .lss 2 (.t 25) (u9I 0)),
 oM 27 26,
 u9G 28 (.move (.t 6)) 27,
 u9G 29 (.faddr 0 (.t 2) 2) 27,
 u9G 30 (.load 14 (.t 29)) 27,
 u9G 31 (.move (.t 5)) 27,
 u9G 32 (.iaddr 14 (.t 30) (.t 31)) 27,
 u9G 33 (.faddr 15 (.t 32) 3) 27,
 u9G 34 (.load 16 (.t 33)) 27,
 u9G 35 (.len 16 (.t 34)) 27,
 u9G 36 (.bin .geq 2 (.t 28) (.t 35)) 27,
 oO 37 (.pick (.t 27) (u9B true) (.t 36))])
(.cond (.t 37) (.seq (rg [oO 4 (.assign (u9I 280))])
(.ret)) (.skip)))))
(rg [oO 38 (.bin .add 2 (.t 20) (u9I 1)),
 oM 20 38])))))))
(.seq (rg [oO 4 (.assign (u9I 0))])
(.ret)))))⟩

def f63:DFn := ⟨6,[.tmp 4],
 .seq (rg [oO 2 (.box 0 (.t 0)),
 oO 3 (.box 1 (.t 1)),
 oO 4 (.assign (.c .nilfn))])
(.seq (rg [oO 5 (.mkfn 102 [(.t 2),(.t 3)]),
 oA 4 5])
(.ret))⟩

def f66:DFn := ⟨38,[.tmp 4],
 .seq (rg [oO 2 (.box 0 (.t 0)),
 oO 4 (.assign (u9I 0))])
(.seq (.seq (rg [oL 8 0 2,
 oO 9 (.call 0 (.f 15) [(.t 8)]),
 oA 5 9])
(.seq (rg [oM 10 5,
 oO 11 (.bin .neq 3 (.t 10) (u9I 0))])
(.cond (.t 11) (.seq (rg [oM 12 5,
 oA 4 12])
(.ret)) (.skip))))
(.seq (.seq (rg [oM 13 1,
 oN 14 6 13,
 oF 15 0 2 2,
 oL 16 14 15,
 oN 17 14 16,
 oO 18 (.bin .gtr 2 (.t 14) (.t 17))])
(.cond (.t 18) (.seq (rg [oO 4 (.assign (u9I 270))])
(.ret)) (.skip)))
(.seq (.seq (rg [oM 19 1,
 oN 20 6 19,
 oO 21 (.move (u9I 0))])
(.block 0 (.loop (.seq (rg [oO 22 (.bin .lss 2 (.t 21) (.t 20))])
(.seq (.cond (.t 22) (.skip) (.exit 0))
(.seq (.block 1 (.seq (rg [oM 23 21,
 oI 24 6 19 21,
 oL 25 2 24,
 oA 6 23,
 oA 7 25])
(.seq (rg [oM 26 7,
 oF 27 0 2 2,
 oL 28 14 27,
 oM 29 6,
 oI 30 14 28 29,
 oF 31 15 30 3,
 oL 32 16 31,
 oN 33 16 32,
 oO 34 (.bin .sub 2 (.t 33) (u9I 1)),
 oO 35 (.call 0 (.f 67) [(.t 26),(u9I 0),(.t 34)]),
 oO 36 (.un .not (.t 35))])
(.cond (.t 36) (.seq (rg [oO 4 (.assign (u9I 270))])
(.ret)) (.skip)))))
(rg [oO 37 (.bin .add 2 (.t 21) (u9I 1)),
 oM 21 37])))))))
(.seq (rg [oO 4 (.assign (u9I 0))])
(.ret)))))⟩

def f67:DFn := ⟨15,[.tmp 6],
 .seq (rg [oO 6 (.assign (u9B false))])
(.seq (rg [oM 7 1,
 oM 8 0,
 oO 9 (.bin .leq 2 (.t 7) (.t 8)),
 oM 10 9,
⟨(some 11),.move (.t 0),(some (10,true))⟩,
⟨(some 12),.move (.t 2),(some (10,true))⟩,
⟨(some 13),.bin .leq 2 (.t 11) (.t 12),(some (10,true))⟩,
 oO 14 (.pick (.t 10) (.t 13) (u9B false)),
 oA 6 14])
(.ret))⟩

def f68:DFn := ⟨62,[.tmp 4],
 .seq (rg [oO 2 (.box 0 (.t 0)),
 oO 4 (.assign (.c (.imm .exact [])))])
(.seq (rg [oO 12 (.mkmap 26),
 oO 5 (.alloc 26),
 oE (.store 26 (.t 5) (.t 12))])
(.seq (.seq (rg [oF 13 0 2 0,
 oL 14 10 13,
 oN 15 10 14,
 oO 16 (.move (u9I 0))])
(.block 0 (.loop (.seq (rg [oO 17 (.bin .lss 2 (.t 16) (.t 15))])
(.seq (.cond (.t 17) (.skip) (.exit 0))
(.seq (.block 1 (.seq (rg [oM 18 16,
 oI 19 10 14 16,
 oL 20 20 19,
 oO 7 (.alloc 20),
 oA 6 18,
 oE (.store 20 (.t 7) (.t 20))])
(rg [oL 21 26 5,
 oL 22 20 7,
 oM 23 6,
 oE (.mapset 26 (.t 21) (.t 22) (.t 23))])))
(rg [oO 24 (.bin .add 2 (.t 16) (u9I 1)),
 oM 16 24])))))))
(.seq (rg [oF 25 0 2 1,
 oL 26 9 25,
 oN 27 9 26,
 oO 28 (.mkslice true 9 (.t 27) (.t 27)),
 oO 8 (.alloc 9),
 oE (.store 9 (.t 8) (.t 28))])
(.seq (.seq (rg [oL 29 9 8,
 oN 30 9 29,
 oO 31 (.move (u9I 0))])
(.block 2 (.loop (.seq (rg [oO 32 (.bin .lss 2 (.t 31) (.t 30))])
(.seq (.cond (.t 32) (.skip) (.exit 2))
(.seq (.block 3 (.seq (rg [oM 33 31,
 oA 9 33])
(.region true [] [
 oL 34 9 8,
 oM 35 9,
 oF 36 0 2 0,
 oL 37 10 36,
 oN 38 10 37,
 oO 39 (.mkslice true 6 (.t 38) (.t 38)),
 oI 40 9 34 35,
 oE (.store 6 (.t 40) (.t 39))])))
(rg [oO 41 (.bin .add 2 (.t 31) (u9I 1)),
 oM 31 41])))))))
(.seq (.seq (rg [oL 42 0 2,
 oM 43 1,
 oO 44 (.call 0 (.f 104) [(.t 42),(.t 43)])])
(.block 4 (.rfunc (.t 44) [45,46] (.seq (rg [oA 10 45])
(rg [oO 11 (.alloc 19),
 oE (.store 19 (.t 11) (.t 46))])) (.block 5 (.region true [] [
 oL 47 9 8,
 oM 48 10,
 oI 49 9 47 48,
 oL 50 6 49,
 oL 51 26 5,
 oF 52 19 11 0,
 oL 53 20 52,
 oO 54 (.lookup 26 (.t 51) (.t 53) false),
 oI 55 6 50 54,
 oL 56 2 55,
 oF 57 19 11 1,
 oL 58 2 57,
 oO 59 (.bin .add 2 (.t 56) (.t 58)),
 oI 60 6 50 54,
 oE (.store 2 (.t 60) (.t 59))])))))
(.seq (rg [oL 61 9 8,
 oA 4 61])
(.ret)))))))⟩

def f69:DFn := ⟨24,[.tmp 4],
 .seq (rg [oO 4 (.assign (u9B false))])
(.seq (.seq (rg [oO 5 (.assign (u9I 1))])
(.block 0 (.loop (.seq (.seq (rg [oM 6 5,
 oM 7 0,
 oN 8 10 7,
 oO 9 (.bin .lss 2 (.t 6) (.t 8))])
(.cond (.t 9) (.skip) (.exit 0)))
(.seq (.block 1 (.seq (.region true [] [
 oM 12 1,
 oM 13 0,
 oM 14 5,
 oO 15 (.bin .sub 2 (.t 14) (u9I 1)),
 oI 16 10 13 15,
 oL 17 20 16,
 oM 18 0,
 oM 19 5,
 oI 20 10 18 19,
 oL 21 20 20,
 oO 22 (.call 0 (.t 12) [(.t 17),(.t 21)]),
 oO 23 (.bin .geq 2 (.t 22) (u9I 0))])
(.cond (.t 23) (.seq (rg [oO 4 (.assign (u9B false))])
(.ret)) (.skip))))
(rg [oM 10 5,
 oO 11 (.bin .add 2 (.t 10) (u9I 1)),
 oA 5 11]))))))
(.seq (rg [oO 4 (.assign (u9B true))])
(.ret)))⟩

def f70:DFn := ⟨24,[.tmp 4],
 .seq (rg [oO 2 (.box 20 (.t 0)),
 oO 3 (.box 20 (.t 1)),
 oO 4 (.assign (u9I 0))])
(.seq (.seq (rg [oF 5 20 2 0,
 oL 6 7 5,
 oF 7 20 3 0,
 oL 8 7 7,
 oO 9 (.bin .neq 7 (.t 6) (.t 8))])
(.cond (.t 9) (.seq (.seq (rg [oF 10 20 3 0,
 oL 11 7 10])
(.cond (.t 11) (.seq (rg [oO 4 (.assign (.c (.int .i64 (-1))))])
(.ret)) (.skip)))
(.seq (rg [oO 4 (.assign (u9I 1))])
(.ret))) (.skip)))
(.seq (.region true [] [
 oF 12 20 2 1,
 oL 13 2 12,
 oF 14 20 3 1,
 oL 15 2 14,
 oO 16 (.call 0 (.f 74) [(.t 13),(.t 15)]),
 oF 17 20 2 2,
 oL 18 2 17,
 oF 19 20 3 2,
 oL 20 2 19,
 oO 21 (.call 0 (.f 74) [(.t 18),(.t 20)]),
 oO 22 (.bslice false 6 2 [(0,(.t 16)),(1,(.t 21))]),
 oO 23 (.call 0 (.f 105) [(.t 22)]),
 oA 4 23])
(.ret)))⟩

def f71:DFn := ⟨9,[.tmp 4],
 .seq (rg [oO 4 (.assign (u9B false))])
(.seq (rg [oM 5 0,
 oM 6 1,
 oO 7 (.call 0 (.f 106) [(.t 5),(.t 6)]),
 oO 8 (.bin .geq 2 (.t 7) (u9I 0)),
 oA 4 8])
(.ret))⟩

def f72:DFn := ⟨6,[.tmp 2],
 .seq (rg [oO 2 (.assign (u9B false))])
(.seq (rg [oM 3 0,
 oO 4 (.call 0 (.f 67) [(.t 3),(u9I 0),(u9I 4096)]),
 oO 5 (.un .not (.t 4)),
 oA 2 5])
(.ret))⟩

def f73:DFn := ⟨24,[.tmp 4],
 .seq (rg [oO 4 (.assign (u9B false))])
(.seq (.seq (rg [oO 5 (.assign (u9I 1))])
(.block 0 (.loop (.seq (.seq (rg [oM 6 5,
 oM 7 0,
 oN 8 6 7,
 oO 9 (.bin .lss 2 (.t 6) (.t 8))])
(.cond (.t 9) (.skip) (.exit 0)))
(.seq (.block 1 (.seq (.region true [] [
 oM 12 1,
 oM 13 0,
 oM 14 5,
 oO 15 (.bin .sub 2 (.t 14) (u9I 1)),
 oI 16 6 13 15,
 oL 17 2 16,
 oM 18 0,
 oM 19 5,
 oI 20 6 18 19,
 oL 21 2 20,
 oO 22 (.call 0 (.t 12) [(.t 17),(.t 21)]),
 oO 23 (.bin .geq 2 (.t 22) (u9I 0))])
(.cond (.t 23) (.seq (rg [oO 4 (.assign (u9B false))])
(.ret)) (.skip))))
(rg [oM 10 5,
 oO 11 (.bin .add 2 (.t 10) (u9I 1)),
 oA 5 11]))))))
(.seq (rg [oO 4 (.assign (u9B true))])
(.ret)))⟩

def f74:DFn := ⟨20,[.tmp 4],
 .seq (rg [oO 4 (.assign (u9I 0))])
(.seq (rg [oM 7 0,
 oO 8 (.call 0 (.f 107) [(.t 7)]),
 oA 5 8])
(.seq (rg [oM 9 1,
 oO 10 (.call 0 (.f 107) [(.t 9)]),
 oA 6 10])
(.seq (.seq (rg [oM 11 5])
(.cond (.t 11) (.seq (.seq (rg [oM 12 6])
(.cond (.t 12) (.seq (rg [oO 4 (.assign (u9I 0))])
(.ret)) (.skip)))
(.seq (rg [oO 4 (.assign (.c (.int .i64 (-1))))])
(.ret))) (.skip)))
(.seq (.seq (rg [oM 13 6])
(.cond (.t 13) (.seq (rg [oO 4 (.assign (u9I 1))])
(.ret)) (.skip)))
(.seq (.seq (rg [oM 14 0,
 oM 15 1,
 oO 16 (.bin .lss 2 (.t 14) (.t 15))])
(.cond (.t 16) (.seq (rg [oO 4 (.assign (.c (.int .i64 (-1))))])
(.ret)) (.skip)))
(.seq (.seq (rg [oM 17 0,
 oM 18 1,
 oO 19 (.bin .gtr 2 (.t 17) (.t 18))])
(.cond (.t 19) (.seq (rg [oO 4 (.assign (u9I 1))])
(.ret)) (.skip)))
(.seq (rg [oO 4 (.assign (u9I 0))])
(.ret))))))))⟩

def f75:DFn := ⟨24,[.tmp 4],
 .seq (rg [oO 4 (.assign (u9B false))])
(.seq (.seq (rg [oO 5 (.assign (u9I 1))])
(.block 0 (.loop (.seq (.seq (rg [oM 6 5,
 oM 7 0,
 oN 8 18 7,
 oO 9 (.bin .lss 2 (.t 6) (.t 8))])
(.cond (.t 9) (.skip) (.exit 0)))
(.seq (.block 1 (.seq (.region true [] [
 oM 12 1,
 oM 13 0,
 oM 14 5,
 oO 15 (.bin .sub 2 (.t 14) (u9I 1)),
 oI 16 18 13 15,
 oL 17 19 16,
 oM 18 0,
 oM 19 5,
 oI 20 18 18 19,
 oL 21 19 20,
 oO 22 (.call 0 (.t 12) [(.t 17),(.t 21)]),
 oO 23 (.bin .geq 2 (.t 22) (u9I 0))])
(.cond (.t 23) (.seq (rg [oO 4 (.assign (u9B false))])
(.ret)) (.skip))))
(rg [oM 10 5,
 oO 11 (.bin .add 2 (.t 10) (u9I 1)),
 oA 5 11]))))))
(.seq (rg [oO 4 (.assign (u9B true))])
(.ret)))⟩

def f76:DFn := ⟨10,[.tmp 4],
 .seq (rg [oO 2 (.box 19 (.t 0)),
 oO 3 (.box 19 (.t 1)),
 oO 4 (.assign (u9I 0))])
(.seq (rg [oF 5 19 2 0,
 oL 6 20 5,
 oF 7 19 3 0,
 oL 8 20 7,
 oO 9 (.call 0 (.f 70) [(.t 6),(.t 8)]),
 oA 4 9])
(.ret))⟩

def f83:DFn := ⟨18,[.tmp 4],
 .seq (rg [oO 2 (.box 0 (.t 0)),
 oO 4 (.assign (u9I 0))])
(.seq (.seq (rg [oL 6 0 2,
 oM 7 1,
 oO 8 (.call 0 (.f 66) [(.t 6),(.t 7)]),
 oA 5 8])
(.seq (rg [oM 9 5,
 oO 10 (.bin .neq 3 (.t 9) (u9I 0))])
(.cond (.t 10) (.seq (rg [oM 11 5,
 oA 4 11])
(.ret)) (.skip))))
(.seq (.seq (rg [oM 12 1,
 oN 13 6 12,
 oF 14 0 2 2,
 oL 15 14 14,
 oN 16 14 15,
 oO 17 (.bin .neq 2 (.t 13) (.t 16))])
(.cond (.t 17) (.seq (rg [oO 4 (.assign (u9I 270))])
(.ret)) (.skip)))
(.seq (rg [oO 4 (.assign (u9I 0))])
(.ret))))⟩

def f84:DFn := ⟨6,[.tmp 4],
 .seq (rg [oO 2 (.box 0 (.t 0)),
 oO 3 (.box 6 (.t 1)),
 oO 4 (.assign (.c .nilfn))])
(.seq (rg [oO 5 (.mkfn 110 [(.t 2),(.t 3)]),
 oA 4 5])
(.ret))⟩

def f87:DFn := ⟨36,[.tmp 4],
 .seq (rg [oO 4 (.assign (u9I 0))])
(.seq (.seq (rg [oM 9 0,
 oN 10 6 9,
 oO 11 (.move (u9I 0))])
(.block 0 (.loop (.seq (rg [oO 12 (.bin .lss 2 (.t 11) (.t 10))])
(.seq (.cond (.t 12) (.skip) (.exit 0))
(.seq (.block 1 (.seq (rg [oM 13 11,
 oI 14 6 9 11,
 oL 15 2 14,
 oA 5 13,
 oA 6 15])
(.seq (.seq (rg [oM 16 5,
 oM 17 1,
 oN 18 6 17,
 oO 19 (.bin .geq 2 (.t 16) (.t 18))])
(.cond (.t 19) (.seq (rg [oO 4 (.assign (u9I 1))])
(.ret)) (.skip)))
(.seq (rg [oM 20 1,
 oM 21 5,
 oI 22 6 20 21,
 oL 23 2 22,
 oA 7 23])
(.seq (rg [oM 24 6,
 oM 25 7,
 oO 26 (.call 0 (.f 74) [(.t 24),(.t 25)]),
 oA 8 26])
(.seq (rg [oM 27 8,
 oO 28 (.bin .neq 2 (.t 27) (u9I 0))])
(.cond (.t 28) (.seq (rg [oM 29 8,
 oA 4 29])
(.ret)) (.skip))))))))
(rg [oO 30 (.bin .add 2 (.t 11) (u9I 1)),
 oM 11 30])))))))
(.seq (.seq (rg [oM 31 0,
 oN 32 6 31,
 oM 33 1,
 oN 34 6 33,
 oO 35 (.bin .lss 2 (.t 32) (.t 34))])
(.cond (.t 35) (.seq (rg [oO 4 (.assign (.c (.int .i64 (-1))))])
(.ret)) (.skip)))
(.seq (rg [oO 4 (.assign (u9I 0))])
(.ret))))⟩

def f89:DFn := ⟨43,[.tmp 6],
 .seq (rg [oO 3 (.box 0 (.t 0)),
 oO 6 (.assign (u9I 0))])
(.seq (.seq (rg [oL 10 0 3,
 oM 11 2,
 oO 12 (.call 0 (.f 41) [(.t 10),(.t 11)]),
 oA 7 12])
(.seq (rg [oM 13 7,
 oO 14 (.bin .neq 3 (.t 13) (u9I 0))])
(.cond (.t 14) (.seq (rg [oM 15 7,
 oA 6 15])
(.ret)) (.skip))))
(.seq (.seq (rg [oM 16 1,
 oN 17 1 16,
 oF 18 0 3 2,
 oL 19 14 18,
 oN 20 14 19,
 oO 21 (.bin .gtr 2 (.t 17) (.t 20))])
(.cond (.t 21) (.seq (rg [oO 6 (.assign (u9I 290))])
(.ret)) (.skip)))
(.seq (.seq (rg [oM 22 1,
 oN 23 1 22,
 oO 24 (.move (u9I 0))])
(.block 0 (.loop (.seq (rg [oO 25 (.bin .lss 2 (.t 24) (.t 23))])
(.seq (.cond (.t 25) (.skip) (.exit 0))
(.seq (.block 1 (.seq (rg [oM 26 24,
 oI 27 1 22 24,
 oL 28 2 27,
 oA 8 26,
 oA 9 28])
(.seq (rg [oM 29 9,
 oO 30 (.bin .lss 2 (.t 29) (u9I 0)),
 oM 31 30,
 u9G 32 (.move (.t 9)) 31,
 u9G 33 (.faddr 0 (.t 3) 2) 31,
 u9G 34 (.load 14 (.t 33)) 31,
 u9G 35 (.move (.t 8)) 31,
 u9G 36 (.iaddr 14 (.t 34) (.t 35)) 31,
 u9G 37 (.faddr 15 (.t 36) 3) 31,
 u9G 38 (.load 16 (.t 37)) 31,
 u9G 39 (.len 16 (.t 38)) 31,
 u9G 40 (.bin .geq 2 (.t 32) (.t 39)) 31,
 oO 41 (.pick (.t 31) (u9B true) (.t 40))])
(.cond (.t 41) (.seq (rg [oO 6 (.assign (u9I 290))])
(.ret)) (.skip)))))
(rg [oO 42 (.bin .add 2 (.t 24) (u9I 1)),
 oM 24 42])))))))
(.seq (rg [oO 6 (.assign (u9I 0))])
(.ret)))))⟩

def f90:DFn := ⟨66,[.tmp 4,.tmp 5],
 .seq (rg [oO 2 (.box 25 (.t 0)),
 oO 4 (.assign (u9I 0)),
 oO 5 (.assign (u9B false))])
(.seq (.seq (rg [oF 14 25 2 3,
 oL 15 9 14,
 oN 16 9 15,
 oO 17 (.move (u9I 0))])
(.block 0 (.loop (.seq (rg [oO 18 (.bin .lss 2 (.t 17) (.t 16))])
(.seq (.cond (.t 18) (.skip) (.exit 0))
(.seq (.block 1 (.seq (rg [oM 19 17,
 oI 20 9 15 17,
 oL 21 6 20,
 oA 6 19,
 oA 7 21])
(.seq (rg [oM 22 7,
 oN 23 6 22,
 oO 24 (.move (u9I 0))])
(.block 2 (.loop (.seq (rg [oO 25 (.bin .lss 2 (.t 24) (.t 23))])
(.seq (.cond (.t 25) (.skip) (.exit 2))
(.seq (.block 3 (.seq (rg [oM 26 24,
 oI 27 6 22 24,
 oL 28 2 27,
 oA 8 26,
 oA 9 28])
(rg [oM 29 4,
 oM 30 9,
 oF 31 25 2 0,
 oF 32 0 31 1,
 oL 33 9 32,
 oM 34 6,
 oI 35 9 33 34,
 oL 36 6 35,
 oM 37 8,
 oI 38 6 36 37,
 oL 39 2 38,
 oO 40 (.bin .mul 2 (.t 30) (.t 39)),
 oO 41 (.bin .sub 2 (.t 29) (.t 40)),
 oA 4 41])))
(rg [oO 42 (.bin .add 2 (.t 24) (u9I 1)),
 oM 24 42])))))))))
(rg [oO 43 (.bin .add 2 (.t 17) (u9I 1)),
 oM 17 43])))))))
(.seq (.seq (rg [oF 44 25 2 0,
 oF 45 0 44 2,
 oL 46 14 45,
 oN 47 14 46,
 oO 48 (.move (u9I 0))])
(.block 4 (.loop (.seq (rg [oO 49 (.bin .lss 2 (.t 48) (.t 47))])
(.seq (.cond (.t 49) (.skip) (.exit 4))
(.seq (.block 5 (.seq (rg [oM 50 48,
 oA 10 50])
(.seq (rg [oL 52 25 2,
 oM 53 10,
 oM 54 1,
 oO 55 (.call 0 (.f 97) [(.t 52),(.t 53),(.t 54)]),
 oM 51 55,
 oO 56 (.extract (.t 51) 0),
 oO 57 (.extract (.t 51) 1),
 oO 58 (.extract (.t 51) 2),
 oO 11 (.alloc 17),
 oE (.store 17 (.t 11) (.t 56)),
 oA 12 57,
 oA 13 58])
(.seq (.seq (rg [oM 59 13,
 oO 60 (.un .not (.t 59))])
(.cond (.t 60) (.seq (rg [oO 4 (.assign (u9I 0)),
 oO 5 (.assign (u9B false))])
(.ret)) (.skip)))
(rg [oM 61 4,
 oM 62 12,
 oO 63 (.bin .add 2 (.t 61) (.t 62)),
 oA 4 63])))))
(rg [oO 64 (.bin .add 2 (.t 48) (u9I 1)),
 oM 48 64])))))))
(.seq (rg [oM 65 4,
 oA 4 65,
 oO 5 (.assign (u9B true))])
(.ret))))⟩

def f93:DFn := ⟨14,[.tmp 3],
 .seq (rg [oO 3 (.assign (u9B false))])
(.seq (rg [oM 4 0,
 oN 5 6 4,
 oF 6 0 1 0,
 oL 7 10 6,
 oN 8 10 7,
 oO 9 (.bin .neq 2 (.t 5) (.t 8)),
 oM 10 9,
 u9G 11 (.move (.t 0)) 10,
 u9G 12 (.call 0 (.f 71) [(.t 11),(.f 112)]) 10,
 oO 13 (.pick (.t 10) (u9B true) (.t 12)),
 oA 3 13])
(.ret))⟩

def f94:DFn := ⟨9,[.tmp 4],
 .seq (rg [oO 4 (.assign (u9B false))])
(.seq (rg [oM 5 0,
 oM 6 1,
 oO 7 (.call 0 (.f 113) [(.t 5),(.t 6)]),
 oO 8 (.bin .geq 2 (.t 7) (u9I 0)),
 oA 4 8])
(.ret))⟩

def f97:DFn := ⟨24,[.cell 6 17,.tmp 7,.tmp 8],
 .seq (rg [oO 3 (.box 25 (.t 0)),
 oO 5 (.box 7 (.t 2)),
 oO 6 (.alloc 17),
 oO 7 (.assign (u9I 0)),
 oO 8 (.assign (u9B false))])
(.seq (rg [oF 10 25 3 0,
 oF 11 0 10 2,
 oL 12 14 11,
 oM 13 1,
 oI 14 14 12 13,
 oL 15 15 14,
 oO 9 (.alloc 15),
 oE (.store 15 (.t 9) (.t 15))])
(.seq (rg [oL 16 25 3,
 oM 17 1,
 oO 18 (.call 0 (.f 114) [(.t 16),(.t 17)]),
 oO 19 (.mkfn 115 [(.t 5),(.t 9),(.t 3)]),
 oO 20 (.call 1 (.f 116) [(.t 18),(.t 19)]),
 oO 21 (.extract (.t 20) 0),
 oO 22 (.extract (.t 20) 1),
 oO 23 (.extract (.t 20) 2),
 oE (.store 17 (.t 6) (.t 21)),
 oA 7 22,
 oA 8 23])
(.ret)))⟩

def f98:DFn := ⟨16,[.tmp 4],
 .seq (rg [oO 2 (.box 25 (.t 0)),
 oO 3 (.box 20 (.t 1)),
 oO 4 (.assign (u9I 0))])
(.seq (rg [oF 8 25 2 0,
 oF 9 0 8 0,
 oL 10 10 9,
 oL 11 20 3,
 oO 12 (.call 0 (.f 117) [(.t 10),(.t 11),(.f 118)]),
 oM 7 12,
 oO 13 (.extract (.t 7) 0),
 oO 14 (.extract (.t 7) 1),
 oA 5 13,
 oA 6 14])
(.seq (rg [oM 15 5,
 oA 4 15])
(.ret)))⟩

def f102:DFn := ⟨43,[],
 .seq (rg [oF 7 0 1 2,
 oL 8 14 7,
 oN 9 14 8,
 oO 10 (.move (u9I 0))])
(.block 0 (.loop (.seq (rg [oO 11 (.bin .lss 2 (.t 10) (.t 9))])
(.seq (.cond (.t 11) (.skip) (.exit 0))
(.seq (.block 1 (.seq (rg [oM 12 10,
 oI 13 14 8 10,
 oL 14 15 13,
 oO 5 (.alloc 15),
 oA 4 12,
 oE (.store 15 (.t 5) (.t 14))])
(.seq (.region true [] [
 oF 15 15 5 3,
 oL 16 16 15,
 oO 17 (.iaddr 16 (.t 16) (u9I 0)),
 oL 18 17 17,
 oF 19 15 5 3,
 oL 20 16 19,
 oO 21 (.slice 16 (.t 20) (some (u9I 1)) none none),
 oO 22 (.call 0 (.f 122) [(.t 18),(.t 21)]),
 oO 6 (.alloc 17),
 oE (.store 17 (.t 6) (.t 22))])
(.seq (.seq (rg [oM 23 4,
 oL 24 1 2,
 oN 25 1 24,
 oO 26 (.bin .lss 2 (.t 23) (.t 25))])
(.cond (.t 26) (.region true [] [
 oF 27 15 5 3,
 oL 28 16 27,
 oL 29 1 2,
 oM 30 4,
 oI 31 1 29 30,
 oL 32 2 31,
 oI 33 16 28 32,
 oL 34 17 33,
 oE (.store 17 (.t 6) (.t 34))]) (.skip)))
(.seq (rg [oM 35 0,
 oF 36 15 5 2,
 oL 37 6 36,
 oN 38 6 37,
 oL 39 17 6,
 oO 40 (.call 2 (.t 35) [(.t 38),(.t 39)]),
 oO 41 (.un .not (.t 40))])
(.cond (.t 41) (.ret) (.skip)))))))
(rg [oO 42 (.bin .add 2 (.t 10) (u9I 1)),
 oM 10 42]))))))⟩

def f104:DFn := ⟨6,[.tmp 4],
 .seq (rg [oO 2 (.box 0 (.t 0)),
 oO 3 (.box 6 (.t 1)),
 oO 4 (.assign (.c .nilfn))])
(.seq (rg [oO 5 (.mkfn 123 [(.t 3),(.t 2)]),
 oA 4 5])
(.ret))⟩

def f105:DFn := ⟨18,[.tmp 2],
 .seq (rg [oO 2 (.assign (u9I 0))])
(.seq (rg [oO 3 (.assign (u9I 0))])
(.seq (.seq (rg [oM 6 0,
 oN 7 6 6,
 oO 8 (.move (u9I 0))])
(.block 0 (.loop (.seq (rg [oO 9 (.bin .lss 2 (.t 8) (.t 7))])
(.seq (.cond (.t 9) (.skip) (.exit 0))
(.seq (.block 1 (.seq (rg [oI 10 6 6 8,
 oL 11 2 10,
 oA 5 11])
(.seq (rg [oM 12 5,
 oM 13 3,
 oO 14 (.bin .neq 2 (.t 12) (.t 13))])
(.cond (.t 14) (.seq (rg [oM 15 5,
 oA 2 15])
(.ret)) (.skip)))))
(rg [oO 16 (.bin .add 2 (.t 8) (u9I 1)),
 oM 8 16])))))))
(.seq (rg [oM 17 3,
 oA 2 17])
(.ret))))⟩

def f106:DFn := ⟨19,[.tmp 4],
 .seq (rg [oO 4 (.assign (u9I 0))])
(.seq (.seq (rg [oM 6 0,
 oN 7 6 6,
 oO 8 (.move (u9I 0))])
(.block 0 (.loop (.seq (rg [oO 9 (.bin .lss 2 (.t 8) (.t 7))])
(.seq (.cond (.t 9) (.skip) (.exit 0))
(.seq (.block 1 (.seq (rg [oM 10 8,
 oA 5 10])
(.seq (rg [oM 11 1,
 oM 12 0,
 oM 13 5,
 oI 14 6 12 13,
 oL 15 2 14,
 oO 16 (.call 0 (.t 11) [(.t 15)])])
(.cond (.t 16) (.seq (rg [oM 17 5,
 oA 4 17])
(.ret)) (.skip)))))
(rg [oO 18 (.bin .add 2 (.t 8) (u9I 1)),
 oM 8 18])))))))
(.seq (rg [oO 4 (.assign (.c (.int .i64 (-1))))])
(.ret)))⟩

def f107:DFn := ⟨6,[.tmp 2],
 .seq (rg [oO 2 (.assign (u9B false))])
(.seq (rg [oM 3 0,
 oM 4 0,
 oO 5 (.bin .neq 2 (.t 3) (.t 4)),
 oA 2 5])
(.ret))⟩

def f110:DFn := ⟨48,[],
 .seq (rg [oL 9 0 1,
 oL 10 6 2,
 oO 11 (.call 0 (.f 68) [(.t 9),(.t 10)]),
 oN 12 9 11,
 oO 13 (.move (u9I 0))])
(.block 0 (.loop (.seq (rg [oO 14 (.bin .lss 2 (.t 13) (.t 12))])
(.seq (.cond (.t 14) (.skip) (.exit 0))
(.seq (.block 1 (.seq (rg [oM 15 13,
 oI 16 9 11 13,
 oL 17 6 16,
 oA 4 15,
 oA 5 17])
(.seq (rg [oM 18 5,
 oN 19 6 18,
 oO 20 (.move (u9I 0))])
(.block 2 (.loop (.seq (rg [oO 21 (.bin .lss 2 (.t 20) (.t 19))])
(.seq (.cond (.t 21) (.skip) (.exit 2))
(.seq (.block 3 (.seq (rg [oM 22 20,
 oI 23 6 18 20,
 oL 24 2 23,
 oA 6 22,
 oA 7 24])
(.seq (rg [oM 25 7,
 oF 26 0 1 1,
 oL 27 9 26,
 oM 28 4,
 oI 29 9 27 28,
 oL 30 6 29,
 oM 31 6,
 oI 32 6 30 31,
 oL 33 2 32,
 oO 34 (.bin .sub 2 (.t 25) (.t 33)),
 oA 8 34])
(.seq (rg [oM 35 8,
 oO 36 (.bin .gtr 2 (.t 35) (u9I 0)),
 oM 37 36,
⟨(some 38),.move (.t 0),(some (37,true))⟩,
⟨(some 39),.move (.t 4),(some (37,true))⟩,
⟨(some 40),.move (.t 6),(some (37,true))⟩,
⟨(some 41),.build 11 [(0,(.t 39)),(1,(.t 40))],(some (37,true))⟩,
⟨(some 42),.move (.t 8),(some (37,true))⟩,
⟨(some 43),.call 2 (.t 38) [(.t 41),(.t 42)],(some (37,true))⟩,
⟨(some 44),.un .not (.t 43),(some (37,true))⟩,
 oO 45 (.pick (.t 37) (.t 44) (u9B false))])
(.cond (.t 45) (.ret) (.skip))))))
(rg [oO 46 (.bin .add 2 (.t 20) (u9I 1)),
 oM 20 46])))))))))
(rg [oO 47 (.bin .add 2 (.t 13) (u9I 1)),
 oM 13 47]))))))⟩

def f112:DFn := ⟨9,[.tmp 2],
 .seq (rg [oO 2 (.assign (u9B false))])
(.seq (rg [oM 3 0,
 oO 4 (.bin .lss 2 (.t 3) (u9I 0)),
 oM 5 4,
 u9G 6 (.move (.t 0)) 5,
 u9G 7 (.bin .gtr 2 (.t 6) (u9I 65536)) 5,
 oO 8 (.pick (.t 5) (u9B true) (.t 7)),
 oA 2 8])
(.ret))⟩

def f113:DFn := ⟨19,[.tmp 4],
 .seq (rg [oO 4 (.assign (u9I 0))])
(.seq (.seq (rg [oM 6 0,
 oN 7 9 6,
 oO 8 (.move (u9I 0))])
(.block 0 (.loop (.seq (rg [oO 9 (.bin .lss 2 (.t 8) (.t 7))])
(.seq (.cond (.t 9) (.skip) (.exit 0))
(.seq (.block 1 (.seq (rg [oM 10 8,
 oA 5 10])
(.seq (rg [oM 11 1,
 oM 12 0,
 oM 13 5,
 oI 14 9 12 13,
 oL 15 6 14,
 oO 16 (.call 0 (.t 11) [(.t 15)])])
(.cond (.t 16) (.seq (rg [oM 17 5,
 oA 4 17])
(.ret)) (.skip)))))
(rg [oO 18 (.bin .add 2 (.t 8) (u9I 1)),
 oM 8 18])))))))
(.seq (rg [oO 4 (.assign (.c (.int .i64 (-1))))])
(.ret)))⟩

def f114:DFn := ⟨6,[.tmp 4],
 .seq (rg [oO 2 (.box 25 (.t 0)),
 oO 3 (.box 2 (.t 1)),
 oO 4 (.assign (.c .nilfn))])
(.seq (rg [oO 5 (.mkfn 124 [(.t 2),(.t 3)]),
 oA 4 5])
(.ret))⟩

def f115:DFn := ⟨52,[.tmp 5],
 .seq (rg [oO 4 (.box 17 (.t 0)),
 oO 5 (.assign (u9I 0))])
(.seq (.seq (rg [oL 11 7 1])
(.cond (.t 11) (rg [oF 12 17 4 1,
 oL 13 2 12,
 oF 14 15 2 2,
 oL 15 6 14,
 oN 16 6 15,
 oO 17 (.bin .mul 2 (.t 13) (.t 16)),
 oA 5 17]) (.skip)))
(.seq (.seq (rg [oF 18 17 4 3,
 oL 19 18 18,
 oN 20 18 19,
 oO 21 (.move (u9I 0))])
(.block 0 (.loop (.seq (rg [oO 22 (.bin .lss 2 (.t 21) (.t 20))])
(.seq (.cond (.t 22) (.skip) (.exit 0))
(.seq (.block 1 (.seq (rg [oI 23 18 19 21,
 oL 24 19 23,
 oO 7 (.alloc 19),
 oE (.store 19 (.t 7) (.t 24))])
(.seq (rg [oL 25 25 3,
 oF 26 19 7 0,
 oL 27 20 26,
 oO 28 (.call 0 (.f 98) [(.t 25),(.t 27)]),
 oA 8 28])
(.seq (rg [oF 29 15 2 2,
 oL 30 6 29,
 oN 31 6 30,
 oO 32 (.move (u9I 0))])
(.block 2 (.loop (.seq (rg [oO 33 (.bin .lss 2 (.t 32) (.t 31))])
(.seq (.cond (.t 33) (.skip) (.exit 2))
(.seq (.block 3 (.seq (rg [oI 34 6 30 32,
 oL 35 2 34,
 oA 10 35])
(.region true [] [
 oM 36 5,
 oF 37 25 3 3,
 oL 38 9 37,
 oM 39 10,
 oI 40 9 38 39,
 oL 41 6 40,
 oM 42 8,
 oI 43 6 41 42,
 oL 44 2 43,
 oF 45 19 7 1,
 oL 46 2 45,
 oO 47 (.bin .mul 2 (.t 44) (.t 46)),
 oO 48 (.bin .add 2 (.t 36) (.t 47)),
 oA 5 48])))
(rg [oO 49 (.bin .add 2 (.t 32) (u9I 1)),
 oM 32 49]))))))))))
(rg [oO 50 (.bin .add 2 (.t 21) (u9I 1)),
 oM 21 50])))))))
(.seq (rg [oM 51 5,
 oA 5 51])
(.ret))))⟩

def f116:DFn := ⟨26,[.cell 4 17,.cell 5 2,.cell 6 7],
 .seq (rg [oO 3 (.box 27 (.t 1)),
 oO 4 (.alloc 17),
 oO 5 (.alloc 2),
 oO 6 (.alloc 7)])
(.seq (.seq (rg [oM 9 0])
(.block 0 (.rfunc (.t 9) [10] (rg [oO 7 (.alloc 17),
 oE (.store 17 (.t 7) (.t 10))]) (.block 1 (.seq (rg [oL 11 27 3,
 oL 12 17 7,
 oO 13 (.call 0 (.t 11) [(.t 12)]),
 oA 8 13])
(.seq (rg [oL 14 7 6,
 oO 15 (.un .not (.t 14)),
 oM 16 15,
 u9G 17 (.move (.t 8)) 16,
 u9G 18 (.load 2 (.t 5)) 16,
 u9G 19 (.bin .lss 2 (.t 17) (.t 18)) 16,
 oO 20 (.pick (.t 16) (u9B true) (.t 19))])
(.cond (.t 20) (rg [oL 21 17 7,
 oM 22 8,
 oE (.store 17 (.t 4) (.t 21)),
 oE (.store 2 (.t 5) (.t 22)),
 oE (.store 7 (.t 6) (u9B true))]) (.skip))))))))
(.seq (.region true [(1,3),(2,3),(2,4)] [
 oL 23 17 4,
 oL 24 2 5,
 oL 25 7 6,
 oE (.store 17 (.t 4) (.t 23)),
 oE (.store 2 (.t 5) (.t 24)),
 oE (.store 7 (.t 6) (.t 25))])
(.ret)))⟩

def f117:DFn := ⟨49,[.tmp 6,.tmp 7],
 .seq (rg [oO 4 (.box 20 (.t 1)),
 oO 6 (.assign (u9I 0)),
 oO 7 (.assign (u9B false))])
(.seq (rg [oM 12 0,
 oN 13 10 12,
 oA 8 13])
(.seq (rg [oM 14 8,
 oO 9 (.assign (u9I 0)),
 oA 10 14])
(.seq (.block 0 (.loop (.seq (.seq (rg [oM 15 9,
 oM 16 10,
 oO 17 (.bin .lss 2 (.t 15) (.t 16))])
(.cond (.t 17) (.skip) (.exit 0)))
(.block 1 (.seq (rg [oM 18 9,
 oM 19 10,
 oO 20 (.bin .add 2 (.t 18) (.t 19)),
 oO 21 (.conv 2 12 (.t 20)),
 oO 22 (.bin .shr 12 (.t 21) (.c (.int .u64 1))),
 oO 23 (.conv 12 2 (.t 22)),
 oA 11 23])
(.seq (.region true [] [
 oM 24 2,
 oM 25 0,
 oM 26 11,
 oI 27 10 25 26,
 oL 28 20 27,
 oL 29 20 4,
 oO 30 (.call 0 (.t 24) [(.t 28),(.t 29)]),
 oO 31 (.bin .lss 2 (.t 30) (u9I 0))])
(.cond (.t 31) (rg [oM 32 11,
 oO 33 (.bin .add 2 (.t 32) (u9I 1)),
 oA 9 33]) (rg [oM 34 11,
 oA 10 34]))))))))
(.seq (.region true [] [
 oM 35 9,
 oM 36 9,
 oM 37 8,
 oO 38 (.bin .lss 2 (.t 36) (.t 37)),
 oM 39 38,
⟨(some 40),.move (.t 2),(some (39,true))⟩,
⟨(some 41),.move (.t 0),(some (39,true))⟩,
⟨(some 42),.move (.t 9),(some (39,true))⟩,
⟨(some 43),.iaddr 10 (.t 41) (.t 42),(some (39,true))⟩,
⟨(some 44),.load 20 (.t 43),(some (39,true))⟩,
⟨(some 45),.load 20 (.t 4),(some (39,true))⟩,
⟨(some 46),.call 0 (.t 40) [(.t 44),(.t 45)],(some (39,true))⟩,
⟨(some 47),.bin .eql 2 (.t 46) (u9I 0),(some (39,true))⟩,
 oO 48 (.pick (.t 39) (.t 47) (u9B false)),
 oA 6 35,
 oA 7 48])
(.ret)))))⟩

def f118:DFn := ⟨25,[.tmp 4],
 .seq (rg [oO 2 (.box 20 (.t 0)),
 oO 3 (.box 20 (.t 1)),
 oO 4 (.assign (u9I 0))])
(.seq (rg [oO 5 (.assign (.f 125))])
(.seq (.region true [] [
 oM 6 5,
 oL 7 20 2,
 oO 8 (.call 0 (.t 6) [(.t 7)]),
 oM 9 5,
 oL 10 20 3,
 oO 11 (.call 0 (.t 9) [(.t 10)]),
 oO 12 (.call 0 (.f 74) [(.t 8),(.t 11)]),
 oF 13 20 2 1,
 oL 14 2 13,
 oF 15 20 3 1,
 oL 16 2 15,
 oO 17 (.call 0 (.f 74) [(.t 14),(.t 16)]),
 oF 18 20 2 2,
 oL 19 2 18,
 oF 20 20 3 2,
 oL 21 2 20,
 oO 22 (.call 0 (.f 74) [(.t 19),(.t 21)]),
 oO 23 (.bslice false 6 3 [(0,(.t 12)),(1,(.t 17)),(2,(.t 22))]),
 oO 24 (.call 0 (.f 105) [(.t 23)]),
 oA 4 24])
(.ret)))⟩

def f122:DFn := ⟨33,[.cell 4 17],
 .seq (rg [oO 2 (.box 17 (.t 0)),
 oO 4 (.alloc 17)])
(.seq (.seq (rg [oM 7 1,
 oN 8 16 7,
 oO 9 (.move (u9I 0))])
(.block 0 (.loop (.seq (rg [oO 10 (.bin .lss 2 (.t 9) (.t 8))])
(.seq (.cond (.t 10) (.skip) (.exit 0))
(.seq (.block 1 (.seq (rg [oI 11 16 7 9,
 oL 12 17 11,
 oO 6 (.alloc 17),
 oE (.store 17 (.t 6) (.t 12))])
(.seq (rg [oF 13 17 2 0,
 oL 14 2 13,
 oF 15 17 6 0,
 oL 16 2 15,
 oO 17 (.mini [(.t 14),(.t 16)]),
 oF 18 17 2 0,
 oE (.store 2 (.t 18) (.t 17))])
(.seq (rg [oF 19 17 2 1,
 oL 20 2 19,
 oF 21 17 6 1,
 oL 22 2 21,
 oO 23 (.mini [(.t 20),(.t 22)]),
 oF 24 17 2 1,
 oE (.store 2 (.t 24) (.t 23))])
(rg [oF 25 17 2 2,
 oL 26 2 25,
 oF 27 17 6 2,
 oL 28 2 27,
 oO 29 (.mini [(.t 26),(.t 28)]),
 oF 30 17 2 2,
 oE (.store 2 (.t 30) (.t 29))])))))
(rg [oO 31 (.bin .add 2 (.t 9) (u9I 1)),
 oM 9 31])))))))
(.seq (rg [oL 32 17 2,
 oE (.store 17 (.t 4) (.t 32))])
(.ret)))⟩

def f123:DFn := ⟨51,[],
 .seq (rg [oL 10 6 1,
 oN 11 6 10,
 oO 12 (.move (u9I 0))])
(.block 0 (.loop (.seq (rg [oO 13 (.bin .lss 2 (.t 12) (.t 11))])
(.seq (.cond (.t 13) (.skip) (.exit 0))
(.seq (.block 1 (.seq (rg [oM 14 12,
 oI 15 6 10 12,
 oL 16 2 15,
 oA 4 14,
 oA 5 16])
(.seq (rg [oF 17 0 2 2,
 oL 18 14 17,
 oM 19 4,
 oI 20 14 18 19,
 oF 21 15 20 2,
 oL 22 6 21,
 oN 23 6 22,
 oO 24 (.move (u9I 0))])
(.block 2 (.loop (.seq (rg [oO 25 (.bin .lss 2 (.t 24) (.t 23))])
(.seq (.cond (.t 25) (.skip) (.exit 2))
(.seq (.block 3 (.seq (rg [oI 26 6 22 24,
 oL 27 2 26,
 oA 7 27])
(.seq (rg [oF 28 0 2 2,
 oL 29 14 28,
 oM 30 4,
 oI 31 14 29 30,
 oF 32 15 31 3,
 oL 33 16 32,
 oM 34 5,
 oI 35 16 33 34,
 oF 36 17 35 3,
 oL 37 18 36,
 oN 38 18 37,
 oO 39 (.move (u9I 0))])
(.block 4 (.loop (.seq (rg [oO 40 (.bin .lss 2 (.t 39) (.t 38))])
(.seq (.cond (.t 40) (.skip) (.exit 4))
(.seq (.block 5 (.seq (rg [oI 41 18 37 39,
 oL 42 19 41,
 oO 9 (.alloc 19),
 oE (.store 19 (.t 9) (.t 42))])
(.seq (rg [oM 43 0,
 oM 44 7,
 oL 45 19 9,
 oO 46 (.call 2 (.t 43) [(.t 44),(.t 45)]),
 oO 47 (.un .not (.t 46))])
(.cond (.t 47) (.ret) (.skip)))))
(rg [oO 48 (.bin .add 2 (.t 39) (u9I 1)),
 oM 39 48])))))))))
(rg [oO 49 (.bin .add 2 (.t 24) (u9I 1)),
 oM 24 49])))))))))
(rg [oO 50 (.bin .add 2 (.t 12) (u9I 1)),
 oM 12 50]))))))⟩

def f124:DFn := ⟨47,[],
 .seq (rg [oF 6 25 1 0,
 oF 7 0 6 2,
 oL 8 14 7,
 oL 9 2 2,
 oI 10 14 8 9,
 oF 11 15 10 3,
 oL 12 16 11,
 oN 13 16 12,
 oO 14 (.move (u9I 0))])
(.block 0 (.loop (.seq (rg [oO 15 (.bin .lss 2 (.t 14) (.t 13))])
(.seq (.cond (.t 15) (.skip) (.exit 0))
(.seq (.block 1 (.seq (rg [oM 16 14,
 oI 17 16 12 14,
 oL 18 17 17,
 oO 5 (.alloc 17),
 oA 4 16,
 oE (.store 17 (.t 5) (.t 18))])
(.seq (rg [oF 19 17 5 0,
 oL 20 2 19,
 oF 21 25 1 2,
 oL 22 2 21,
 oO 23 (.bin .leq 2 (.t 20) (.t 22)),
 oM 24 23,
⟨(some 25),.load 2 (.t 2),(some (24,true))⟩,
⟨(some 26),.faddr 25 (.t 1) 1,(some (24,true))⟩,
⟨(some 27),.load 1 (.t 26),(some (24,true))⟩,
⟨(some 28),.len 1 (.t 27),(some (24,true))⟩,
⟨(some 29),.bin .geq 2 (.t 25) (.t 28),(some (24,true))⟩,
⟨(some 30),.move (.t 29),(some (24,true))⟩,
 u9G 31 (.faddr 25 (.t 1) 1) 30,
 u9G 32 (.load 1 (.t 31)) 30,
 u9G 33 (.load 2 (.t 2)) 30,
 u9G 34 (.iaddr 1 (.t 32) (.t 33)) 30,
 u9G 35 (.load 2 (.t 34)) 30,
 u9G 36 (.move (.t 4)) 30,
 u9G 37 (.bin .eql 2 (.t 35) (.t 36)) 30,
⟨(some 38),.pick (.t 30) (u9B true) (.t 37),(some (24,true))⟩,
 oO 39 (.pick (.t 24) (.t 38) (u9B false)),
 oM 40 39,
⟨(some 41),.move (.t 0),(some (40,true))⟩,
⟨(some 42),.load 17 (.t 5),(some (40,true))⟩,
⟨(some 43),.call 2 (.t 41) [(.t 42)],(some (40,true))⟩,
⟨(some 44),.un .not (.t 43),(some (40,true))⟩,
 oO 45 (.pick (.t 40) (.t 44) (u9B false))])
(.cond (.t 45) (.ret) (.skip)))))
(rg [oO 46 (.bin .add 2 (.t 14) (u9I 1)),
 oM 14 46]))))))⟩

def f125:DFn := ⟨5,[.tmp 2],
 .seq (rg [oO 1 (.box 20 (.t 0)),
 oO 2 (.assign (u9I 0))])
(.seq (.seq (rg [oF 3 20 1 0,
 oL 4 7 3])
(.cond (.t 4) (.seq (rg [oO 2 (.assign (u9I 1))])
(.ret)) (.skip)))
(.seq (rg [oO 2 (.assign (u9I 0))])
(.ret)))⟩

def f159:DFn := ⟨9,[.tmp 4],
 .seq (rg [oO 4 (.assign (u9B false))])
(.seq (rg [oM 5 0,
 oM 6 1,
 oO 7 (.call 0 (.f 173) [(.t 5),(.t 6)]),
 oO 8 (.bin .geq 2 (.t 7) (u9I 0)),
 oA 4 8])
(.ret))⟩

def f162:DFn := ⟨26,[.tmp 4],
 .seq (rg [oO 4 (.assign (u9B false))])
(.seq (.seq (rg [oM 6 0,
 oN 7 6 6,
 oM 8 1,
 oN 9 6 8,
 oO 10 (.bin .neq 2 (.t 7) (.t 9))])
(.cond (.t 10) (.seq (rg [oO 4 (.assign (u9B false))])
(.ret)) (.skip)))
(.seq (.seq (rg [oM 11 0,
 oN 12 6 11,
 oO 13 (.move (u9I 0))])
(.block 0 (.loop (.seq (rg [oO 14 (.bin .lss 2 (.t 13) (.t 12))])
(.seq (.cond (.t 14) (.skip) (.exit 0))
(.seq (.block 1 (.seq (rg [oM 15 13,
 oA 5 15])
(.seq (.region true [] [
 oM 16 0,
 oM 17 5,
 oI 18 6 16 17,
 oL 19 2 18,
 oM 20 1,
 oM 21 5,
 oI 22 6 20 21,
 oL 23 2 22,
 oO 24 (.bin .neq 2 (.t 19) (.t 23))])
(.cond (.t 24) (.seq (rg [oO 4 (.assign (u9B false))])
(.ret)) (.skip)))))
(rg [oO 25 (.bin .add 2 (.t 13) (u9I 1)),
 oM 13 25])))))))
(.seq (rg [oO 4 (.assign (u9B true))])
(.ret))))⟩

def f173:DFn := ⟨19,[.tmp 4],
 .seq (rg [oO 4 (.assign (u9I 0))])
(.seq (.seq (rg [oM 6 0,
 oN 7 4 6,
 oO 8 (.move (u9I 0))])
(.block 0 (.loop (.seq (rg [oO 9 (.bin .lss 2 (.t 8) (.t 7))])
(.seq (.cond (.t 9) (.skip) (.exit 0))
(.seq (.block 1 (.seq (rg [oM 10 8,
 oA 5 10])
(.seq (rg [oM 11 1,
 oM 12 0,
 oM 13 5,
 oI 14 4 12 13,
 oL 15 1 14,
 oO 16 (.call 0 (.t 11) [(.t 15)])])
(.cond (.t 16) (.seq (rg [oM 17 5,
 oA 4 17])
(.ret)) (.skip)))))
(rg [oO 18 (.bin .add 2 (.t 8) (u9I 1)),
 oM 8 18])))))))
(.seq (rg [oO 4 (.assign (.c (.int .i64 (-1))))])
(.ret)))⟩

def f213:DFn := ⟨34,[.tmp 2],
 .seq (rg [oO 1 (.box 29 (.t 0)),
 oO 2 (.assign (u9B false))])
(.seq (.seq (rg [oO 3 (.assign (u9I 0))])
(.block 0 (.loop (.seq (.seq (rg [oM 4 3,
 oF 5 29 1 2,
 oL 6 31 5,
 oN 7 31 6,
 oO 8 (.bin .lss 2 (.t 4) (.t 7))])
(.cond (.t 8) (.skip) (.exit 0)))
(.seq (.block 1 (.seq (rg [oF 11 29 1 2,
 oL 12 31 11,
 oM 13 3,
 oI 14 31 12 13,
 oL 15 32 14,
 oO 16 (.call 0 (.f 223) [(.t 15)]),
 oO 17 (.un .not (.t 16))])
(.cond (.t 17) (.seq (rg [oO 2 (.assign (u9B false))])
(.ret)) (.skip))))
(rg [oM 9 3,
 oO 10 (.bin .add 2 (.t 9) (u9I 1)),
 oA 3 10]))))))
(.seq (rg [oF 18 29 1 0,
 oL 19 6 18,
 oN 20 6 19,
 oO 21 (.bin .leq 2 (.t 20) (u9I 20)),
 oM 22 21,
⟨(some 23),.faddr 29 (.t 1) 1,(some (22,true))⟩,
⟨(some 24),.load 6 (.t 23),(some (22,true))⟩,
⟨(some 25),.len 6 (.t 24),(some (22,true))⟩,
⟨(some 26),.bin .leq 2 (.t 25) (u9I 20),(some (22,true))⟩,
 oO 27 (.pick (.t 22) (.t 26) (u9B false)),
 oM 28 27,
⟨(some 29),.faddr 29 (.t 1) 2,(some (28,true))⟩,
⟨(some 30),.load 31 (.t 29),(some (28,true))⟩,
⟨(some 31),.len 31 (.t 30),(some (28,true))⟩,
⟨(some 32),.bin .leq 2 (.t 31) (u9I 400),(some (28,true))⟩,
 oO 33 (.pick (.t 28) (.t 32) (u9B false)),
 oA 2 33])
(.ret)))⟩

def f216:DFn := ⟨64,[.cell 4 3],
 .seq (rg [oO 2 (.box 0 (.t 0)),
 oO 3 (.box 29 (.t 1)),
 oO 4 (.alloc 3)])
(.seq (rg [oO 12 (.mkfn 227 [(.t 4)])])
(.seq (rg [oL 14 0 2,
 oF 15 29 3 0,
 oL 16 6 15,
 oO 17 (.call 0 (.f 22) [(.t 14),(.t 16)]),
 oM 13 17,
 oO 18 (.extract (.t 13) 0),
 oO 19 (.extract (.t 13) 1),
 oA 5 18,
 oE (.store 3 (.t 4) (.t 19))])
(.seq (.seq (rg [oL 20 3 4,
 oO 21 (.call 5 (.f 228) [(.t 20)])])
(.ifp (.t 21) (.seq (rg [ oO 21 (.extract (.t 21) 1),
 oO 21 (.field 44 (.t 21) 0),
 oE (.store 3 (.t 4) (.t 21))]) .ret) (rg [     ])))
(.seq (.seq (rg [oM 22 5,
 oF 23 29 3 1,
 oL 24 6 23,
 oO 25 (.call 0 (.f 162) [(.t 22),(.t 24)]),
 oO 26 (.call 5 (.f 229) [(.t 25),(u9I 310)])])
(.ifp (.t 26) (.seq (rg [ oO 26 (.extract (.t 26) 1),
 oO 26 (.field 44 (.t 26) 0),
 oE (.store 3 (.t 4) (.t 26))]) .ret) (rg [     ])))
(.seq (rg [oO 6 (.assign (.c (.imm .exact [])))])
(.seq (.seq (rg [oF 27 29 3 2,
 oL 28 31 27,
 oN 29 31 28,
 oO 30 (.move (u9I 0))])
(.block 0 (.loop (.seq (rg [oO 31 (.bin .lss 2 (.t 30) (.t 29))])
(.seq (.cond (.t 31) (.skip) (.exit 0))
(.seq (.block 1 (.seq (rg [oI 32 31 28 30,
 oL 33 32 32,
 oO 8 (.alloc 32),
 oE (.store 32 (.t 8) (.t 33))])
(rg [oM 34 6,
 oF 35 32 8 0,
 oL 36 1 35,
 oO 37 (.bslice false 4 1 [(0,(.t 36))]),
 oO 38 (.append 0 4 4 (.t 34) (.t 37)),
 oA 6 38])))
(rg [oO 39 (.bin .add 2 (.t 30) (u9I 1)),
 oM 30 39])))))))
(.seq (rg [oL 41 0 2,
 oM 42 6,
 oO 43 (.call 0 (.f 230) [(.t 41),(.t 42)]),
 oM 40 43,
 oO 44 (.extract (.t 40) 0),
 oO 45 (.extract (.t 40) 1),
 oA 9 44,
 oE (.store 3 (.t 4) (.t 45))])
(.seq (.seq (rg [oL 46 3 4,
 oO 47 (.call 5 (.f 228) [(.t 46)])])
(.ifp (.t 47) (.seq (rg [ oO 47 (.extract (.t 47) 1),
 oO 47 (.field 44 (.t 47) 0),
 oE (.store 3 (.t 4) (.t 47))]) .ret) (rg [     ])))
(.seq (.seq (rg [oM 48 9,
 oO 49 (.call 5 (.f 229) [(.t 48),(u9I 310)])])
(.ifp (.t 49) (.seq (rg [ oO 49 (.extract (.t 49) 1),
 oO 49 (.field 44 (.t 49) 0),
 oE (.store 3 (.t 4) (.t 49))]) .ret) (rg [     ])))
(.seq (.seq (rg [oF 50 29 3 2,
 oL 51 31 50,
 oN 52 31 51,
 oO 53 (.move (u9I 0))])
(.block 2 (.loop (.seq (rg [oO 54 (.bin .lss 2 (.t 53) (.t 52))])
(.seq (.cond (.t 54) (.skip) (.exit 2))
(.seq (.block 3 (.seq (rg [oI 55 31 51 53,
 oL 56 32 55,
 oO 11 (.alloc 32),
 oE (.store 32 (.t 11) (.t 56))])
(.seq (rg [oL 57 0 2,
 oF 58 29 3 0,
 oL 59 6 58,
 oL 60 32 11,
 oO 61 (.call 0 (.f 231) [(.t 57),(.t 59),(.t 60)]),
 oO 62 (.call 5 (.f 228) [(.t 61)])])
(.ifp (.t 62) (.seq (rg [ oO 62 (.extract (.t 62) 1),
 oO 62 (.field 44 (.t 62) 0),
 oE (.store 3 (.t 4) (.t 62))]) .ret) (rg [     ])))))
(rg [oO 63 (.bin .add 2 (.t 53) (u9I 1)),
 oM 53 63])))))))
(.seq (rg [oE (.store 3 (.t 4) (u9I 0))])
(.ret))))))))))))⟩

def f223:DFn := ⟨28,[.tmp 2],
 .seq (rg [oO 1 (.box 32 (.t 0)),
 oO 2 (.assign (u9B false))])
(.seq (.seq (rg [oO 3 (.assign (u9I 0))])
(.block 0 (.loop (.seq (.seq (rg [oM 4 3,
 oF 5 32 1 2,
 oL 6 9 5,
 oN 7 9 6,
 oO 8 (.bin .lss 2 (.t 4) (.t 7))])
(.cond (.t 8) (.skip) (.exit 0)))
(.seq (.block 1 (.seq (rg [oF 11 32 1 2,
 oL 12 9 11,
 oM 13 3,
 oI 14 9 12 13,
 oL 15 6 14,
 oN 16 6 15,
 oO 17 (.bin .gtr 2 (.t 16) (u9I 20))])
(.cond (.t 17) (.seq (rg [oO 2 (.assign (u9B false))])
(.ret)) (.skip))))
(rg [oM 9 3,
 oO 10 (.bin .add 2 (.t 9) (u9I 1)),
 oA 3 10]))))))
(.seq (rg [oF 18 32 1 0,
 oL 19 1 18,
 oN 20 1 19,
 oO 21 (.bin .leq 2 (.t 20) (u9I 20)),
 oM 22 21,
⟨(some 23),.faddr 32 (.t 1) 2,(some (22,true))⟩,
⟨(some 24),.load 9 (.t 23),(some (22,true))⟩,
⟨(some 25),.len 9 (.t 24),(some (22,true))⟩,
⟨(some 26),.bin .leq 2 (.t 25) (u9I 8),(some (22,true))⟩,
 oO 27 (.pick (.t 22) (.t 26) (u9B false)),
 oA 2 27])
(.ret)))⟩

def f228:DFn := ⟨6,[],
 .seq (rg [oM 2 0,
 oO 3 (.bin .eql 3 (.t 2) (u9I 0)),
 oM 4 0,
 oO 5 (.call 5 (.f 229) [(.t 3),(.t 4)])])
(.ifp (.t 5) (.exit 1000005) (rg [     ]))⟩

def f229:DFn := ⟨9,[],
 .seq (rg [oM 4 0,
 oO 5 (.un .not (.t 4))])
(.cond (.t 5) (.seq (rg [oM 6 1,
 oO 7 (.build 44 [(0,(.t 6))]),
 oO 8 (.mark true (.t 7))])
(.exit 1000008)) (.skip))⟩

def f230:DFn := ⟨19,[.tmp 4,.tmp 5],
 .seq (rg [oO 2 (.box 0 (.t 0)),
 oO 4 (.assign (u9B false)),
 oO 5 (.assign (u9I 0))])
(.seq (.seq (rg [oL 7 0 2,
 oO 8 (.call 0 (.f 15) [(.t 7)]),
 oA 5 8])
(.seq (rg [oM 9 5,
 oO 10 (.bin .neq 3 (.t 9) (u9I 0))])
(.cond (.t 10) (.seq (rg [oM 11 5,
 oO 4 (.assign (u9B false)),
 oA 5 11])
(.ret)) (.skip))))
(.seq (.seq (rg [oM 12 1,
 oO 13 (.mkfn 237 [(.t 2)]),
 oO 14 (.call 3 (.f 159) [(.t 12),(.t 13)])])
(.cond (.t 14) (.seq (rg [oO 4 (.assign (u9B false)),
 oO 5 (.assign (u9I 310))])
(.ret)) (.skip)))
(.seq (rg [oO 6 (.alloc 47)])
(.seq (rg [oO 15 (.mkfn 238 [(.t 2),(.t 6)]),
 oE (.store 47 (.t 6) (.t 15))])
(.seq (rg [oL 16 47 6,
 oM 17 1,
 oO 18 (.call 2 (.t 16) [(.t 17),(u9I 0)]),
 oA 4 18,
 oO 5 (.assign (u9I 0))])
(.ret))))))⟩

def f231:DFn := ⟨47,[.cell 6 3],
 .seq (rg [oO 3 (.box 0 (.t 0)),
 oO 5 (.box 32 (.t 2)),
 oO 6 (.alloc 3)])
(.seq (rg [oO 9 (.mkfn 239 [(.t 6)])])
(.seq (rg [oL 11 0 3,
 oM 12 1,
 oO 13 (.call 0 (.f 22) [(.t 11),(.t 12)]),
 oM 10 13,
 oO 14 (.extract (.t 10) 0),
 oO 15 (.extract (.t 10) 1),
 oA 7 14,
 oE (.store 3 (.t 6) (.t 15))])
(.seq (.seq (rg [oL 16 3 6,
 oO 17 (.call 5 (.f 228) [(.t 16)])])
(.ifp (.t 17) (.seq (rg [ oO 17 (.extract (.t 17) 1),
 oO 17 (.field 44 (.t 17) 0),
 oE (.store 3 (.t 6) (.t 17))]) .ret) (rg [     ])))
(.seq (.seq (rg [oL 18 0 3,
 oF 19 32 5 0,
 oL 20 1 19,
 oO 21 (.call 0 (.f 240) [(.t 18),(.t 20)]),
 oM 22 21,
⟨(some 23),.faddr 32 (.t 5) 1,(some (22,true))⟩,
⟨(some 24),.load 2 (.t 23),(some (22,true))⟩,
⟨(some 25),.bin .geq 2 (.t 24) (u9I 1),(some (22,true))⟩,
 oO 26 (.pick (.t 22) (.t 25) (u9B false)),
 oM 27 26,
⟨(some 28),.faddr 32 (.t 5) 1,(some (27,true))⟩,
⟨(some 29),.load 2 (.t 28),(some (27,true))⟩,
⟨(some 30),.bin .leq 2 (.t 29) (u9I 3),(some (27,true))⟩,
 oO 31 (.pick (.t 27) (.t 30) (u9B false)),
 oO 32 (.call 5 (.f 229) [(.t 31),(u9I 310)])])
(.ifp (.t 32) (.seq (rg [ oO 32 (.extract (.t 32) 1),
 oO 32 (.field 44 (.t 32) 0),
 oE (.store 3 (.t 6) (.t 32))]) .ret) (rg [     ])))
(.seq (rg [oO 8 (.alloc 48)])
(.seq (rg [oO 33 (.build 49 [(1,(.f 241)),(2,(.f 242)),(3,(.f 243))]),
 oF 34 48 8 0,
 oE (.store 49 (.t 34) (.t 33))])
(.seq (.seq (.region true [] [
 oF 35 32 5 1,
 oL 36 2 35,
 oF 37 48 8 0,
 oI 38 49 37 36,
 oL 39 50 38,
 oL 40 0 3,
 oM 41 1,
 oM 42 7,
 oO 43 (.build 51 [(0,(.t 40)),(1,(.t 41)),(2,(.t 42))]),
 oL 44 32 5])
(.seq (rg [oO 45 (.call 5 (.t 39) [(.t 43),(.t 44)])])
(.ifp (.t 45) (.seq (rg [ oO 45 (.extract (.t 45) 1),
 oO 45 (.field 44 (.t 45) 0),
 oE (.store 3 (.t 6) (.t 45))]) .ret) (.seq (rg [oO 46 (.call 5 (.f 229) [(.t 45),(u9I 310)])])
(.ifp (.t 46) (.seq (rg [ oO 46 (.extract (.t 46) 1),
 oO 46 (.field 44 (.t 46) 0),
 oE (.store 3 (.t 6) (.t 46))]) .ret) .skip)))))
(.seq (rg [oE (.store 3 (.t 6) (u9I 0))])
(.ret)))))))))⟩

def f237:DFn := ⟨8,[.tmp 3],
 .seq (rg [oO 3 (.assign (u9B false))])
(.seq (rg [oL 4 0 1,
 oM 5 0,
 oO 6 (.call 0 (.f 240) [(.t 4),(.t 5)]),
 oO 7 (.un .not (.t 6)),
 oA 3 7])
(.ret))⟩

def f238:DFn := ⟨65,[.tmp 6],
 .seq (rg [oO 5 (.box 2 (.t 1)),
 oO 6 (.assign (u9B false))])
(.seq (.seq (rg [oM 12 0,
 oO 13 (.mkfn 245 [(.t 5)]),
 oO 14 (.call 3 (.f 159) [(.t 12),(.t 13)])])
(.cond (.t 14) (.seq (rg [oM 15 0,
 oN 16 4 15,
 oO 17 (.bin .eql 2 (.t 16) (u9I 1)),
 oA 6 17])
(.ret)) (.skip)))
(.seq (.seq (rg [oM 18 0,
 oN 19 4 18,
 oO 20 (.bin .eql 2 (.t 19) (u9I 0))])
(.cond (.t 20) (.seq (rg [oO 6 (.assign (u9B false))])
(.ret)) (.skip)))
(.seq (rg [oF 21 0 2 2,
 oL 22 14 21,
 oL 23 2 5,
 oI 24 14 22 23,
 oF 25 15 24 3,
 oL 26 16 25,
 oN 27 16 26,
 oO 28 (.mkslice true 52 (.t 27) (.t 27)),
 oA 7 28])
(.seq (.seq (rg [oM 29 0,
 oN 30 4 29,
 oO 31 (.move (u9I 0))])
(.block 0 (.loop (.seq (rg [oO 32 (.bin .lss 2 (.t 31) (.t 30))])
(.seq (.cond (.t 32) (.skip) (.exit 0))
(.seq (.block 1 (.seq (rg [oI 33 4 29 31,
 oL 34 1 33,
 oA 9 34])
(.region true [] [
 oM 35 7,
 oM 36 9,
 oL 37 2 5,
 oI 38 1 36 37,
 oL 39 2 38,
 oM 40 7,
 oM 41 9,
 oL 42 2 5,
 oI 43 1 41 42,
 oL 44 2 43,
 oI 45 52 40 44,
 oL 46 4 45,
 oM 47 9,
 oO 48 (.bslice false 4 1 [(0,(.t 47))]),
 oO 49 (.append 0 4 4 (.t 46) (.t 48)),
 oI 50 52 35 39,
 oE (.store 4 (.t 50) (.t 49))])))
(rg [oO 51 (.bin .add 2 (.t 31) (u9I 1)),
 oM 31 51])))))))
(.seq (.seq (rg [oM 52 7,
 oN 53 52 52,
 oO 54 (.move (u9I 0))])
(.block 2 (.loop (.seq (rg [oO 55 (.bin .lss 2 (.t 54) (.t 53))])
(.seq (.cond (.t 55) (.skip) (.exit 2))
(.seq (.block 3 (.seq (rg [oI 56 52 52 54,
 oL 57 4 56,
 oA 11 57])
(.seq (rg [oL 58 47 3,
 oM 59 11,
 oL 60 2 5,
 oO 61 (.bin .add 2 (.t 60) (u9I 1)),
 oO 62 (.call 2 (.t 58) [(.t 59),(.t 61)]),
 oO 63 (.un .not (.t 62))])
(.cond (.t 63) (.seq (rg [oO 6 (.assign (u9B false))])
(.ret)) (.skip)))))
(rg [oO 64 (.bin .add 2 (.t 54) (u9I 1)),
 oM 54 64])))))))
(.seq (rg [oO 6 (.assign (u9B true))])
(.ret)))))))⟩

def f240:DFn := ⟨15,[.tmp 4],
 .seq (rg [oO 2 (.box 0 (.t 0)),
 oO 4 (.assign (u9B false))])
(.seq (rg [oL 8 0 2,
 oM 9 1,
 oO 10 (.call 0 (.f 14) [(.t 8),(.t 9),(u9I 0)]),
 oM 7 10,
 oO 11 (.extract (.t 7) 0),
 oO 12 (.extract (.t 7) 1),
 oA 5 11,
 oA 6 12])
(.seq (rg [oM 13 6,
 oO 14 (.bin .eql 3 (.t 13) (u9I 0)),
 oA 4 14])
(.ret)))⟩

def f241:DFn := ⟨23,[.tmp 4],
 .seq (rg [oO 2 (.box 51 (.t 0)),
 oO 3 (.box 32 (.t 1)),
 oO 4 (.assign (u9B false))])
(.seq (rg [oF 8 51 2 0,
 oL 9 0 8,
 oF 10 32 3 0,
 oL 11 1 10,
 oF 12 51 2 1,
 oL 13 6 12,
 oO 14 (.call 0 (.f 24) [(.t 9),(.t 11),(.t 13)]),
 oM 7 14,
 oO 15 (.extract (.t 7) 0),
 oO 16 (.extract (.t 7) 1),
 oA 5 15,
 oA 6 16])
(.seq (rg [oM 17 6,
 oO 18 (.bin .eql 3 (.t 17) (u9I 0)),
 oM 19 18,
⟨(some 20),.move (.t 5),(some (19,true))⟩,
⟨(some 21),.un .not (.t 20),(some (19,true))⟩,
 oO 22 (.pick (.t 19) (.t 21) (u9B false)),
 oA 4 22])
(.ret)))⟩

def f242:DFn := ⟨44,[.tmp 4],
 .seq (rg [oO 2 (.box 51 (.t 0)),
 oO 3 (.box 32 (.t 1)),
 oO 4 (.assign (u9B false))])
(.seq (rg [oF 10 51 2 0,
 oL 11 0 10,
 oF 12 32 3 0,
 oL 13 1 12,
 oO 14 (.call 0 (.f 3) [(.t 11),(.t 13)]),
 oM 9 14,
 oO 15 (.extract (.t 9) 0),
 oO 16 (.extract (.t 9) 1),
 oA 5 15,
 oA 6 16])
(.seq (.seq (rg [oM 17 6,
 oO 18 (.bin .neq 3 (.t 17) (u9I 0))])
(.cond (.t 18) (.seq (rg [oO 4 (.assign (u9B false))])
(.ret)) (.skip)))
(.seq (.seq (rg [oM 19 5,
 oF 20 51 2 2,
 oL 21 6 20,
 oO 22 (.call 5 (.f 246) [(.t 19),(.t 21)])])
(.ifp (.t 22) (.exit 1000022) (rg [oA 7 22])))
(.seq (.seq (rg [oM 23 7,
 oO 24 (.bin .neq 2 (.t 23) (u9I 0))])
(.cond (.t 24) (.seq (rg [oM 25 7,
 oO 26 (.bin .gtr 2 (.t 25) (u9I 0)),
 oA 4 26])
(.ret)) (.skip)))
(.seq (rg [oF 28 51 2 0,
 oL 29 0 28,
 oF 30 32 3 0,
 oL 31 1 30,
 oO 32 (.call 0 (.f 9) [(.t 29),(.t 31)]),
 oM 27 32,
 oO 33 (.extract (.t 27) 0),
 oO 34 (.extract (.t 27) 1),
 oA 8 33,
 oA 6 34])
(.seq (.seq (rg [oM 35 6,
 oO 36 (.bin .eql 3 (.t 35) (u9I 0)),
 oM 37 36,
⟨(some 38),.move (.t 8),(some (37,true))⟩,
⟨(some 39),.faddr 51 (.t 2) 1,(some (37,true))⟩,
⟨(some 40),.load 6 (.t 39),(some (37,true))⟩,
⟨(some 41),.call 5 (.f 246) [(.t 38),(.t 40)],(some (37,true))⟩])
(.ifp (.t 41) (.exit 1000041) (rg [
⟨(some 42),.bin .geq 2 (.t 41) (u9I 0),(some (37,true))⟩,
 oO 43 (.pick (.t 37) (.t 42) (u9B false)),
 oA 4 43])))
(.ret)))))))⟩

def f243:DFn := ⟨87,[.tmp 4],
 .seq (rg [oO 2 (.box 51 (.t 0)),
 oO 3 (.box 32 (.t 1)),
 oO 4 (.assign (u9B false))])
(.seq (rg [oF 12 51 2 0,
 oL 13 0 12,
 oF 14 32 3 0,
 oL 15 1 14,
 oO 16 (.call 0 (.f 3) [(.t 13),(.t 15)]),
 oM 11 16,
 oO 17 (.extract (.t 11) 0),
 oO 18 (.extract (.t 11) 1),
 oA 5 17,
 oA 6 18])
(.seq (.seq (.region true [] [
 oM 19 6,
 oO 20 (.bin .neq 3 (.t 19) (u9I 0)),
 oM 21 20,
 u9G 22 (.faddr 51 (.t 2) 2) 21,
 u9G 23 (.load 6 (.t 22)) 21,
 u9G 24 (.iaddr 6 (.t 23) (u9I 0)) 21,
 u9G 25 (.load 2 (.t 24)) 21,
 u9G 26 (.bin .neq 2 (.t 25) (u9I 0)) 21,
 oO 27 (.pick (.t 21) (u9B true) (.t 26)),
 oM 28 27,
 u9G 29 (.move (.t 5)) 28,
 u9G 30 (.iaddr 6 (.t 29) (u9I 1)) 28,
 u9G 31 (.load 2 (.t 30)) 28,
 u9G 32 (.faddr 51 (.t 2) 2) 28,
 u9G 33 (.load 6 (.t 32)) 28,
 u9G 34 (.iaddr 6 (.t 33) (u9I 1)) 28,
 u9G 35 (.load 2 (.t 34)) 28,
 u9G 36 (.bin .lss 2 (.t 31) (.t 35)) 28,
 oO 37 (.pick (.t 28) (u9B true) (.t 36))])
(.cond (.t 37) (.seq (rg [oO 4 (.assign (u9B false))])
(.ret)) (.skip)))
(.seq (.region true [] [
 oF 39 51 2 0,
 oL 40 0 39,
 oF 41 32 3 0,
 oL 42 1 41,
 oF 43 51 2 2,
 oL 44 6 43,
 oO 45 (.iaddr 6 (.t 44) (u9I 1)),
 oL 46 2 45,
 oF 47 32 3 2,
 oL 48 9 47,
 oO 49 (.call 0 (.f 39) [(.t 40),(.t 42),(.t 46),(.t 48)]),
 oM 38 49,
 oO 50 (.extract (.t 38) 0),
 oO 51 (.extract (.t 38) 1),
 oA 7 50,
 oA 6 51])
(.seq (.region true [] [
 oF 53 51 2 0,
 oL 54 0 53,
 oF 55 32 3 0,
 oL 56 1 55,
 oF 57 51 2 2,
 oL 58 6 57,
 oO 59 (.iaddr 6 (.t 58) (u9I 1)),
 oL 60 2 59,
 oF 61 32 3 2,
 oL 62 9 61,
 oO 63 (.call 0 (.f 37) [(.t 54),(.t 56),(.t 60),(.t 62)]),
 oM 52 63,
 oO 64 (.extract (.t 52) 0),
 oO 65 (.extract (.t 52) 1),
 oO 66 (.extract (.t 52) 2),
 oA 8 64,
 oA 9 65,
 oA 10 66])
(.seq (rg [oM 67 6,
 oO 68 (.bin .eql 3 (.t 67) (u9I 0)),
 oM 69 68,
⟨(some 70),.move (.t 10),(some (69,true))⟩,
⟨(some 71),.bin .eql 3 (.t 70) (u9I 0),(some (69,true))⟩,
 oO 72 (.pick (.t 69) (.t 71) (u9B false)),
 oM 73 72,
⟨(some 74),.move (.t 7),(some (73,true))⟩,
⟨(some 75),.move (.t 74),(some (73,true))⟩,
 u9G 76 (.move (.t 9)) 75,
 u9G 77 (.move (.t 76)) 75,
⟨(some 78),.move (.t 8),(some (77,true))⟩,
⟨(some 79),.faddr 51 (.t 2) 2,(some (77,true))⟩,
⟨(some 80),.load 6 (.t 79),(some (77,true))⟩,
⟨(some 81),.iaddr 6 (.t 80) (u9I 2),(some (77,true))⟩,
⟨(some 82),.load 2 (.t 81),(some (77,true))⟩,
⟨(some 83),.bin .gtr 2 (.t 78) (.t 82),(some (77,true))⟩,
 u9G 84 (.pick (.t 77) (.t 83) (u9B false)) 75,
⟨(some 85),.pick (.t 75) (u9B true) (.t 84),(some (73,true))⟩,
 oO 86 (.pick (.t 73) (.t 85) (u9B false)),
 oA 4 86])
(.ret))))))⟩

def f245:DFn := ⟨8,[.tmp 3],
 .seq (rg [oO 3 (.assign (u9B false))])
(.seq (rg [oM 4 0,
 oN 5 1 4,
 oL 6 2 1,
 oO 7 (.bin .eql 2 (.t 5) (.t 6)),
 oA 3 7])
(.ret))⟩

def f246:DFn := ⟨17,[.tmp 4],
 .seq (rg [oO 4 (.assign (u9I 0))])
(.seq (rg [oM 8 0,
 oM 9 1,
 oO 10 (.call 0 (.f 30) [(.t 8),(.t 9)]),
 oM 7 10,
 oO 11 (.extract (.t 7) 0),
 oO 12 (.extract (.t 7) 1),
 oA 5 11,
 oA 6 12])
(.seq (.seq (rg [oM 13 6,
 oO 14 (.bin .eql 3 (.t 13) (u9I 0)),
 oO 15 (.call 5 (.f 229) [(.t 14),(u9I 310)])])
(.ifp (.t 15) (.exit 1000015) (rg [     ])))
(.seq (rg [oM 16 5,
 oA 4 16])
(.ret))))⟩

def f248:DFn := ⟨161,[.tmp 0],
 .seq (rg [oO 0 (.assign (u9B false))])
(.seq (rg [oO 21 (.call 0 (.f 263) []),
 oM 20 21,
 oO 22 (.extract (.t 20) 0),
 oO 23 (.extract (.t 20) 1),
 oO 1 (.alloc 0),
 oO 2 (.alloc 29),
 oE (.store 0 (.t 1) (.t 22)),
 oE (.store 29 (.t 2) (.t 23))])
(.seq (rg [oO 24 (.bslice false 6 0 []),
 oO 25 (.bslice false 9 1 [(0,(.t 24))]),
 oO 26 (.build 0 [(1,(.t 25))]),
 oO 3 (.alloc 0),
 oE (.store 0 (.t 3) (.t 26))])
(.seq (rg [oL 28 0 3,
 oO 29 (.call 0 (.f 230) [(.t 28),(.c (.imm .exact []))]),
 oM 27 29,
 oO 30 (.extract (.t 27) 0),
 oO 31 (.extract (.t 27) 1),
 oA 4 30,
 oA 5 31])
(.seq (rg [oL 33 0 1,
 oO 34 (.bslice false 1 0 []),
 oO 35 (.bslice false 4 1 [(0,(.t 34))]),
 oO 36 (.call 0 (.f 230) [(.t 33),(.t 35)]),
 oM 32 36,
 oO 37 (.extract (.t 32) 0),
 oO 38 (.extract (.t 32) 1),
 oA 6 37,
 oA 7 38])
(.seq (rg [oL 40 0 1,
 oO 41 (.bslice false 1 0 []),
 oO 42 (.bslice false 1 0 []),
 oO 43 (.bslice false 4 2 [(0,(.t 41)),(1,(.t 42))]),
 oO 44 (.call 0 (.f 230) [(.t 40),(.t 43)]),
 oM 39 44,
 oO 45 (.extract (.t 39) 0),
 oO 46 (.extract (.t 39) 1),
 oA 8 45,
 oA 9 46])
(.seq (rg [oL 48 29 2,
 oO 49 (.call 0 (.f 252) [(.t 48)]),
 oM 47 49,
 oO 50 (.extract (.t 47) 0),
 oO 51 (.extract (.t 47) 1),
 oA 10 50,
 oA 11 51])
(.seq (rg [oM 53 10,
 oO 54 (.call 0 (.f 254) [(.t 53)]),
 oM 52 54,
 oO 55 (.extract (.t 52) 0),
 oO 56 (.extract (.t 52) 1),
 oO 12 (.alloc 29),
 oE (.store 29 (.t 12) (.t 55)),
 oA 13 56])
(.seq (rg [oO 58 (.build 55 [(0,(u9I 1))]),
 oO 59 (.call 0 (.f 264) [(.t 58)]),
 oM 57 59,
 oO 60 (.extract (.t 57) 0),
 oO 61 (.extract (.t 57) 1),
 oA 14 60,
 oA 15 61])
(.seq (rg [oM 63 14,
 oO 64 (.call 0 (.f 254) [(.t 63)]),
 oM 62 64,
 oO 65 (.extract (.t 62) 0),
 oO 66 (.extract (.t 62) 1),
 oO 16 (.alloc 29),
 oE (.store 29 (.t 16) (.t 65)),
 oA 17 66])
(.seq (rg [oL 67 29 2,
 oO 18 (.alloc 29),
 oE (.store 29 (.t 18) (.t 67))])
(.seq (rg [oO 68 (.bslice false 6 1 [(0,(u9I 0))]),
 oF 69 29 18 0,
 oE (.store 6 (.t 69) (.t 68))])
(.seq (rg [oO 70 (.bslice false 6 4 [(0,(u9I 1)),(1,(u9I 0)),(2,(u9I 0)),(3,(u9I 0))]),
 oF 71 29 18 1,
 oE (.store 6 (.t 71) (.t 70))])
(.seq (rg [oL 72 29 2,
 oO 19 (.alloc 29),
 oE (.store 29 (.t 19) (.t 72))])
(.seq (rg [oF 73 29 2 2,
 oL 74 31 73,
 oO 75 (.slice 31 (.t 74) (some (u9I 1)) none none),
 oF 76 29 19 2,
 oE (.store 31 (.t 76) (.t 75))])
(.seq (.seq (rg [oM 77 5,
 oO 78 (.bin .neq 3 (.t 77) (u9I 0)),
 oM 79 78,
 u9G 80 (.move (.t 7)) 79,
 u9G 81 (.bin .neq 3 (.t 80) (u9I 0)) 79,
 oO 82 (.pick (.t 79) (u9B true) (.t 81)),
 oM 83 82,
 u9G 84 (.move (.t 9)) 83,
 u9G 85 (.bin .neq 3 (.t 84) (u9I 0)) 83,
 oO 86 (.pick (.t 83) (u9B true) (.t 85)),
 oM 87 86,
 u9G 88 (.move (.t 11)) 87,
 u9G 89 (.bin .neq 3 (.t 88) (u9I 0)) 87,
 oO 90 (.pick (.t 87) (u9B true) (.t 89)),
 oM 91 90,
 u9G 92 (.move (.t 13)) 91,
 u9G 93 (.bin .neq 3 (.t 92) (u9I 0)) 91,
 oO 94 (.pick (.t 91) (u9B true) (.t 93)),
 oM 95 94,
 u9G 96 (.move (.t 15)) 95,
 u9G 97 (.bin .neq 3 (.t 96) (u9I 0)) 95,
 oO 98 (.pick (.t 95) (u9B true) (.t 97)),
 oM 99 98,
 u9G 100 (.move (.t 17)) 99,
 u9G 101 (.bin .neq 3 (.t 100) (u9I 310)) 99,
 oO 102 (.pick (.t 99) (u9B true) (.t 101)),
 oM 103 102,
 u9G 104 (.load 0 (.t 1)) 103,
 u9G 105 (.load 29 (.t 2)) 103,
 u9G 106 (.call 0 (.f 216) [(.t 104),(.t 105)]) 103,
 u9G 107 (.bin .neq 3 (.t 106) (u9I 0)) 103,
 oO 108 (.pick (.t 103) (u9B true) (.t 107)),
 oM 109 108,
 u9G 110 (.load 0 (.t 1)) 109,
 u9G 111 (.load 29 (.t 18)) 109,
 u9G 112 (.call 0 (.f 216) [(.t 110),(.t 111)]) 109,
 u9G 113 (.bin .neq 3 (.t 112) (u9I 310)) 109,
 oO 114 (.pick (.t 109) (u9B true) (.t 113)),
 oM 115 114,
 u9G 116 (.load 0 (.t 1)) 115,
 u9G 117 (.load 29 (.t 19)) 115,
 u9G 118 (.call 0 (.f 216) [(.t 116),(.t 117)]) 115,
 u9G 119 (.bin .neq 3 (.t 118) (u9I 310)) 115,
 oO 120 (.pick (.t 115) (u9B true) (.t 119)),
 oM 121 120,
 u9G 122 (.load 0 (.t 3)) 121,
 u9G 123 (.build 29 []) 121,
 u9G 124 (.call 0 (.f 216) [(.t 122),(.t 123)]) 121,
 u9G 125 (.bin .neq 3 (.t 124) (u9I 310)) 121,
 oO 126 (.pick (.t 121) (u9B true) (.t 125))])
(.cond (.t 126) (.seq (rg [oO 0 (.assign (u9B false))])
(.ret)) (.skip)))
(.seq (.region true [] [
 oM 127 4,
 oO 128 (.un .not (.t 127)),
 oM 129 128,
⟨(some 130),.move (.t 6),(some (129,true))⟩,
 oO 131 (.pick (.t 129) (.t 130) (u9B false)),
 oM 132 131,
⟨(some 133),.move (.t 8),(some (132,true))⟩,
⟨(some 134),.un .not (.t 133),(some (132,true))⟩,
 oO 135 (.pick (.t 132) (.t 134) (u9B false)),
 oM 136 135,
⟨(some 137),.load 29 (.t 12),(some (136,true))⟩,
⟨(some 138),.load 29 (.t 2),(some (136,true))⟩,
⟨(some 139),.call 0 (.f 256) [(.t 137),(.t 138)],(some (136,true))⟩,
 oO 140 (.pick (.t 136) (.t 139) (u9B false)),
 oM 141 140,
⟨(some 142),.load 0 (.t 1),(some (141,true))⟩,
⟨(some 143),.faddr 29 (.t 2) 0,(some (141,true))⟩,
⟨(some 144),.load 6 (.t 143),(some (141,true))⟩,
⟨(some 145),.faddr 29 (.t 2) 2,(some (141,true))⟩,
⟨(some 146),.load 31 (.t 145),(some (141,true))⟩,
⟨(some 147),.iaddr 31 (.t 146) (u9I 1),(some (141,true))⟩,
⟨(some 148),.load 32 (.t 147),(some (141,true))⟩,
⟨(some 149),.call 0 (.f 231) [(.t 142),(.t 144),(.t 148)],(some (141,true))⟩,
⟨(some 150),.bin .eql 3 (.t 149) (u9I 0),(some (141,true))⟩,
 oO 151 (.pick (.t 141) (.t 150) (u9B false)),
 oM 152 151,
⟨(some 153),.load 0 (.t 1),(some (152,true))⟩,
⟨(some 154),.faddr 29 (.t 2) 0,(some (152,true))⟩,
⟨(some 155),.load 6 (.t 154),(some (152,true))⟩,
⟨(some 156),.bslice false 1 1 [(0,(u9I 1))],(some (152,true))⟩,
⟨(some 157),.build 32 [(0,(.t 156)),(1,(u9I 9))],(some (152,true))⟩,
⟨(some 158),.call 0 (.f 231) [(.t 153),(.t 155),(.t 157)],(some (152,true))⟩,
⟨(some 159),.bin .eql 3 (.t 158) (u9I 310),(some (152,true))⟩,
 oO 160 (.pick (.t 152) (.t 159) (u9B false)),
 oA 0 160])
(.ret)))))))))))))))))⟩

def f251:DFn := ⟨106,[.tmp 4],
 .seq (rg [oO 2 (.box 29 (.t 0)),
 oO 4 (.assign (u9B false))])
(.seq (.seq (rg [oO 17 (.call 0 (.f 248) []),
 oO 18 (.un .not (.t 17))])
(.cond (.t 18) (.seq (rg [oO 4 (.assign (u9B false))])
(.ret)) (.skip)))
(.seq (.seq (rg [oL 19 29 2,
 oO 20 (.call 0 (.f 213) [(.t 19)]),
 oO 21 (.un .not (.t 20)),
 oM 22 21,
 u9G 23 (.move (.t 1)) 22,
 u9G 24 (.len 30 (.t 23)) 22,
 u9G 25 (.bin .gtr 2 (.t 24) (u9I 2000)) 22,
 oO 26 (.pick (.t 22) (u9B true) (.t 25))])
(.cond (.t 26) (.seq (rg [oO 4 (.assign (u9B true))])
(.ret)) (.skip)))
(.seq (rg [oL 28 29 2,
 oO 29 (.call 0 (.f 252) [(.t 28)]),
 oM 27 29,
 oO 30 (.extract (.t 27) 0),
 oO 31 (.extract (.t 27) 1),
 oA 5 30,
 oA 6 31])
(.seq (rg [oL 33 29 2,
 oO 34 (.call 0 (.f 253) [(.t 33)]),
 oM 32 34,
 oO 35 (.extract (.t 32) 0),
 oO 36 (.extract (.t 32) 1),
 oA 7 35,
 oA 8 36])
(.seq (rg [oM 38 5,
 oO 39 (.call 0 (.f 254) [(.t 38)]),
 oM 37 39,
 oO 40 (.extract (.t 37) 0),
 oO 41 (.extract (.t 37) 1),
 oO 9 (.alloc 29),
 oE (.store 29 (.t 9) (.t 40)),
 oA 10 41])
(.seq (rg [oM 43 1,
 oO 44 (.call 0 (.f 254) [(.t 43)]),
 oM 42 44,
 oO 45 (.extract (.t 42) 0),
 oO 46 (.extract (.t 42) 1),
 oO 11 (.alloc 29),
 oE (.store 29 (.t 11) (.t 45)),
 oA 12 46])
(.seq (rg [oM 48 1,
 oO 49 (.call 0 (.f 255) [(.t 48)]),
 oM 47 49,
 oO 50 (.extract (.t 47) 0),
 oO 51 (.extract (.t 47) 1),
 oO 13 (.alloc 29),
 oE (.store 29 (.t 13) (.t 50)),
 oA 14 51])
(.seq (.seq (rg [oM 52 5,
 oO 53 (.b2s 30 53 (.t 52)),
 oM 54 7,
 oO 55 (.b2s 30 53 (.t 54)),
 oO 56 (.bin .neq 53 (.t 53) (.t 55)),
 oM 57 56,
 u9G 58 (.move (.t 6)) 57,
 u9G 59 (.move (.t 8)) 57,
 u9G 60 (.bin .neq 3 (.t 58) (.t 59)) 57,
 oO 61 (.pick (.t 57) (u9B true) (.t 60)),
 oM 62 61,
 u9G 63 (.move (.t 6)) 62,
 u9G 64 (.bin .neq 3 (.t 63) (u9I 0)) 62,
 oO 65 (.pick (.t 62) (u9B true) (.t 64)),
 oM 66 65,
 u9G 67 (.move (.t 10)) 66,
 u9G 68 (.bin .neq 3 (.t 67) (u9I 0)) 66,
 oO 69 (.pick (.t 66) (u9B true) (.t 68)),
 oM 70 69,
 u9G 71 (.load 29 (.t 9)) 70,
 u9G 72 (.load 29 (.t 2)) 70,
 u9G 73 (.call 0 (.f 256) [(.t 71),(.t 72)]) 70,
 u9G 74 (.un .not (.t 73)) 70,
 oO 75 (.pick (.t 70) (u9B true) (.t 74)),
 oM 76 75,
 u9G 77 (.load 29 (.t 11)) 76,
 u9G 78 (.load 29 (.t 13)) 76,
 u9G 79 (.call 0 (.f 256) [(.t 77),(.t 78)]) 76,
 u9G 80 (.un .not (.t 79)) 76,
 oO 81 (.pick (.t 76) (u9B true) (.t 80)),
 oM 82 81,
 u9G 83 (.move (.t 12)) 82,
 u9G 84 (.move (.t 14)) 82,
 u9G 85 (.bin .neq 3 (.t 83) (.t 84)) 82,
 oO 86 (.pick (.t 82) (u9B true) (.t 85))])
(.cond (.t 86) (.seq (rg [oO 4 (.assign (u9B false))])
(.ret)) (.skip)))
(.seq (.seq (rg [oM 87 12,
 oO 88 (.bin .neq 3 (.t 87) (u9I 0))])
(.cond (.t 88) (.seq (rg [oL 89 29 11,
 oO 90 (.build 29 []),
 oO 91 (.call 0 (.f 256) [(.t 89),(.t 90)]),
 oA 4 91])
(.ret)) (.skip)))
(.seq (rg [oL 93 29 11,
 oO 94 (.call 0 (.f 252) [(.t 93)]),
 oM 92 94,
 oO 95 (.extract (.t 92) 0),
 oO 96 (.extract (.t 92) 1),
 oA 15 95,
 oA 16 96])
(.seq (rg [oM 97 16,
 oO 98 (.bin .eql 3 (.t 97) (u9I 0)),
 oM 99 98,
⟨(some 100),.move (.t 15),(some (99,true))⟩,
⟨(some 101),.b2s 30 53 (.t 100),(some (99,true))⟩,
⟨(some 102),.move (.t 1),(some (99,true))⟩,
⟨(some 103),.b2s 30 53 (.t 102),(some (99,true))⟩,
⟨(some 104),.bin .eql 53 (.t 101) (.t 103),(some (99,true))⟩,
 oO 105 (.pick (.t 99) (.t 104) (u9B false)),
 oA 4 105])
(.ret))))))))))))⟩

def f252:DFn := ⟨18,[.tmp 2,.tmp 3],
 .seq (rg [oO 1 (.box 29 (.t 0)),
 oO 2 (.assign (.c (.imm .exact []))),
 oO 3 (.assign (u9I 0))])
(.seq (.region true [] [
 oF 4 29 1 0,
 oL 5 6 4,
 oO 6 (.call 0 (.f 266) [(.t 5)]),
 oF 7 29 1 1,
 oL 8 6 7,
 oO 9 (.call 0 (.f 266) [(.t 8)]),
 oF 10 29 1 2,
 oL 11 31 10,
 oO 12 (.call 0 (.f 267) [(.t 11),(.f 268)]),
 oO 13 (.bslice false 56 3 [(0,(.t 6)),(1,(.t 9)),(2,(.t 12))]),
 oO 14 (.build 55 [(0,(u9I 3)),(3,(.t 13))]),
 oO 15 (.call 0 (.f 264) [(.t 14)]),
 oO 16 (.extract (.t 15) 0),
 oO 17 (.extract (.t 15) 1),
 oA 2 16,
 oA 3 17])
(.ret))⟩

def f253:DFn := ⟨9,[.tmp 2,.tmp 3],
 .seq (rg [oO 1 (.box 29 (.t 0)),
 oO 2 (.assign (.c (.imm .exact []))),
 oO 3 (.assign (u9I 0))])
(.seq (rg [oL 4 29 1,
 oO 5 (.call 0 (.f 269) [(.t 4)]),
 oO 6 (.call 0 (.f 270) [(.t 5)]),
 oO 7 (.extract (.t 6) 0),
 oO 8 (.extract (.t 6) 1),
 oA 2 7,
 oA 3 8])
(.ret))⟩

def f254:DFn := ⟨31,[.cell 2 29,.cell 3 3],
 .seq (rg [oO 2 (.alloc 29),
 oO 3 (.alloc 3)])
(.seq (rg [oO 6 (.mkfn 271 [(.t 3)])])
(.seq (rg [oM 8 0,
 oO 9 (.call 0 (.f 272) [(.t 8)]),
 oM 7 9,
 oO 10 (.extract (.t 7) 0),
 oO 11 (.extract (.t 7) 1),
 oO 4 (.alloc 55),
 oE (.store 55 (.t 4) (.t 10)),
 oE (.store 3 (.t 3) (.t 11))])
(.seq (.seq (rg [oL 12 3 3,
 oO 13 (.call 5 (.f 228) [(.t 12)])])
(.ifp (.t 13) (.seq (rg [ oO 13 (.extract (.t 13) 1),
 oO 13 (.field 44 (.t 13) 0),
 oE (.store 3 (.t 3) (.t 13))]) .ret) (rg [     ])))
(.seq (.seq (rg [oL 14 55 4,
 oO 15 (.call 5 (.f 273) [(.t 14),(u9I 3)])])
(.ifp (.t 15) (.seq (rg [ oO 15 (.extract (.t 15) 1),
 oO 15 (.field 44 (.t 15) 0),
 oE (.store 3 (.t 3) (.t 15))]) .ret) (rg [oA 5 15])))
(.seq (.seq (.probe [] [
 oM 16 5,
 oO 17 (.iaddr 56 (.t 16) (u9I 0)),
 oL 18 55 17,
 oO 19 (.call 0 (.f 274) [(.t 18)]),
 oM 20 5,
 oO 21 (.iaddr 56 (.t 20) (u9I 1)),
 oL 22 55 21,
 oO 23 (.call 0 (.f 274) [(.t 22)]),
 oM 24 5,
 oO 25 (.iaddr 56 (.t 24) (u9I 2)),
 oL 26 55 25,
 oO 27 (.call 0 (.f 275) [(.t 26),(.f 276)]),
 oE (.move (.c .undef)),
 oE (.move (.c .undef)),
 oE (.move (.c .undef)),
 oE (.move (.c .undef)),
 oE (.move (.c .undef)),
 oE (.move (.c .undef)),
 oE (.move (.c .undef)),
 oE (.move (.c .undef))] [19,23,27] 19)
(.ifp (.t 19) (.seq (rg [ oO 19 (.extract (.t 19) 1),
 oO 19 (.field 44 (.t 19) 0),
 oE (.store 3 (.t 3) (.t 19))]) .ret) (.region true [] [
 oM 16 5,
 oO 17 (.iaddr 56 (.t 16) (u9I 0)),
 oL 18 55 17,
 oO 19 (.call 0 (.f 274) [(.t 18)]),
 oM 20 5,
 oO 21 (.iaddr 56 (.t 20) (u9I 1)),
 oL 22 55 21,
 oO 23 (.call 0 (.f 274) [(.t 22)]),
 oM 24 5,
 oO 25 (.iaddr 56 (.t 24) (u9I 2)),
 oL 26 55 25,
 oO 27 (.call 0 (.f 275) [(.t 26),(.f 276)]),
 oE (.store 29 (.t 2) (.c (.agg [(.imm .exact []),(.imm .exact []),(.imm .exact [])]))),
 oF 28 29 2 0,
 oE (.store 6 (.t 28) (.t 19)),
 oF 29 29 2 1,
 oE (.store 6 (.t 29) (.t 23)),
 oF 30 29 2 2,
 oE (.store 31 (.t 30) (.t 27)),
 oE (.store 3 (.t 3) (u9I 0))])))
(.ret))))))⟩

def f255:DFn := ⟨100,[.cell 2 29,.tmp 3],
 .seq (rg [oO 2 (.alloc 29),
 oO 3 (.assign (u9I 0))])
(.seq (rg [oM 15 0,
 oO 16 (.call 0 (.f 277) [(.t 15)]),
 oM 14 16,
 oO 17 (.extract (.t 14) 0),
 oO 18 (.extract (.t 14) 1),
 oO 4 (.alloc 55),
 oE (.store 55 (.t 4) (.t 17)),
 oA 5 18])
(.seq (.seq (rg [oM 19 5,
 oO 20 (.bin .neq 3 (.t 19) (u9I 0))])
(.cond (.t 20) (.seq (rg [oO 21 (.build 29 []),
 oM 22 5,
 oE (.store 29 (.t 2) (.t 21)),
 oA 3 22])
(.ret)) (.skip)))
(.seq (.seq (rg [oF 23 55 4 0,
 oL 24 2 23,
 oO 25 (.bin .neq 2 (.t 24) (u9I 3)),
 oM 26 25,
 u9G 27 (.faddr 55 (.t 4) 3) 26,
 u9G 28 (.load 56 (.t 27)) 26,
 u9G 29 (.len 56 (.t 28)) 26,
 u9G 30 (.bin .neq 2 (.t 29) (u9I 3)) 26,
 oO 31 (.pick (.t 26) (u9B true) (.t 30)),
 oM 32 31,
 u9G 33 (.faddr 55 (.t 4) 3) 32,
 u9G 34 (.load 56 (.t 33)) 32,
 u9G 35 (.iaddr 56 (.t 34) (u9I 2)) 32,
 u9G 36 (.faddr 55 (.t 35) 0) 32,
 u9G 37 (.load 2 (.t 36)) 32,
 u9G 38 (.bin .neq 2 (.t 37) (u9I 3)) 32,
 oO 39 (.pick (.t 32) (u9B true) (.t 38))])
(.cond (.t 39) (.seq (rg [oO 40 (.build 29 []),
 oE (.store 29 (.t 2) (.t 40)),
 oO 3 (.assign (u9I 310))])
(.ret)) (.skip)))
(.seq (rg [oF 42 55 4 3,
 oL 43 56 42,
 oO 44 (.iaddr 56 (.t 43) (u9I 0)),
 oL 45 55 44,
 oO 46 (.call 0 (.f 278) [(.t 45)]),
 oM 41 46,
 oO 47 (.extract (.t 41) 0),
 oO 48 (.extract (.t 41) 1),
 oA 6 47,
 oA 7 48])
(.seq (rg [oF 50 55 4 3,
 oL 51 56 50,
 oO 52 (.iaddr 56 (.t 51) (u9I 1)),
 oL 53 55 52,
 oO 54 (.call 0 (.f 278) [(.t 53)]),
 oM 49 54,
 oO 55 (.extract (.t 49) 0),
 oO 56 (.extract (.t 49) 1),
 oA 8 55,
 oA 9 56])
(.seq (rg [oM 57 7,
 oM 58 57,
⟨(some 59),.move (.t 9),(some (58,true))⟩,
 oO 60 (.pick (.t 58) (.t 59) (u9B false)),
 oA 7 60])
(.seq (rg [oM 61 6,
 oM 62 8,
 oO 63 (.build 29 [(0,(.t 61)),(1,(.t 62))]),
 oO 10 (.alloc 29),
 oE (.store 29 (.t 10) (.t 63))])
(.seq (.seq (rg [oO 11 (.assign (u9I 0))])
(.block 0 (.loop (.seq (.seq (rg [oM 64 11,
 oF 65 55 4 3,
 oL 66 56 65,
 oO 67 (.iaddr 56 (.t 66) (u9I 2)),
 oF 68 55 67 3,
 oL 69 56 68,
 oN 70 56 69,
 oO 71 (.bin .lss 2 (.t 64) (.t 70))])
(.cond (.t 71) (.skip) (.exit 0)))
(.seq (.block 1 (.seq (rg [oF 75 55 4 3,
 oL 76 56 75,
 oO 77 (.iaddr 56 (.t 76) (u9I 2)),
 oF 78 55 77 3,
 oL 79 56 78,
 oM 80 11,
 oI 81 56 79 80,
 oL 82 55 81,
 oO 83 (.call 0 (.f 279) [(.t 82)]),
 oM 74 83,
 oO 84 (.extract (.t 74) 0),
 oO 85 (.extract (.t 74) 1),
 oO 12 (.alloc 32),
 oE (.store 32 (.t 12) (.t 84)),
 oA 13 85])
(.seq (rg [oM 86 7,
 oM 87 86,
⟨(some 88),.move (.t 13),(some (87,true))⟩,
 oO 89 (.pick (.t 87) (.t 88) (u9B false)),
 oA 7 89])
(rg [oF 90 29 10 2,
 oL 91 31 90,
 oL 92 32 12,
 oO 93 (.bslice false 31 1 [(0,(.t 92))]),
 oO 94 (.append 0 31 31 (.t 91) (.t 93)),
 oF 95 29 10 2,
 oE (.store 31 (.t 95) (.t 94))]))))
(rg [oM 72 11,
 oO 73 (.bin .add 2 (.t 72) (u9I 1)),
 oA 11 73]))))))
(.seq (.seq (rg [oM 96 7,
 oO 97 (.un .not (.t 96))])
(.cond (.t 97) (.seq (rg [oO 98 (.build 29 []),
 oE (.store 29 (.t 2) (.t 98)),
 oO 3 (.assign (u9I 310))])
(.ret)) (.skip)))
(.seq (rg [oL 99 29 10,
 oE (.store 29 (.t 2) (.t 99)),
 oO 3 (.assign (u9I 0))])
(.ret)))))))))))⟩

def f256:DFn := ⟨48,[.tmp 4],
 .seq (rg [oO 2 (.box 29 (.t 0)),
 oO 3 (.box 29 (.t 1)),
 oO 4 (.assign (u9B false))])
(.seq (.seq (rg [oF 6 29 2 0,
 oL 7 6 6,
 oF 8 29 3 0,
 oL 9 6 8,
 oO 10 (.call 0 (.f 20) [(.t 7),(.t 9)]),
 oO 11 (.un .not (.t 10)),
 oM 12 11,
 u9G 13 (.faddr 29 (.t 2) 1) 12,
 u9G 14 (.load 6 (.t 13)) 12,
 u9G 15 (.faddr 29 (.t 3) 1) 12,
 u9G 16 (.load 6 (.t 15)) 12,
 u9G 17 (.call 0 (.f 20) [(.t 14),(.t 16)]) 12,
 u9G 18 (.un .not (.t 17)) 12,
 oO 19 (.pick (.t 12) (u9B true) (.t 18)),
 oM 20 19,
 u9G 21 (.faddr 29 (.t 2) 2) 20,
 u9G 22 (.load 31 (.t 21)) 20,
 u9G 23 (.len 31 (.t 22)) 20,
 u9G 24 (.faddr 29 (.t 3) 2) 20,
 u9G 25 (.load 31 (.t 24)) 20,
 u9G 26 (.len 31 (.t 25)) 20,
 u9G 27 (.bin .neq 2 (.t 23) (.t 26)) 20,
 oO 28 (.pick (.t 20) (u9B true) (.t 27))])
(.cond (.t 28) (.seq (rg [oO 4 (.assign (u9B false))])
(.ret)) (.skip)))
(.seq (.seq (rg [oO 5 (.assign (u9I 0))])
(.block 0 (.loop (.seq (.seq (rg [oM 29 5,
 oF 30 29 2 2,
 oL 31 31 30,
 oN 32 31 31,
 oO 33 (.bin .lss 2 (.t 29) (.t 32))])
(.cond (.t 33) (.skip) (.exit 0)))
(.seq (.block 1 (.seq (.region true [] [
 oF 36 29 2 2,
 oL 37 31 36,
 oM 38 5,
 oI 39 31 37 38,
 oL 40 32 39,
 oF 41 29 3 2,
 oL 42 31 41,
 oM 43 5,
 oI 44 31 42 43,
 oL 45 32 44,
 oO 46 (.call 0 (.f 280) [(.t 40),(.t 45)]),
 oO 47 (.un .not (.t 46))])
(.cond (.t 47) (.seq (rg [oO 4 (.assign (u9B false))])
(.ret)) (.skip))))
(rg [oM 34 5,
 oO 35 (.bin .add 2 (.t 34) (u9I 1)),
 oA 5 35]))))))
(.seq (rg [oO 4 (.assign (u9B true))])
(.ret))))⟩

def f263:DFn := ⟨28,[.cell 0 0,.cell 1 29],
 .seq (rg [oO 0 (.alloc 0),
 oO 1 (.alloc 29)])
(.seq (rg [oO 4 (.build 20 [(1,(u9I 2)),(2,(u9I 100))]),
 oO 2 (.alloc 20),
 oE (.store 20 (.t 2) (.t 4))])
(.seq (rg [oL 5 20 2,
 oO 6 (.bslice false 10 1 [(0,(.t 5))]),
 oO 7 (.bslice false 6 1 [(0,(u9I 0))]),
 oO 8 (.bslice false 9 1 [(0,(.t 7))]),
 oO 9 (.bslice false 6 1 [(0,(u9I 0))]),
 oL 10 20 2,
 oO 11 (.build 19 [(0,(.t 10)),(1,(u9I 1))]),
 oO 12 (.bslice false 18 1 [(0,(.t 11))]),
 oO 13 (.build 17 [(3,(.t 12))]),
 oO 14 (.build 17 [(0,(u9I 10)),(1,(u9I 30)),(2,(u9I 1))]),
 oO 15 (.bslice false 16 2 [(0,(.t 13)),(1,(.t 14))]),
 oO 16 (.build 15 [(2,(.t 9)),(3,(.t 15))]),
 oO 17 (.bslice false 14 1 [(0,(.t 16))]),
 oO 18 (.build 0 [(0,(.t 6)),(1,(.t 8)),(2,(.t 17))]),
 oO 3 (.alloc 0),
 oE (.store 0 (.t 3) (.t 18))])
(.seq (rg [oL 19 0 3,
 oO 20 (.bslice false 6 1 [(0,(u9I 1))]),
 oO 21 (.bslice false 6 4 [(0,(u9I 0)),(1,(u9I 10)),(2,(u9I 30)),(3,(u9I 1))]),
 oO 22 (.bslice false 1 1 [(0,(u9I 0))]),
 oO 23 (.build 32 [(0,(.t 22)),(1,(u9I 2))]),
 oO 24 (.bslice false 1 1 [(0,(u9I 1))]),
 oO 25 (.build 32 [(0,(.t 24)),(1,(u9I 1))]),
 oO 26 (.bslice false 31 2 [(0,(.t 23)),(1,(.t 25))]),
 oO 27 (.build 29 [(0,(.t 20)),(1,(.t 21)),(2,(.t 26))]),
 oE (.store 0 (.t 0) (.t 19)),
 oE (.store 29 (.t 1) (.t 27))])
(.ret))))⟩

def f264:DFn := ⟨19,[.tmp 2,.tmp 3],
 .seq (rg [oO 1 (.ibox 55 (.t 0)),
 oO 2 (.assign (.c (.imm .exact []))),
 oO 3 (.assign (u9I 0))])
(.seq (.seq (rg [oO 5 (.iload 55 (.t 1)),
 oO 6 (.call 0 (.f 281) [(.t 5)]),
 oA 4 6])
(.seq (rg [oM 7 4,
 oO 8 (.bin .neq 3 (.t 7) (u9I 0))])
(.cond (.t 8) (.seq (rg [oM 9 4,
 oO 2 (.assign (.c (.imm .exact []))),
 oA 3 9])
(.ret)) (.skip))))
(.seq (.region true [] [
 oO 10 (.call 4 (.f 282) []),
 oF 11 55 1 0,
 oO 12 (.iload 2 (.t 11)),
 oO 13 (.nilc (.t 10)),
 oI 14 57 13 12,
 oF 15 58 14 0,
 oL 16 59 15,
 oO 17 (.iload 55 (.t 1)),
 oO 18 (.call 2 (.t 16) [(.c (.imm .exact [])),(.t 17)]),
 oA 2 18,
 oO 3 (.assign (u9I 0))])
(.ret)))⟩

def f266:DFn := ⟨5,[.cell 2 55],
 .seq (rg [oO 2 (.alloc 55)])
(.seq (rg [oM 3 0,
 oO 4 (.call 0 (.f 283) [(.t 3),(.f 284)]),
 oE (.store 55 (.t 2) (.t 4))])
(.ret))⟩

def f267:DFn := ⟨25,[.cell 4 55],
 .seq (rg [oO 4 (.alloc 55)])
(.seq (rg [oO 8 (.build 55 [(0,(u9I 3))]),
 oO 5 (.alloc 55),
 oE (.store 55 (.t 5) (.t 8))])
(.seq (.seq (rg [oM 9 0,
 oN 10 31 9,
 oO 11 (.move (u9I 0))])
(.block 0 (.loop (.seq (rg [oO 12 (.bin .lss 2 (.t 11) (.t 10))])
(.seq (.cond (.t 12) (.skip) (.exit 0))
(.seq (.block 1 (.seq (rg [oI 13 31 9 11,
 oL 14 32 13,
 oO 7 (.alloc 32),
 oE (.store 32 (.t 7) (.t 14))])
(.region true [] [
 oF 15 55 5 3,
 oL 16 56 15,
 oM 17 1,
 oL 18 32 7,
 oO 19 (.call 0 (.t 17) [(.t 18)]),
 oO 20 (.bslice false 56 1 [(0,(.t 19))]),
 oO 21 (.append 0 56 56 (.t 16) (.t 20)),
 oF 22 55 5 3,
 oE (.store 56 (.t 22) (.t 21))])))
(rg [oO 23 (.bin .add 2 (.t 11) (u9I 1)),
 oM 11 23])))))))
(.seq (rg [oL 24 55 5,
 oE (.store 55 (.t 4) (.t 24))])
(.ret))))⟩

def f268:DFn := ⟨14,[.cell 2 55],
 .seq (rg [oO 1 (.ibox 32 (.t 0)),
 oO 2 (.alloc 55)])
(.seq (.region true [] [
 oF 3 32 1 0,
 oO 4 (.iload 1 (.t 3)),
 oO 5 (.call 0 (.f 266) [(.t 4)]),
 oF 6 32 1 1,
 oO 7 (.iload 2 (.t 6)),
 oO 8 (.call 0 (.f 284) [(.t 7)]),
 oF 9 32 1 2,
 oO 10 (.iload 9 (.t 9)),
 oO 11 (.call 0 (.f 285) [(.t 10),(.f 266)]),
 oO 12 (.bslice false 56 3 [(0,(.t 5)),(1,(.t 8)),(2,(.t 11))]),
 oO 13 (.build 55 [(0,(u9I 3)),(3,(.t 12))]),
 oE (.store 55 (.t 2) (.t 13))])
(.ret))⟩

def f269:DFn := ⟨73,[.cell 2 55],
 .seq (rg [oO 1 (.ibox 29 (.t 0)),
 oO 2 (.alloc 55)])
(.seq (rg [oO 7 (.build 55 [(0,(u9I 3))]),
 oO 3 (.alloc 55),
 oE (.store 55 (.t 3) (.t 7))])
(.seq (.seq (rg [oO 4 (.assign (u9I 0))])
(.block 0 (.loop (.seq (.seq (rg [oM 8 4,
 oF 9 29 1 2,
 oO 10 (.iload 31 (.t 9)),
 oN 11 31 10,
 oO 12 (.bin .lss 2 (.t 8) (.t 11))])
(.cond (.t 12) (.skip) (.exit 0)))
(.seq (.block 1 (.seq (rg [oO 15 (.build 55 [(0,(u9I 3))]),
 oO 5 (.alloc 55),
 oE (.store 55 (.t 5) (.t 15))])
(.seq (.seq (rg [oO 6 (.assign (u9I 0))])
(.block 2 (.loop (.seq (.seq (rg [oM 16 6,
 oF 17 29 1 2,
 oO 18 (.iload 31 (.t 17)),
 oM 19 4,
 oI 20 31 18 19,
 oF 21 32 20 2,
 oL 22 9 21,
 oN 23 9 22,
 oO 24 (.bin .lss 2 (.t 16) (.t 23))])
(.cond (.t 24) (.skip) (.exit 2)))
(.seq (.block 3 (.region true [] [
 oF 27 55 5 3,
 oL 28 56 27,
 oF 29 29 1 2,
 oO 30 (.iload 31 (.t 29)),
 oM 31 4,
 oI 32 31 30 31,
 oF 33 32 32 2,
 oL 34 9 33,
 oM 35 6,
 oI 36 9 34 35,
 oL 37 6 36,
 oO 38 (.call 0 (.f 288) [(.t 37)]),
 oO 39 (.bslice false 56 1 [(0,(.t 38))]),
 oO 40 (.append 0 56 56 (.t 28) (.t 39)),
 oF 41 55 5 3,
 oE (.store 56 (.t 41) (.t 40))]))
(rg [oM 25 6,
 oO 26 (.bin .add 2 (.t 25) (u9I 1)),
 oA 6 26]))))))
(.region true [] [
 oF 42 55 3 3,
 oL 43 56 42,
 oF 44 29 1 2,
 oO 45 (.iload 31 (.t 44)),
 oM 46 4,
 oI 47 31 45 46,
 oF 48 32 47 0,
 oL 49 1 48,
 oO 50 (.call 0 (.f 288) [(.t 49)]),
 oF 51 29 1 2,
 oO 52 (.iload 31 (.t 51)),
 oM 53 4,
 oI 54 31 52 53,
 oF 55 32 54 1,
 oL 56 2 55,
 oO 57 (.call 0 (.f 289) [(.t 56)]),
 oL 58 55 5,
 oO 59 (.bslice false 56 3 [(0,(.t 50)),(1,(.t 57)),(2,(.t 58))]),
 oO 60 (.build 55 [(0,(u9I 3)),(3,(.t 59))]),
 oO 61 (.bslice false 56 1 [(0,(.t 60))]),
 oO 62 (.append 0 56 56 (.t 43) (.t 61)),
 oF 63 55 3 3,
 oE (.store 56 (.t 63) (.t 62))]))))
(rg [oM 13 4,
 oO 14 (.bin .add 2 (.t 13) (u9I 1)),
 oA 4 14]))))))
(.seq (.region true [] [
 oF 64 29 1 0,
 oO 65 (.iload 6 (.t 64)),
 oO 66 (.call 0 (.f 288) [(.t 65)]),
 oF 67 29 1 1,
 oO 68 (.iload 6 (.t 67)),
 oO 69 (.call 0 (.f 288) [(.t 68)]),
 oL 70 55 3,
 oO 71 (.bslice false 56 3 [(0,(.t 66)),(1,(.t 69)),(2,(.t 70))]),
 oO 72 (.build 55 [(0,(u9I 3)),(3,(.t 71))]),
 oE (.store 55 (.t 2) (.t 72))])
(.ret))))⟩

def f270:DFn := ⟨12,[.tmp 2,.tmp 3],
 .seq (rg [oO 1 (.ibox 55 (.t 0)),
 oO 2 (.assign (.c (.imm .exact []))),
 oO 3 (.assign (u9I 0))])
(.seq (rg [oO 5 (.iload 55 (.t 1)),
 oO 6 (.call 0 (.f 286) [(.t 5)]),
 oA 4 6])
(.seq (.seq (rg [oM 7 4,
 oO 8 (.bin .neq 3 (.t 7) (u9I 0))])
(.cond (.t 8) (.seq (rg [oM 9 4,
 oO 2 (.assign (.c (.imm .exact []))),
 oA 3 9])
(.ret)) (.skip)))
(.seq (rg [oO 10 (.iload 55 (.t 1)),
 oO 11 (.call 0 (.f 287) [(.t 10)]),
 oA 2 11,
 oO 3 (.assign (u9I 0))])
(.ret))))⟩

def f272:DFn := ⟨20,[.cell 2 55,.cell 3 3],
 .seq (rg [oO 2 (.alloc 55),
 oO 3 (.alloc 3)])
(.seq (rg [oO 5 (.mkfn 290 [(.t 2),(.t 3)])])
(.seq (rg [oM 6 0,
 oO 7 (.build 60 [(0,(.t 6))]),
 oO 8 (.box 60 (.t 7)),
 oA 4 8])
(.seq (.seq (rg [oM 9 4,
 oO 10 (.call 6 (.f 291) [(.t 9),(u9I 0)])])
(.ifp (.t 10) (.seq (rg [ oO 10 (.extract (.t 10) 1),
 oE (.store 55 (.t 2) (.c (.agg [.int .i64 0,.int .i64 0,.str [],.imm .exact []]))),
 oE (.store 3 (.t 3) (.t 10)),
 oO 10 (.un .neg (.t 10))]) .ret) (rg [oE (.store 55 (.t 2) (.t 10))])))
(.seq (.seq (rg [oM 11 4,
 oM 12 4,
 oO 13 (.nilc (.t 12)),
 oF 14 60 13 0,
 oL 15 30 14,
 oN 16 30 15,
 oO 17 (.bin .eql 2 (.t 16) (u9I 0)),
 oO 18 (.call 6 (.f 292) [(.t 11),(.t 17)])])
(.ifp (.t 18) (.seq (rg [ oO 18 (.extract (.t 18) 1),
 oE (.store 55 (.t 2) (.c (.agg [.int .i64 0,.int .i64 0,.str [],.imm .exact []]))),
 oE (.store 3 (.t 3) (.t 18)),
 oO 18 (.un .neg (.t 18))]) .ret) (rg [     ])))
(.seq (rg [oL 19 55 2,
 oE (.store 55 (.t 2) (.t 19)),
 oE (.store 3 (.t 3) (u9I 0))])
(.ret))))))⟩

def f273:DFn := ⟨22,[.tmp 4],
 .seq (rg [oO 2 (.ibox 55 (.t 0)),
 oO 4 (.assign (.c (.imm .exact [])))])
(.seq (.seq (rg [oF 5 55 2 0,
 oO 6 (.iload 2 (.t 5)),
 oO 7 (.bin .eql 2 (.t 6) (u9I 3)),
 oM 8 7,
⟨(some 9),.move (.t 1),(some (8,true))⟩,
⟨(some 10),.bin .lss 2 (.t 9) (u9I 0),(some (8,true))⟩,
⟨(some 11),.move (.t 10),(some (8,true))⟩,
 u9G 12 (.faddr 55 (.t 2) 3) 11,
 u9G 13 (.iload 56 (.t 12)) 11,
 u9G 14 (.len 56 (.t 13)) 11,
 u9G 15 (.move (.t 1)) 11,
 u9G 16 (.bin .eql 2 (.t 14) (.t 15)) 11,
⟨(some 17),.pick (.t 11) (u9B true) (.t 16),(some (8,true))⟩,
 oO 18 (.pick (.t 8) (.t 17) (u9B false)),
 oO 19 (.call 5 (.f 229) [(.t 18),(u9I 310)])])
(.ifp (.t 19) (.exit 1000019) (rg [     ])))
(.seq (rg [oF 20 55 2 3,
 oO 21 (.iload 56 (.t 20)),
 oA 4 21])
(.ret)))⟩

def f274:DFn := ⟨5,[.tmp 2],
 .seq (rg [oO 1 (.ibox 55 (.t 0)),
 oO 2 (.assign (.c (.imm .exact [])))])
(.seq (.seq (rg [oO 3 (.iload 55 (.t 1)),
 oO 4 (.call 5 (.f 293) [(.t 3),(.f 294)])])
(.ifp (.t 4) (.exit 1000004) (rg [oA 2 4])))
(.ret))⟩

def f275:DFn := ⟨22,[.tmp 4],
 .seq (rg [oO 2 (.ibox 55 (.t 0)),
 oO 4 (.assign (.c (.imm .exact [])))])
(.seq (.seq (.seq (rg [oO 7 (.iload 55 (.t 2)),
 oO 8 (.call 5 (.f 273) [(.t 7),(.c (.int .i64 (-1)))])])
(.ifp (.t 8) (.exit 1000008) (rg [oN 9 56 8,
 oO 10 (.move (u9I 0))])))
(.block 0 (.loop (.seq (rg [oO 11 (.bin .lss 2 (.t 10) (.t 9))])
(.seq (.cond (.t 11) (.skip) (.exit 0))
(.seq (.block 1 (.seq (rg [oI 12 56 8 10,
 oL 13 55 12,
 oO 6 (.alloc 55),
 oE (.store 55 (.t 6) (.t 13))])
(.seq (rg [oM 14 4,
 oM 15 1,
 oL 16 55 6,
 oO 17 (.call 5 (.t 15) [(.t 16)])])
(.ifp (.t 17) (.exit 1000017) (rg [oO 18 (.bslice false 31 1 [(0,(.t 17))]),
 oO 19 (.append 0 31 31 (.t 14) (.t 18)),
 oA 4 19])))))
(rg [oO 20 (.bin .add 2 (.t 10) (u9I 1)),
 oM 10 20])))))))
(.seq (rg [oM 21 4,
 oA 4 21])
(.ret)))⟩

def f276:DFn := ⟨19,[.cell 2 32],
 .seq (rg [oO 1 (.ibox 55 (.t 0)),
 oO 2 (.alloc 32)])
(.seq (.seq (rg [oO 4 (.iload 55 (.t 1)),
 oO 5 (.call 5 (.f 273) [(.t 4),(u9I 3)])])
(.ifp (.t 5) (.exit 1000005) (rg [oA 3 5])))
(.seq (.seq (.probe [] [
 oM 6 3,
 oO 7 (.iaddr 56 (.t 6) (u9I 0)),
 oL 8 55 7,
 oO 9 (.call 0 (.f 274) [(.t 8)]),
 oM 10 3,
 oO 11 (.iaddr 56 (.t 10) (u9I 1)),
 oL 12 55 11,
 oO 13 (.call 0 (.f 294) [(.t 12)]),
 oM 14 3,
 oO 15 (.iaddr 56 (.t 14) (u9I 2)),
 oL 16 55 15,
 oO 17 (.call 0 (.f 295) [(.t 16),(.f 274)]),
 oE (.move (.c .undef)),
 oE (.move (.c .undef))] [9,13,17] 9)
(.ifp (.t 9) (.exit 1000009) (.region true [] [
 oM 6 3,
 oO 7 (.iaddr 56 (.t 6) (u9I 0)),
 oL 8 55 7,
 oO 9 (.call 0 (.f 274) [(.t 8)]),
 oM 10 3,
 oO 11 (.iaddr 56 (.t 10) (u9I 1)),
 oL 12 55 11,
 oO 13 (.call 0 (.f 294) [(.t 12)]),
 oM 14 3,
 oO 15 (.iaddr 56 (.t 14) (u9I 2)),
 oL 16 55 15,
 oO 17 (.call 0 (.f 295) [(.t 16),(.f 274)]),
 oO 18 (.build 32 [(0,(.t 9)),(1,(.t 13)),(2,(.t 17))]),
 oE (.store 32 (.t 2) (.t 18))])))
(.ret)))⟩

def f277:DFn := ⟨39,[.cell 2 55,.tmp 3],
 .seq (rg [oO 2 (.alloc 55),
 oO 3 (.assign (u9I 0))])
(.seq (rg [oM 6 0,
 oO 7 (.build 61 [(0,(.t 6))]),
 oO 8 (.box 61 (.t 7)),
 oA 4 8])
(.seq (rg [oM 9 4,
 oO 10 (.call 2 (.f 296) [(.t 9),(u9I 0)]),
 oO 5 (.alloc 55),
 oE (.store 55 (.t 5) (.t 10))])
(.seq (.seq (.region true [] [
 oM 11 4,
 oO 12 (.nilc (.t 11)),
 oF 13 61 12 2,
 oL 14 7 13,
 oM 15 14,
 u9G 16 (.move (.t 4)) 15,
 u9G 17 (.nilc (.t 16)) 15,
 u9G 18 (.faddr 61 (.t 17) 1) 15,
 u9G 19 (.load 2 (.t 18)) 15,
 u9G 20 (.move (.t 0)) 15,
 u9G 21 (.len 30 (.t 20)) 15,
 u9G 22 (.bin .neq 2 (.t 19) (.t 21)) 15,
 oO 23 (.pick (.t 15) (u9B true) (.t 22)),
 oM 24 23,
 u9G 25 (.load 55 (.t 5)) 24,
 u9G 26 (.call 0 (.f 286) [(.t 25)]) 24,
 u9G 27 (.bin .neq 3 (.t 26) (u9I 0)) 24,
 oO 28 (.pick (.t 24) (u9B true) (.t 27)),
 oM 29 28,
 u9G 30 (.load 55 (.t 5)) 29,
 u9G 31 (.call 0 (.f 287) [(.t 30)]) 29,
 u9G 32 (.b2s 30 53 (.t 31)) 29,
 u9G 33 (.move (.t 0)) 29,
 u9G 34 (.b2s 30 53 (.t 33)) 29,
 u9G 35 (.bin .neq 53 (.t 32) (.t 34)) 29,
 oO 36 (.pick (.t 29) (u9B true) (.t 35))])
(.cond (.t 36) (.seq (rg [oO 37 (.build 55 []),
 oE (.store 55 (.t 2) (.t 37)),
 oO 3 (.assign (u9I 10))])
(.ret)) (.skip)))
(.seq (rg [oL 38 55 5,
 oE (.store 55 (.t 2) (.t 38)),
 oO 3 (.assign (u9I 0))])
(.ret)))))⟩

def f278:DFn := ⟨34,[.tmp 2,.tmp 3],
 .seq (rg [oO 1 (.ibox 55 (.t 0)),
 oO 2 (.assign (.c (.imm .exact []))),
 oO 3 (.assign (u9B false))])
(.seq (rg [oO 6 (.bslice false 6 0 []),
 oA 4 6])
(.seq (.seq (rg [oO 5 (.assign (u9I 0))])
(.block 0 (.loop (.seq (.seq (rg [oM 7 5,
 oF 8 55 1 3,
 oO 9 (.iload 56 (.t 8)),
 oN 10 56 9,
 oO 11 (.bin .lss 2 (.t 7) (.t 10))])
(.cond (.t 11) (.skip) (.exit 0)))
(.seq (.block 1 (.seq (.seq (rg [oF 14 55 1 3,
 oO 15 (.iload 56 (.t 14)),
 oM 16 5,
 oI 17 56 15 16,
 oF 18 55 17 0,
 oL 19 2 18,
 oO 20 (.bin .neq 2 (.t 19) (u9I 1))])
(.cond (.t 20) (.seq (rg [oO 2 (.assign (.c (.imm .exact []))),
 oO 3 (.assign (u9B false))])
(.ret)) (.skip)))
(rg [oM 21 4,
 oF 22 55 1 3,
 oO 23 (.iload 56 (.t 22)),
 oM 24 5,
 oI 25 56 23 24,
 oF 26 55 25 1,
 oL 27 2 26,
 oO 28 (.bslice false 6 1 [(0,(.t 27))]),
 oO 29 (.append 0 6 6 (.t 21) (.t 28)),
 oA 4 29])))
(rg [oM 12 5,
 oO 13 (.bin .add 2 (.t 12) (u9I 1)),
 oA 5 13]))))))
(.seq (.region true [] [
 oM 30 4,
 oF 31 55 1 0,
 oO 32 (.iload 2 (.t 31)),
 oO 33 (.bin .eql 2 (.t 32) (u9I 3)),
 oA 2 30,
 oA 3 33])
(.ret))))⟩

def f279:DFn := ⟨85,[.cell 2 32,.tmp 3],
 .seq (rg [oO 1 (.ibox 55 (.t 0)),
 oO 2 (.alloc 32),
 oO 3 (.assign (u9B false))])
(.seq (.seq (rg [oF 10 55 1 0,
 oO 11 (.iload 2 (.t 10)),
 oO 12 (.bin .neq 2 (.t 11) (u9I 3)),
 oM 13 12,
 u9G 14 (.faddr 55 (.t 1) 3) 13,
 u9G 15 (.iload 56 (.t 14)) 13,
 u9G 16 (.len 56 (.t 15)) 13,
 u9G 17 (.bin .neq 2 (.t 16) (u9I 3)) 13,
 oO 18 (.pick (.t 13) (u9B true) (.t 17)),
 oM 19 18,
 u9G 20 (.faddr 55 (.t 1) 3) 19,
 u9G 21 (.iload 56 (.t 20)) 19,
 u9G 22 (.iaddr 56 (.t 21) (u9I 1)) 19,
 u9G 23 (.faddr 55 (.t 22) 0) 19,
 u9G 24 (.load 2 (.t 23)) 19,
 u9G 25 (.bin .neq 2 (.t 24) (u9I 1)) 19,
 oO 26 (.pick (.t 19) (u9B true) (.t 25)),
 oM 27 26,
 u9G 28 (.faddr 55 (.t 1) 3) 27,
 u9G 29 (.iload 56 (.t 28)) 27,
 u9G 30 (.iaddr 56 (.t 29) (u9I 2)) 27,
 u9G 31 (.faddr 55 (.t 30) 0) 27,
 u9G 32 (.load 2 (.t 31)) 27,
 u9G 33 (.bin .neq 2 (.t 32) (u9I 3)) 27,
 oO 34 (.pick (.t 27) (u9B true) (.t 33))])
(.cond (.t 34) (.seq (rg [oO 35 (.build 32 []),
 oE (.store 32 (.t 2) (.t 35)),
 oO 3 (.assign (u9B false))])
(.ret)) (.skip)))
(.seq (rg [oF 37 55 1 3,
 oO 38 (.iload 56 (.t 37)),
 oO 39 (.iaddr 56 (.t 38) (u9I 0)),
 oL 40 55 39,
 oO 41 (.call 0 (.f 278) [(.t 40)]),
 oM 36 41,
 oO 42 (.extract (.t 36) 0),
 oO 43 (.extract (.t 36) 1),
 oA 4 42,
 oA 5 43])
(.seq (rg [oM 44 4,
 oF 45 55 1 3,
 oO 46 (.iload 56 (.t 45)),
 oO 47 (.iaddr 56 (.t 46) (u9I 1)),
 oF 48 55 47 1,
 oL 49 2 48,
 oO 50 (.build 32 [(0,(.t 44)),(1,(.t 49))]),
 oO 6 (.alloc 32),
 oE (.store 32 (.t 6) (.t 50))])
(.seq (.seq (rg [oO 7 (.assign (u9I 0))])
(.block 0 (.loop (.seq (.seq (rg [oM 51 7,
 oF 52 55 1 3,
 oO 53 (.iload 56 (.t 52)),
 oO 54 (.iaddr 56 (.t 53) (u9I 2)),
 oF 55 55 54 3,
 oL 56 56 55,
 oN 57 56 56,
 oO 58 (.bin .lss 2 (.t 51) (.t 57))])
(.cond (.t 58) (.skip) (.exit 0)))
(.seq (.block 1 (.seq (rg [oF 62 55 1 3,
 oO 63 (.iload 56 (.t 62)),
 oO 64 (.iaddr 56 (.t 63) (u9I 2)),
 oF 65 55 64 3,
 oL 66 56 65,
 oM 67 7,
 oI 68 56 66 67,
 oL 69 55 68,
 oO 70 (.call 0 (.f 278) [(.t 69)]),
 oM 61 70,
 oO 71 (.extract (.t 61) 0),
 oO 72 (.extract (.t 61) 1),
 oA 8 71,
 oA 9 72])
(.seq (rg [oM 73 5,
 oM 74 73,
⟨(some 75),.move (.t 9),(some (74,true))⟩,
 oO 76 (.pick (.t 74) (.t 75) (u9B false)),
 oA 5 76])
(rg [oF 77 32 6 2,
 oL 78 9 77,
 oM 79 8,
 oO 80 (.bslice false 9 1 [(0,(.t 79))]),
 oO 81 (.append 0 9 9 (.t 78) (.t 80)),
 oF 82 32 6 2,
 oE (.store 9 (.t 82) (.t 81))]))))
(rg [oM 59 7,
 oO 60 (.bin .add 2 (.t 59) (u9I 1)),
 oA 7 60]))))))
(.seq (rg [oL 83 32 6,
 oM 84 5,
 oE (.store 32 (.t 2) (.t 83)),
 oA 3 84])
(.ret))))))⟩

def f280:DFn := ⟨47,[.tmp 4],
 .seq (rg [oO 2 (.ibox 32 (.t 0)),
 oO 3 (.ibox 32 (.t 1)),
 oO 4 (.assign (u9B false))])
(.seq (.seq (rg [oF 6 32 2 0,
 oO 7 (.iload 1 (.t 6)),
 oF 8 32 3 0,
 oO 9 (.iload 1 (.t 8)),
 oO 10 (.call 0 (.f 20) [(.t 7),(.t 9)]),
 oO 11 (.un .not (.t 10)),
 oM 12 11,
 u9G 13 (.faddr 32 (.t 2) 1) 12,
 u9G 14 (.iload 2 (.t 13)) 12,
 u9G 15 (.faddr 32 (.t 3) 1) 12,
 u9G 16 (.iload 2 (.t 15)) 12,
 u9G 17 (.bin .neq 2 (.t 14) (.t 16)) 12,
 oO 18 (.pick (.t 12) (u9B true) (.t 17)),
 oM 19 18,
 u9G 20 (.faddr 32 (.t 2) 2) 19,
 u9G 21 (.iload 9 (.t 20)) 19,
 u9G 22 (.len 9 (.t 21)) 19,
 u9G 23 (.faddr 32 (.t 3) 2) 19,
 u9G 24 (.iload 9 (.t 23)) 19,
 u9G 25 (.len 9 (.t 24)) 19,
 u9G 26 (.bin .neq 2 (.t 22) (.t 25)) 19,
 oO 27 (.pick (.t 19) (u9B true) (.t 26))])
(.cond (.t 27) (.seq (rg [oO 4 (.assign (u9B false))])
(.ret)) (.skip)))
(.seq (.seq (rg [oO 5 (.assign (u9I 0))])
(.block 0 (.loop (.seq (.seq (rg [oM 28 5,
 oF 29 32 2 2,
 oO 30 (.iload 9 (.t 29)),
 oN 31 9 30,
 oO 32 (.bin .lss 2 (.t 28) (.t 31))])
(.cond (.t 32) (.skip) (.exit 0)))
(.seq (.block 1 (.seq (.region true [] [
 oF 35 32 2 2,
 oO 36 (.iload 9 (.t 35)),
 oM 37 5,
 oI 38 9 36 37,
 oL 39 6 38,
 oF 40 32 3 2,
 oO 41 (.iload 9 (.t 40)),
 oM 42 5,
 oI 43 9 41 42,
 oL 44 6 43,
 oO 45 (.call 0 (.f 20) [(.t 39),(.t 44)]),
 oO 46 (.un .not (.t 45))])
(.cond (.t 46) (.seq (rg [oO 4 (.assign (u9B false))])
(.ret)) (.skip))))
(rg [oM 33 5,
 oO 34 (.bin .add 2 (.t 33) (u9I 1)),
 oA 5 34]))))))
(.seq (rg [oO 4 (.assign (u9B true))])
(.ret))))⟩

def f281:DFn := ⟨16,[.tmp 2],
 .seq (rg [oO 1 (.ibox 55 (.t 0)),
 oO 2 (.assign (u9I 0))])
(.seq (rg [oO 6 (.iload 55 (.t 1)),
 oO 7 (.call 0 (.f 297) [(.t 6)]),
 oM 5 7,
 oO 8 (.extract (.t 5) 0),
 oO 9 (.extract (.t 5) 1),
 oA 3 8,
 oA 4 9])
(.seq (.block 0 (.seq (rg [oM 11 4,
 oO 12 (.un .not (.t 11)),
 oA 10 12])
(.cond (.t 10) (.seq (rg [oO 2 (.assign (u9I 1))])
(.ret)) (.seq (rg [oM 14 3,
 oO 15 (.bin .gtr 2 (.t 14) (u9I 16)),
 oA 13 15])
(.cond (.t 13) (.seq (rg [oO 2 (.assign (u9I 2))])
(.ret)) (.skip))))))
(.seq (rg [oO 2 (.assign (u9I 0))])
(.ret))))⟩

def f282:DFn := ⟨18,[.tmp 0],
 .seq (rg [oO 0 (.assign (.c .nilp))])
(.seq (rg [oO 2 (.build 57 []),
 oO 3 (.box 57 (.t 2)),
 oO 1 (.alloc 62),
 oE (.store 62 (.t 1) (.t 3))])
(.seq (rg [oL 4 62 1,
 oO 5 (.nilc (.t 4)),
 oO 6 (.iaddr 57 (.t 5) (u9I 1)),
 oF 7 58 6 0,
 oE (.store 59 (.t 7) (.f 298))])
(.seq (rg [oL 8 62 1,
 oO 9 (.nilc (.t 8)),
 oO 10 (.iaddr 57 (.t 9) (u9I 2)),
 oF 11 58 10 0,
 oE (.store 59 (.t 11) (.f 299))])
(.seq (rg [oL 12 62 1,
 oO 13 (.mkfn 300 [(.t 1)]),
 oO 14 (.nilc (.t 12)),
 oO 15 (.iaddr 57 (.t 14) (u9I 3)),
 oF 16 58 15 0,
 oE (.store 59 (.t 16) (.t 13))])
(.seq (rg [oL 17 62 1,
 oA 0 17])
(.ret))))))⟩

def f283:DFn := ⟨25,[.cell 4 55],
 .seq (rg [oO 4 (.alloc 55)])
(.seq (rg [oO 8 (.build 55 [(0,(u9I 3))]),
 oO 5 (.alloc 55),
 oE (.store 55 (.t 5) (.t 8))])
(.seq (.seq (rg [oM 9 0,
 oN 10 6 9,
 oO 11 (.move (u9I 0))])
(.block 0 (.loop (.seq (rg [oO 12 (.bin .lss 2 (.t 11) (.t 10))])
(.seq (.cond (.t 12) (.skip) (.exit 0))
(.seq (.block 1 (.seq (rg [oI 13 6 9 11,
 oL 14 2 13,
 oA 7 14])
(.region true [] [
 oF 15 55 5 3,
 oL 16 56 15,
 oM 17 1,
 oM 18 7,
 oO 19 (.call 0 (.t 17) [(.t 18)]),
 oO 20 (.bslice false 56 1 [(0,(.t 19))]),
 oO 21 (.append 0 56 56 (.t 16) (.t 20)),
 oF 22 55 5 3,
 oE (.store 56 (.t 22) (.t 21))])))
(rg [oO 23 (.bin .add 2 (.t 11) (u9I 1)),
 oM 11 23])))))))
(.seq (rg [oL 24 55 5,
 oE (.store 55 (.t 4) (.t 24))])
(.ret))))⟩

def f284:DFn := ⟨5,[.cell 2 55],
 .seq (rg [oO 2 (.alloc 55)])
(.seq (rg [oM 3 0,
 oO 4 (.build 55 [(0,(u9I 1)),(1,(.t 3))]),
 oE (.store 55 (.t 2) (.t 4))])
(.ret))⟩

def f285:DFn := ⟨25,[.cell 4 55],
 .seq (rg [oO 4 (.alloc 55)])
(.seq (rg [oO 8 (.build 55 [(0,(u9I 3))]),
 oO 5 (.alloc 55),
 oE (.store 55 (.t 5) (.t 8))])
(.seq (.seq (rg [oM 9 0,
 oN 10 9 9,
 oO 11 (.move (u9I 0))])
(.block 0 (.loop (.seq (rg [oO 12 (.bin .lss 2 (.t 11) (.t 10))])
(.seq (.cond (.t 12) (.skip) (.exit 0))
(.seq (.block 1 (.seq (rg [oI 13 9 9 11,
 oL 14 6 13,
 oA 7 14])
(.region true [] [
 oF 15 55 5 3,
 oL 16 56 15,
 oM 17 1,
 oM 18 7,
 oO 19 (.call 0 (.t 17) [(.t 18)]),
 oO 20 (.bslice false 56 1 [(0,(.t 19))]),
 oO 21 (.append 0 56 56 (.t 16) (.t 20)),
 oF 22 55 5 3,
 oE (.store 56 (.t 22) (.t 21))])))
(rg [oO 23 (.bin .add 2 (.t 11) (u9I 1)),
 oM 11 23])))))))
(.seq (rg [oL 24 55 5,
 oE (.store 55 (.t 4) (.t 24))])
(.ret))))⟩

def f286:DFn := ⟨9,[.tmp 2],
 .seq (rg [oO 1 (.ibox 55 (.t 0)),
 oO 2 (.assign (u9I 0))])
(.seq (.seq (rg [oO 3 (.iload 55 (.t 1)),
 oO 4 (.call 0 (.f 301) [(.t 3)]),
 oO 5 (.un .not (.t 4))])
(.cond (.t 5) (.seq (rg [oO 2 (.assign (u9I 1))])
(.ret)) (.skip)))
(.seq (.seq (rg [oO 6 (.iload 55 (.t 1)),
 oO 7 (.call 0 (.f 302) [(.t 6)]),
 oO 8 (.bin .gtr 2 (.t 7) (u9I 16))])
(.cond (.t 8) (.seq (rg [oO 2 (.assign (u9I 2))])
(.ret)) (.skip)))
(.seq (rg [oO 2 (.assign (u9I 0))])
(.ret))))⟩

def f287:DFn := ⟨50,[.tmp 2],
 .seq (rg [oO 1 (.ibox 55 (.t 0)),
 oO 2 (.assign (.c (.imm .exact [])))])
(.seq (.seq (rg [oF 5 55 1 0,
 oO 6 (.iload 2 (.t 5))])
(.block 0 (.seq (rg [oO 8 (.bin .eql 2 (.t 6) (u9I 1)),
 oA 7 8])
(.cond (.t 7) (.seq (rg [oO 9 (.bslice false 30 1 [(0,(.c (.int .u8 1)))]),
 oF 10 55 1 1,
 oO 11 (.iload 2 (.t 10)),
 oO 12 (.call 0 (.f 303) [(.t 11)]),
 oO 13 (.call 0 (.f 304) [(.t 12)]),
 oO 14 (.append 0 30 30 (.t 9) (.t 13)),
 oA 2 14])
(.ret)) (.seq (rg [oO 16 (.bin .eql 2 (.t 6) (u9I 2)),
 oA 15 16])
(.cond (.t 15) (.seq (.region true [] [
 oO 17 (.bslice false 30 1 [(0,(.c (.int .u8 2)))]),
 oF 18 55 1 2,
 oO 19 (.iload 53 (.t 18)),
 oN 20 53 19,
 oO 21 (.conv 2 63 (.t 20)),
 oO 22 (.call 0 (.f 304) [(.t 21)]),
 oO 23 (.append 0 30 30 (.t 17) (.t 22)),
 oF 24 55 1 2,
 oO 25 (.iload 53 (.t 24)),
 oO 26 (.append 0 30 53 (.t 23) (.t 25)),
 oA 2 26])
(.ret)) (.skip)))))))
(.seq (rg [oO 27 (.bslice false 30 1 [(0,(.c (.int .u8 3)))]),
 oF 28 55 1 3,
 oO 29 (.iload 56 (.t 28)),
 oN 30 56 29,
 oO 31 (.conv 2 63 (.t 30)),
 oO 32 (.call 0 (.f 304) [(.t 31)]),
 oO 33 (.append 0 30 30 (.t 27) (.t 32)),
 oA 3 33])
(.seq (.seq (rg [oO 4 (.assign (u9I 0))])
(.block 1 (.loop (.seq (.seq (rg [oM 34 4,
 oF 35 55 1 3,
 oO 36 (.iload 56 (.t 35)),
 oN 37 56 36,
 oO 38 (.bin .lss 2 (.t 34) (.t 37))])
(.cond (.t 38) (.skip) (.exit 1)))
(.seq (.block 2 (rg [oM 41 3,
 oF 42 55 1 3,
 oO 43 (.iload 56 (.t 42)),
 oM 44 4,
 oI 45 56 43 44,
 oL 46 55 45,
 oO 47 (.call 0 (.f 287) [(.t 46)]),
 oO 48 (.append 0 30 30 (.t 41) (.t 47)),
 oA 3 48]))
(rg [oM 39 4,
 oO 40 (.bin .add 2 (.t 39) (u9I 1)),
 oA 4 40]))))))
(.seq (rg [oM 49 3,
 oA 2 49])
(.ret)))))⟩

def f288:DFn := ⟨23,[.cell 2 55],
 .seq (rg [oO 2 (.alloc 55)])
(.seq (rg [oO 5 (.build 55 [(0,(u9I 3))]),
 oO 3 (.alloc 55),
 oE (.store 55 (.t 3) (.t 5))])
(.seq (.seq (rg [oO 4 (.assign (u9I 0))])
(.block 0 (.loop (.seq (.seq (rg [oM 6 4,
 oM 7 0,
 oN 8 6 7,
 oO 9 (.bin .lss 2 (.t 6) (.t 8))])
(.cond (.t 9) (.skip) (.exit 0)))
(.seq (.block 1 (.region true [] [
 oF 12 55 3 3,
 oL 13 56 12,
 oM 14 0,
 oM 15 4,
 oI 16 6 14 15,
 oL 17 2 16,
 oO 18 (.call 0 (.f 289) [(.t 17)]),
 oO 19 (.bslice false 56 1 [(0,(.t 18))]),
 oO 20 (.append 0 56 56 (.t 13) (.t 19)),
 oF 21 55 3 3,
 oE (.store 56 (.t 21) (.t 20))]))
(rg [oM 10 4,
 oO 11 (.bin .add 2 (.t 10) (u9I 1)),
 oA 4 11]))))))
(.seq (rg [oL 22 55 3,
 oE (.store 55 (.t 2) (.t 22))])
(.ret))))⟩

def f289:DFn := ⟨5,[.cell 2 55],
 .seq (rg [oO 2 (.alloc 55)])
(.seq (rg [oM 3 0,
 oO 4 (.build 55 [(0,(u9I 1)),(1,(.t 3))]),
 oE (.store 55 (.t 2) (.t 4))])
(.ret))⟩

def f291:DFn := ⟨50,[.cell 4 55],
 .seq (rg [oO 4 (.alloc 55)])
(.seq (.seq (rg [oM 5 0,
 oO 6 (.call 6 (.f 305) [(.t 5),(u9I 1)])])
(.ifp (.t 6) (.exit 1000006) (rg [oO 7 (.iaddr 30 (.t 6) (u9I 0)),
 oL 8 13 7,
 oO 9 (.conv 13 2 (.t 8)),
 oF 10 55 4 0,
 oE (.store 2 (.t 10) (.t 9))])))
(.seq (.seq (rg [oF 11 55 4 0,
 oL 12 2 11])
(.block 0 (.seq (rg [oO 16 (.bin .eql 2 (.t 12) (u9I 1)),
 oA 15 16])
(.cond (.t 15) (.seq (rg [oM 17 0,
 oO 18 (.call 6 (.f 306) [(.t 17)])])
(.ifp (.t 18) (.exit 1000018) (rg [oO 19 (.call 0 (.f 307) [(.t 18)]),
 oF 20 55 4 1,
 oE (.store 2 (.t 20) (.t 19))]))) (.seq (rg [oO 22 (.bin .eql 2 (.t 12) (u9I 2)),
 oA 21 22])
(.cond (.t 21) (.seq (rg [oM 23 0,
 oM 24 0,
 oO 25 (.call 6 (.f 308) [(.t 24)])])
(.ifp (.t 25) (.exit 1000025) (rg [oO 26 (.call 2 (.f 305) [(.t 23),(.t 25)]),
 oO 27 (.b2s 30 53 (.t 26)),
 oF 28 55 4 2,
 oE (.store 53 (.t 28) (.t 27))]))) (.seq (rg [oO 30 (.bin .eql 2 (.t 12) (u9I 3)),
 oA 29 30])
(.cond (.t 29) (.seq (.seq (rg [oM 31 0,
 oM 32 1,
 oO 33 (.bin .lss 2 (.t 32) (u9I 16)),
 oO 34 (.call 6 (.f 292) [(.t 31),(.t 33)])])
(.ifp (.t 34) (.exit 1000034) (rg [     ])))
(.seq (.seq (rg [oM 35 0,
 oO 36 (.call 6 (.f 308) [(.t 35)])])
(.ifp (.t 36) (.exit 1000036) (rg [oO 37 (.move (u9I 0))])))
(.block 1 (.loop (.seq (rg [oO 38 (.bin .lss 2 (.t 37) (.t 36))])
(.seq (.cond (.t 38) (.skip) (.exit 1))
(.seq (.block 2 (.seq (.probe [(1,5)] [
 oF 39 55 4 3,
 oL 40 56 39,
 oM 41 0,
 oM 42 1,
 oO 43 (.bin .add 2 (.t 42) (u9I 1)),
 oO 44 (.call 4 (.f 291) [(.t 41),(.t 43)]),
 oE (.move (.c .undef)),
 oE (.move (.c .undef)),
 oE (.move (.c .undef)),
 oE (.move (.c .undef))] [44] 44)
(.ifp (.t 44) (.exit 1000044) (.region true [(1,5)] [
 oF 39 55 4 3,
 oL 40 56 39,
 oM 41 0,
 oM 42 1,
 oO 43 (.bin .add 2 (.t 42) (u9I 1)),
 oO 44 (.call 4 (.f 291) [(.t 41),(.t 43)]),
 oO 45 (.bslice false 56 1 [(0,(.t 44))]),
 oO 46 (.append 0 56 56 (.t 40) (.t 45)),
 oF 47 55 4 3,
 oE (.store 56 (.t 47) (.t 46))]))))
(rg [oO 48 (.bin .add 2 (.t 37) (u9I 1)),
 oM 37 48])))))))) (.seq (rg [oM 13 0,
 oO 14 (.call 6 (.f 292) [(.t 13),(u9B false)])])
(.ifp (.t 14) (.exit 1000014) (rg [     ])))))))))))
(.seq (rg [oL 49 55 4,
 oE (.store 55 (.t 4) (.t 49))])
(.ret))))⟩

def f292:DFn := ⟨7,[],
 .seq (rg [oM 4 1,
 oO 5 (.un .not (.t 4))])
(.cond (.t 5) (.seq (rg [oO 6 (.mark false (u9I 10))])
(.exit 1000006)) (.skip))⟩

def f293:DFn := ⟨22,[.tmp 4],
 .seq (rg [oO 2 (.ibox 55 (.t 0)),
 oO 4 (.assign (.c (.imm .exact [])))])
(.seq (.seq (.seq (rg [oO 7 (.iload 55 (.t 2)),
 oO 8 (.call 5 (.f 273) [(.t 7),(.c (.int .i64 (-1)))])])
(.ifp (.t 8) (.exit 1000008) (rg [oN 9 56 8,
 oO 10 (.move (u9I 0))])))
(.block 0 (.loop (.seq (rg [oO 11 (.bin .lss 2 (.t 10) (.t 9))])
(.seq (.cond (.t 11) (.skip) (.exit 0))
(.seq (.block 1 (.seq (rg [oI 12 56 8 10,
 oL 13 55 12,
 oO 6 (.alloc 55),
 oE (.store 55 (.t 6) (.t 13))])
(.seq (rg [oM 14 4,
 oM 15 1,
 oL 16 55 6,
 oO 17 (.call 5 (.t 15) [(.t 16)])])
(.ifp (.t 17) (.exit 1000017) (rg [oO 18 (.bslice false 6 1 [(0,(.t 17))]),
 oO 19 (.append 0 6 6 (.t 14) (.t 18)),
 oA 4 19])))))
(rg [oO 20 (.bin .add 2 (.t 10) (u9I 1)),
 oM 10 20])))))))
(.seq (rg [oM 21 4,
 oA 4 21])
(.ret)))⟩

def f294:DFn := ⟨9,[.tmp 2],
 .seq (rg [oO 1 (.ibox 55 (.t 0)),
 oO 2 (.assign (u9I 0))])
(.seq (.seq (rg [oF 3 55 1 0,
 oO 4 (.iload 2 (.t 3)),
 oO 5 (.bin .eql 2 (.t 4) (u9I 1)),
 oO 6 (.call 5 (.f 229) [(.t 5),(u9I 310)])])
(.ifp (.t 6) (.exit 1000006) (rg [     ])))
(.seq (rg [oF 7 55 1 1,
 oO 8 (.iload 2 (.t 7)),
 oA 2 8])
(.ret)))⟩

def f295:DFn := ⟨22,[.tmp 4],
 .seq (rg [oO 2 (.ibox 55 (.t 0)),
 oO 4 (.assign (.c (.imm .exact [])))])
(.seq (.seq (.seq (rg [oO 7 (.iload 55 (.t 2)),
 oO 8 (.call 5 (.f 273) [(.t 7),(.c (.int .i64 (-1)))])])
(.ifp (.t 8) (.exit 1000008) (rg [oN 9 56 8,
 oO 10 (.move (u9I 0))])))
(.block 0 (.loop (.seq (rg [oO 11 (.bin .lss 2 (.t 10) (.t 9))])
(.seq (.cond (.t 11) (.skip) (.exit 0))
(.seq (.block 1 (.seq (rg [oI 12 56 8 10,
 oL 13 55 12,
 oO 6 (.alloc 55),
 oE (.store 55 (.t 6) (.t 13))])
(.seq (rg [oM 14 4,
 oM 15 1,
 oL 16 55 6,
 oO 17 (.call 5 (.t 15) [(.t 16)])])
(.ifp (.t 17) (.exit 1000017) (rg [oO 18 (.bslice false 9 1 [(0,(.t 17))]),
 oO 19 (.append 0 9 9 (.t 14) (.t 18)),
 oA 4 19])))))
(rg [oO 20 (.bin .add 2 (.t 10) (u9I 1)),
 oM 10 20])))))))
(.seq (rg [oM 21 4,
 oA 4 21])
(.ret)))⟩

def f296:DFn := ⟨142,[.cell 4 55],
 .seq (rg [oO 4 (.alloc 55)])
(.seq (.seq (rg [oM 10 0,
 oO 11 (.call 2 (.f 309) [(.t 10)])])
(.block 0 (.seq (rg [oO 13 (.bin .eql 13 (.t 11) (.c (.int .u8 1))),
 oA 12 13])
(.cond (.t 12) (.seq (rg [oM 14 0,
 oO 15 (.call 2 (.f 310) [(.t 14)]),
 oA 5 15])
(.seq (.seq (rg [oM 16 5,
 oO 17 (.bin .rem 63 (.t 16) (.c (.int .u64 2))),
 oO 18 (.bin .eql 63 (.t 17) (.c (.int .u64 1)))])
(.cond (.t 18) (.seq (rg [oM 19 5,
 oO 20 (.bin .quo 63 (.t 19) (.c (.int .u64 2))),
 oO 21 (.conv 63 2 (.t 20)),
 oO 22 (.un .neg (.t 21)),
 oO 23 (.bin .sub 2 (.t 22) (u9I 1)),
 oO 24 (.build 55 [(0,(u9I 1)),(1,(.t 23))]),
 oE (.store 55 (.t 4) (.t 24))])
(.ret)) (.skip)))
(.seq (rg [oM 25 5,
 oO 26 (.bin .quo 63 (.t 25) (.c (.int .u64 2))),
 oO 27 (.conv 63 2 (.t 26)),
 oO 28 (.build 55 [(0,(u9I 1)),(1,(.t 27))]),
 oE (.store 55 (.t 4) (.t 28))])
(.ret)))) (.seq (rg [oO 30 (.bin .eql 13 (.t 11) (.c (.int .u8 2))),
 oA 29 30])
(.cond (.t 29) (.seq (rg [oM 31 0,
 oO 32 (.call 2 (.f 310) [(.t 31)]),
 oA 6 32])
(.seq (.seq (.region true [] [
 oM 33 0,
 oO 34 (.nilc (.t 33)),
 oF 35 61 34 2,
 oL 36 7 35,
 oM 37 36,
 u9G 38 (.move (.t 6)) 37,
 u9G 39 (.move (.t 0)) 37,
 u9G 40 (.nilc (.t 39)) 37,
 u9G 41 (.faddr 61 (.t 40) 0) 37,
 u9G 42 (.load 30 (.t 41)) 37,
 u9G 43 (.len 30 (.t 42)) 37,
 u9G 44 (.move (.t 0)) 37,
 u9G 45 (.nilc (.t 44)) 37,
 u9G 46 (.faddr 61 (.t 45) 1) 37,
 u9G 47 (.load 2 (.t 46)) 37,
 u9G 48 (.bin .sub 2 (.t 43) (.t 47)) 37,
 u9G 49 (.conv 2 63 (.t 48)) 37,
 u9G 50 (.bin .gtr 63 (.t 38) (.t 49)) 37,
 oO 51 (.pick (.t 37) (u9B true) (.t 50))])
(.cond (.t 51) (.seq (rg [oM 52 0,
 oO 53 (.nilc (.t 52)),
 oF 54 61 53 2,
 oE (.store 7 (.t 54) (u9B true))])
(.seq (rg [oO 55 (.build 55 []),
 oE (.store 55 (.t 4) (.t 55))])
(.ret))) (.skip)))
(.seq (rg [oM 56 0,
 oM 57 0,
 oO 58 (.nilc (.t 57)),
 oF 59 61 58 1,
 oL 60 2 59,
 oM 61 6,
 oO 62 (.conv 63 2 (.t 61)),
 oO 63 (.bin .add 2 (.t 60) (.t 62)),
 oO 64 (.nilc (.t 56)),
 oF 65 61 64 1,
 oE (.store 2 (.t 65) (.t 63))])
(.seq (.region true [] [
 oM 66 0,
 oO 67 (.nilc (.t 66)),
 oF 68 61 67 0,
 oL 69 30 68,
 oM 70 0,
 oO 71 (.nilc (.t 70)),
 oF 72 61 71 1,
 oL 73 2 72,
 oM 74 6,
 oO 75 (.conv 63 2 (.t 74)),
 oO 76 (.bin .sub 2 (.t 73) (.t 75)),
 oM 77 0,
 oO 78 (.nilc (.t 77)),
 oF 79 61 78 1,
 oL 80 2 79,
 oO 81 (.slice 30 (.t 69) (some (.t 76)) (some (.t 80)) none),
 oO 82 (.b2s 30 53 (.t 81)),
 oO 83 (.build 55 [(0,(u9I 2)),(2,(.t 82))]),
 oE (.store 55 (.t 4) (.t 83))])
(.ret))))) (.seq (rg [oO 85 (.bin .eql 13 (.t 11) (.c (.int .u8 3))),
 oA 84 85])
(.cond (.t 84) (.seq (rg [oM 86 0,
 oO 87 (.call 2 (.f 310) [(.t 86)]),
 oA 7 87])
(.seq (.seq (.region true [] [
 oM 88 0,
 oO 89 (.nilc (.t 88)),
 oF 90 61 89 2,
 oL 91 7 90,
 oM 92 91,
 u9G 93 (.move (.t 7)) 92,
 u9G 94 (.move (.t 0)) 92,
 u9G 95 (.nilc (.t 94)) 92,
 u9G 96 (.faddr 61 (.t 95) 0) 92,
 u9G 97 (.load 30 (.t 96)) 92,
 u9G 98 (.len 30 (.t 97)) 92,
 u9G 99 (.move (.t 0)) 92,
 u9G 100 (.nilc (.t 99)) 92,
 u9G 101 (.faddr 61 (.t 100) 1) 92,
 u9G 102 (.load 2 (.t 101)) 92,
 u9G 103 (.bin .sub 2 (.t 98) (.t 102)) 92,
 u9G 104 (.conv 2 63 (.t 103)) 92,
 u9G 105 (.bin .gtr 63 (.t 93) (.t 104)) 92,
 oO 106 (.pick (.t 92) (u9B true) (.t 105)),
 oM 107 106,
 u9G 108 (.move (.t 1)) 107,
 u9G 109 (.bin .eql 2 (.t 108) (u9I 16)) 107,
 oO 110 (.pick (.t 107) (u9B true) (.t 109))])
(.cond (.t 110) (.seq (rg [oM 111 0,
 oO 112 (.nilc (.t 111)),
 oF 113 61 112 2,
 oE (.store 7 (.t 113) (u9B true))])
(.seq (rg [oO 114 (.build 55 []),
 oE (.store 55 (.t 4) (.t 114))])
(.ret))) (.skip)))
(.seq (rg [oO 115 (.build 55 [(0,(u9I 3))]),
 oO 8 (.alloc 55),
 oE (.store 55 (.t 8) (.t 115))])
(.seq (.seq (rg [oO 9 (.assign (.c (.int .u64 0)))])
(.block 1 (.loop (.seq (.seq (rg [oM 116 9,
 oM 117 7,
 oO 118 (.bin .lss 63 (.t 116) (.t 117)),
 oM 119 118,
⟨(some 120),.move (.t 0),(some (119,true))⟩,
⟨(some 121),.nilc (.t 120),(some (119,true))⟩,
⟨(some 122),.faddr 61 (.t 121) 2,(some (119,true))⟩,
⟨(some 123),.load 7 (.t 122),(some (119,true))⟩,
⟨(some 124),.un .not (.t 123),(some (119,true))⟩,
 oO 125 (.pick (.t 119) (.t 124) (u9B false))])
(.cond (.t 125) (.skip) (.exit 1)))
(.seq (.block 2 (.region true [(1,5)] [
 oF 128 55 8 3,
 oL 129 56 128,
 oM 130 0,
 oM 131 1,
 oO 132 (.bin .add 2 (.t 131) (u9I 1)),
 oO 133 (.call 4 (.f 296) [(.t 130),(.t 132)]),
 oO 134 (.bslice false 56 1 [(0,(.t 133))]),
 oO 135 (.append 0 56 56 (.t 129) (.t 134)),
 oF 136 55 8 3,
 oE (.store 56 (.t 136) (.t 135))]))
(rg [oM 126 9,
 oO 127 (.bin .add 63 (.t 126) (.c (.int .u64 1))),
 oA 9 127]))))))
(.seq (rg [oL 137 55 8,
 oE (.store 55 (.t 4) (.t 137))])
(.ret)))))) (.skip)))))))))
(.seq (rg [oM 138 0,
 oO 139 (.nilc (.t 138)),
 oF 140 61 139 2,
 oE (.store 7 (.t 140) (u9B true))])
(.seq (rg [oO 141 (.build 55 []),
 oE (.store 55 (.t 4) (.t 141))])
(.ret))))⟩

def f297:DFn := ⟨74,[.tmp 2,.tmp 3],
 .seq (rg [oO 1 (.ibox 55 (.t 0)),
 oO 2 (.assign (u9I 0)),
 oO 3 (.assign (u9B false))])
(.seq (rg [oF 9 55 1 2,
 oO 10 (.iload 53 (.t 9)),
 oO 11 (.bin .eql 53 (.t 10) (.c (.str []))),
 oM 12 11,
⟨(some 13),.faddr 55 (.t 1) 3,(some (12,true))⟩,
⟨(some 14),.iload 56 (.t 13),(some (12,true))⟩,
⟨(some 15),.len 56 (.t 14),(some (12,true))⟩,
⟨(some 16),.bin .eql 2 (.t 15) (u9I 0),(some (12,true))⟩,
 oO 17 (.pick (.t 12) (.t 16) (u9B false)),
 oF 18 55 1 1,
 oO 19 (.iload 2 (.t 18)),
 oO 20 (.bin .eql 2 (.t 19) (u9I 0)),
 oM 21 20,
⟨(some 22),.faddr 55 (.t 1) 3,(some (21,true))⟩,
⟨(some 23),.iload 56 (.t 22),(some (21,true))⟩,
⟨(some 24),.len 56 (.t 23),(some (21,true))⟩,
⟨(some 25),.bin .eql 2 (.t 24) (u9I 0),(some (21,true))⟩,
 oO 26 (.pick (.t 21) (.t 25) (u9B false)),
 oF 27 55 1 1,
 oO 28 (.iload 2 (.t 27)),
 oO 29 (.bin .eql 2 (.t 28) (u9I 0)),
 oM 30 29,
⟨(some 31),.faddr 55 (.t 1) 2,(some (30,true))⟩,
⟨(some 32),.iload 53 (.t 31),(some (30,true))⟩,
⟨(some 33),.bin .eql 53 (.t 32) (.c (.str [])),(some (30,true))⟩,
 oO 34 (.pick (.t 30) (.t 33) (u9B false)),
 oO 35 (.build 64 [(1,(.t 17)),(2,(.t 26)),(3,(.t 34))]),
 oO 4 (.alloc 64),
 oE (.store 64 (.t 4) (.t 35))])
(.seq (.seq (rg [oF 36 55 1 0,
 oO 37 (.iload 2 (.t 36)),
 oO 38 (.bin .lss 2 (.t 37) (u9I 1)),
 oM 39 38,
 u9G 40 (.faddr 55 (.t 1) 0) 39,
 u9G 41 (.iload 2 (.t 40)) 39,
 u9G 42 (.bin .gtr 2 (.t 41) (u9I 3)) 39,
 oO 43 (.pick (.t 39) (u9B true) (.t 42)),
 oM 44 43,
 u9G 45 (.faddr 55 (.t 1) 0) 44,
 u9G 46 (.iload 2 (.t 45)) 44,
 u9G 47 (.iaddr 64 (.t 4) (.t 46)) 44,
 u9G 48 (.load 7 (.t 47)) 44,
 u9G 49 (.un .not (.t 48)) 44,
 oO 50 (.pick (.t 44) (u9B true) (.t 49))])
(.cond (.t 50) (.seq (rg [oO 2 (.assign (u9I 0)),
 oO 3 (.assign (u9B false))])
(.ret)) (.skip)))
(.seq (.seq (rg [oF 51 55 1 0,
 oO 52 (.iload 2 (.t 51)),
 oO 53 (.bin .lss 2 (.t 52) (u9I 3))])
(.cond (.t 53) (.seq (rg [oO 2 (.assign (u9I 0)),
 oO 3 (.assign (u9B true))])
(.ret)) (.skip)))
(.seq (.seq (rg [oF 54 55 1 3,
 oO 55 (.iload 56 (.t 54)),
 oN 56 56 55,
 oO 57 (.move (u9I 0))])
(.block 0 (.loop (.seq (rg [oO 58 (.bin .lss 2 (.t 57) (.t 56))])
(.seq (.cond (.t 58) (.skip) (.exit 0))
(.seq (.block 1 (.seq (rg [oI 59 56 55 57,
 oL 60 55 59,
 oO 6 (.alloc 55),
 oE (.store 55 (.t 6) (.t 60))])
(.seq (rg [oL 62 55 6,
 oO 63 (.call 0 (.f 297) [(.t 62)]),
 oM 61 63,
 oO 64 (.extract (.t 61) 0),
 oO 65 (.extract (.t 61) 1),
 oA 7 64,
 oA 8 65])
(.seq (.seq (rg [oM 66 8,
 oO 67 (.un .not (.t 66))])
(.cond (.t 67) (.seq (rg [oO 2 (.assign (u9I 0)),
 oO 3 (.assign (u9B false))])
(.ret)) (.skip)))
(rg [oM 68 2,
 oM 69 7,
 oO 70 (.maxi [(.t 68),(.t 69)]),
 oA 2 70])))))
(rg [oO 71 (.bin .add 2 (.t 57) (u9I 1)),
 oM 57 71])))))))
(.seq (rg [oM 72 2,
 oO 73 (.bin .add 2 (.t 72) (u9I 1)),
 oA 2 73,
 oO 3 (.assign (u9B true))])
(.ret))))))⟩

def f298:DFn := ⟨12,[.tmp 4],
 .seq (rg [oO 3 (.ibox 55 (.t 1)),
 oO 4 (.assign (.c (.imm .exact [])))])
(.seq (.region true [] [
 oM 5 0,
 oO 6 (.bslice false 30 1 [(0,(.c (.int .u8 1)))]),
 oO 7 (.append 0 30 30 (.t 5) (.t 6)),
 oF 8 55 3 1,
 oO 9 (.iload 2 (.t 8)),
 oO 10 (.call 0 (.f 311) [(.t 9)]),
 oO 11 (.call 2 (.f 312) [(.t 7),(.t 10)]),
 oA 4 11])
(.ret))⟩

def f299:DFn := ⟨16,[.tmp 4],
 .seq (rg [oO 3 (.ibox 55 (.t 1)),
 oO 4 (.assign (.c (.imm .exact [])))])
(.seq (.region true [] [
 oM 5 0,
 oO 6 (.bslice false 30 1 [(0,(.c (.int .u8 2)))]),
 oO 7 (.append 0 30 30 (.t 5) (.t 6)),
 oF 8 55 3 2,
 oO 9 (.iload 53 (.t 8)),
 oN 10 53 9,
 oO 11 (.conv 2 63 (.t 10)),
 oO 12 (.call 2 (.f 312) [(.t 7),(.t 11)]),
 oF 13 55 3 2,
 oO 14 (.iload 53 (.t 13)),
 oO 15 (.append 0 30 53 (.t 12) (.t 14)),
 oA 4 15])
(.ret))⟩

def f300:DFn := ⟨35,[.tmp 5],
 .seq (rg [oO 4 (.ibox 55 (.t 1)),
 oO 5 (.assign (.c (.imm .exact [])))])
(.seq (.region true [] [
 oM 8 0,
 oO 9 (.bslice false 30 1 [(0,(.c (.int .u8 3)))]),
 oO 10 (.append 0 30 30 (.t 8) (.t 9)),
 oF 11 55 4 3,
 oO 12 (.iload 56 (.t 11)),
 oN 13 56 12,
 oO 14 (.conv 2 63 (.t 13)),
 oO 15 (.call 2 (.f 312) [(.t 10),(.t 14)]),
 oA 0 15])
(.seq (.seq (rg [oF 16 55 4 3,
 oO 17 (.iload 56 (.t 16)),
 oN 18 56 17,
 oO 19 (.move (u9I 0))])
(.block 0 (.loop (.seq (rg [oO 20 (.bin .lss 2 (.t 19) (.t 18))])
(.seq (.cond (.t 20) (.skip) (.exit 0))
(.seq (.block 1 (.seq (rg [oI 21 56 17 19,
 oL 22 55 21,
 oO 7 (.alloc 55),
 oE (.store 55 (.t 7) (.t 22))])
(.region true [] [
 oL 23 62 2,
 oF 24 55 7 0,
 oL 25 2 24,
 oO 26 (.nilc (.t 23)),
 oI 27 57 26 25,
 oF 28 58 27 0,
 oL 29 59 28,
 oM 30 0,
 oL 31 55 7,
 oO 32 (.call 2 (.t 29) [(.t 30),(.t 31)]),
 oA 0 32])))
(rg [oO 33 (.bin .add 2 (.t 19) (u9I 1)),
 oM 19 33])))))))
(.seq (rg [oM 34 0,
 oA 5 34])
(.ret))))⟩

def f301:DFn := ⟨52,[.tmp 2],
 .seq (rg [oO 1 (.ibox 55 (.t 0)),
 oO 2 (.assign (u9B false))])
(.seq (.seq (rg [oF 4 55 1 0,
 oO 5 (.iload 2 (.t 4))])
(.block 0 (.seq (rg [oO 7 (.bin .eql 2 (.t 5) (u9I 1)),
 oA 6 7])
(.cond (.t 6) (.seq (rg [oF 8 55 1 2,
 oO 9 (.iload 53 (.t 8)),
 oO 10 (.bin .eql 53 (.t 9) (.c (.str []))),
 oM 11 10,
⟨(some 12),.faddr 55 (.t 1) 3,(some (11,true))⟩,
⟨(some 13),.iload 56 (.t 12),(some (11,true))⟩,
⟨(some 14),.len 56 (.t 13),(some (11,true))⟩,
⟨(some 15),.bin .eql 2 (.t 14) (u9I 0),(some (11,true))⟩,
 oO 16 (.pick (.t 11) (.t 15) (u9B false)),
 oA 2 16])
(.ret)) (.seq (rg [oO 18 (.bin .eql 2 (.t 5) (u9I 2)),
 oA 17 18])
(.cond (.t 17) (.seq (rg [oF 19 55 1 1,
 oO 20 (.iload 2 (.t 19)),
 oO 21 (.bin .eql 2 (.t 20) (u9I 0)),
 oM 22 21,
⟨(some 23),.faddr 55 (.t 1) 3,(some (22,true))⟩,
⟨(some 24),.iload 56 (.t 23),(some (22,true))⟩,
⟨(some 25),.len 56 (.t 24),(some (22,true))⟩,
⟨(some 26),.bin .eql 2 (.t 25) (u9I 0),(some (22,true))⟩,
 oO 27 (.pick (.t 22) (.t 26) (u9B false)),
 oA 2 27])
(.ret)) (.seq (rg [oO 29 (.bin .eql 2 (.t 5) (u9I 3)),
 oA 28 29])
(.cond (.t 28) (.seq (.seq (rg [oO 3 (.assign (u9I 0))])
(.block 1 (.loop (.seq (.seq (rg [oM 30 3,
 oF 31 55 1 3,
 oO 32 (.iload 56 (.t 31)),
 oN 33 56 32,
 oO 34 (.bin .lss 2 (.t 30) (.t 33))])
(.cond (.t 34) (.skip) (.exit 1)))
(.seq (.block 2 (.seq (rg [oF 37 55 1 3,
 oO 38 (.iload 56 (.t 37)),
 oM 39 3,
 oI 40 56 38 39,
 oL 41 55 40,
 oO 42 (.call 0 (.f 301) [(.t 41)]),
 oO 43 (.un .not (.t 42))])
(.cond (.t 43) (.seq (rg [oO 2 (.assign (u9B false))])
(.ret)) (.skip))))
(rg [oM 35 3,
 oO 36 (.bin .add 2 (.t 35) (u9I 1)),
 oA 3 36]))))))
(.seq (rg [oF 44 55 1 1,
 oO 45 (.iload 2 (.t 44)),
 oO 46 (.bin .eql 2 (.t 45) (u9I 0)),
 oM 47 46,
⟨(some 48),.faddr 55 (.t 1) 2,(some (47,true))⟩,
⟨(some 49),.iload 53 (.t 48),(some (47,true))⟩,
⟨(some 50),.bin .eql 53 (.t 49) (.c (.str [])),(some (47,true))⟩,
 oO 51 (.pick (.t 47) (.t 50) (u9B false)),
 oA 2 51])
(.ret))) (.skip)))))))))
(.seq (rg [oO 2 (.assign (u9B false))])
(.ret)))⟩

def f302:DFn := ⟨25,[.tmp 2],
 .seq (rg [oO 1 (.ibox 55 (.t 0)),
 oO 2 (.assign (u9I 0))])
(.seq (.seq (rg [oF 5 55 1 0,
 oO 6 (.iload 2 (.t 5)),
 oO 7 (.bin .neq 2 (.t 6) (u9I 3))])
(.cond (.t 7) (.seq (rg [oO 2 (.assign (u9I 0))])
(.ret)) (.skip)))
(.seq (rg [oO 3 (.assign (u9I 0))])
(.seq (.seq (rg [oO 4 (.assign (u9I 0))])
(.block 0 (.loop (.seq (.seq (rg [oM 8 4,
 oF 9 55 1 3,
 oO 10 (.iload 56 (.t 9)),
 oN 11 56 10,
 oO 12 (.bin .lss 2 (.t 8) (.t 11))])
(.cond (.t 12) (.skip) (.exit 0)))
(.seq (.block 1 (rg [oM 15 3,
 oF 16 55 1 3,
 oO 17 (.iload 56 (.t 16)),
 oM 18 4,
 oI 19 56 17 18,
 oL 20 55 19,
 oO 21 (.call 0 (.f 302) [(.t 20)]),
 oO 22 (.maxi [(.t 15),(.t 21)]),
 oA 3 22]))
(rg [oM 13 4,
 oO 14 (.bin .add 2 (.t 13) (u9I 1)),
 oA 4 14]))))))
(.seq (rg [oM 23 3,
 oO 24 (.bin .add 2 (.t 23) (u9I 1)),
 oA 2 24])
(.ret)))))⟩

def f303:DFn := ⟨14,[.tmp 2],
 .seq (rg [oO 2 (.assign (.c (.int .u64 0)))])
(.seq (.seq (rg [oM 3 0,
 oO 4 (.bin .geq 2 (.t 3) (u9I 0))])
(.cond (.t 4) (.seq (rg [oM 5 0,
 oO 6 (.conv 2 63 (.t 5)),
 oO 7 (.bin .mul 63 (.c (.int .u64 2)) (.t 6)),
 oA 2 7])
(.ret)) (.skip)))
(.seq (rg [oM 8 0,
 oO 9 (.bin .add 2 (.t 8) (u9I 1)),
 oO 10 (.un .neg (.t 9)),
 oO 11 (.conv 2 63 (.t 10)),
 oO 12 (.bin .mul 63 (.c (.int .u64 2)) (.t 11)),
 oO 13 (.bin .add 63 (.t 12) (.c (.int .u64 1))),
 oA 2 13])
(.ret)))⟩

def f304:DFn := ⟨17,[.tmp 2],
 .seq (rg [oO 2 (.assign (.c (.imm .exact [])))])
(.seq (.seq (rg [oM 3 0,
 oO 4 (.bin .lss 63 (.t 3) (.c (.int .u64 128)))])
(.cond (.t 4) (.seq (rg [oM 5 0,
 oO 6 (.conv 63 13 (.t 5)),
 oO 7 (.bslice false 30 1 [(0,(.t 6))]),
 oA 2 7])
(.ret)) (.skip)))
(.seq (rg [oM 8 0,
 oO 9 (.bin .rem 63 (.t 8) (.c (.int .u64 128))),
 oO 10 (.bin .add 63 (.t 9) (.c (.int .u64 128))),
 oO 11 (.conv 63 13 (.t 10)),
 oO 12 (.bslice false 30 1 [(0,(.t 11))]),
 oM 13 0,
 oO 14 (.bin .quo 63 (.t 13) (.c (.int .u64 128))),
 oO 15 (.call 0 (.f 304) [(.t 14)]),
 oO 16 (.append 0 30 30 (.t 12) (.t 15)),
 oA 2 16])
(.ret)))⟩

def f305:DFn := ⟨32,[.tmp 4],
 .seq (rg [oO 4 (.assign (.c (.imm .exact [])))])
(.seq (.seq (rg [oM 6 0,
 oM 7 1,
 oM 8 0,
 oO 9 (.nilc (.t 8)),
 oF 10 60 9 0,
 oL 11 30 10,
 oN 12 30 11,
 oO 13 (.bin .leq 2 (.t 7) (.t 12)),
 oO 14 (.call 6 (.f 292) [(.t 6),(.t 13)])])
(.ifp (.t 14) (.exit 1000014) (rg [     ])))
(.seq (rg [oM 15 0,
 oO 16 (.nilc (.t 15)),
 oF 17 60 16 0,
 oL 18 30 17,
 oM 19 1,
 oM 20 1,
 oO 21 (.slice 30 (.t 18) none (some (.t 19)) (some (.t 20))),
 oA 5 21])
(.seq (rg [oM 22 0,
 oM 23 0,
 oO 24 (.nilc (.t 23)),
 oF 25 60 24 0,
 oL 26 30 25,
 oM 27 1,
 oO 28 (.slice 30 (.t 26) (some (.t 27)) none none),
 oO 29 (.nilc (.t 22)),
 oF 30 60 29 0,
 oE (.store 30 (.t 30) (.t 28))])
(.seq (rg [oM 31 5,
 oA 4 31])
(.ret)))))⟩

def f306:DFn := ⟨38,[.tmp 2],
 .seq (rg [oO 2 (.assign (.c (.int .u64 0)))])
(.seq (rg [oO 3 (.assign (u9I 0))])
(.block 0 (.loop (.seq (.block 1 (.seq (.seq (rg [oM 7 0,
 oO 8 (.call 6 (.f 305) [(.t 7),(u9I 1)])])
(.ifp (.t 8) (.exit 1000008) (rg [oO 9 (.iaddr 30 (.t 8) (u9I 0)),
 oL 10 13 9,
 oA 4 10])))
(.seq (.seq (rg [oM 11 0,
 oM 12 3,
 oO 13 (.bin .eql 2 (.t 12) (u9I 0)),
 oM 14 13,
 u9G 15 (.move (.t 4)) 14,
 u9G 16 (.bin .neq 13 (.t 15) (.c (.int .u8 0))) 14,
 oO 17 (.pick (.t 14) (u9B true) (.t 16)),
 oM 18 17,
⟨(some 19),.move (.t 3),(some (18,true))⟩,
⟨(some 20),.bin .lss 2 (.t 19) (u9I 9),(some (18,true))⟩,
⟨(some 21),.move (.t 20),(some (18,true))⟩,
 u9G 22 (.move (.t 4)) 21,
 u9G 23 (.bin .leq 13 (.t 22) (.c (.int .u8 1))) 21,
⟨(some 24),.pick (.t 21) (u9B true) (.t 23),(some (18,true))⟩,
 oO 25 (.pick (.t 18) (.t 24) (u9B false)),
 oO 26 (.call 6 (.f 292) [(.t 11),(.t 25)])])
(.ifp (.t 26) (.exit 1000026) (rg [     ])))
(.seq (rg [oM 27 2,
 oM 28 4,
 oO 29 (.bin .and 13 (.t 28) (.c (.int .u8 127))),
 oO 30 (.conv 13 63 (.t 29)),
 oM 31 3,
 oO 32 (.bin .mul 2 (u9I 7) (.t 31)),
 oO 33 (.bin .shl 63 (.t 30) (.t 32)),
 oO 34 (.bin .or 63 (.t 27) (.t 33)),
 oA 2 34])
(.seq (rg [oM 35 4,
 oO 36 (.bin .lss 13 (.t 35) (.c (.int .u8 128)))])
(.cond (.t 36) (.seq (rg [oM 37 2,
 oA 2 37])
(.ret)) (.skip)))))))
(rg [oM 5 3,
 oO 6 (.bin .add 2 (.t 5) (u9I 1)),
 oA 3 6])))))⟩

def f307:DFn := ⟨11,[.tmp 2],
 .seq (rg [oO 2 (.assign (u9I 0))])
(.seq (rg [oM 3 0,
 oO 4 (.bin .shr 63 (.t 3) (.c (.int .u64 1))),
 oO 5 (.conv 63 2 (.t 4)),
 oM 6 0,
 oO 7 (.bin .and 63 (.t 6) (.c (.int .u64 1))),
 oO 8 (.conv 63 2 (.t 7)),
 oO 9 (.un .neg (.t 8)),
 oO 10 (.bin .xor 2 (.t 5) (.t 9)),
 oA 2 10])
(.ret))⟩

def f308:DFn := ⟨18,[.tmp 2],
 .seq (rg [oO 2 (.assign (u9I 0))])
(.seq (.seq (rg [oM 4 0,
 oO 5 (.call 6 (.f 306) [(.t 4)])])
(.ifp (.t 5) (.exit 1000005) (rg [oA 3 5])))
(.seq (.seq (rg [oM 6 0,
 oM 7 3,
 oM 8 0,
 oO 9 (.nilc (.t 8)),
 oF 10 60 9 0,
 oL 11 30 10,
 oN 12 30 11,
 oO 13 (.conv 2 63 (.t 12)),
 oO 14 (.bin .leq 63 (.t 7) (.t 13)),
 oO 15 (.call 6 (.f 292) [(.t 6),(.t 14)])])
(.ifp (.t 15) (.exit 1000015) (rg [     ])))
(.seq (rg [oM 16 3,
 oO 17 (.conv 63 2 (.t 16)),
 oA 2 17])
(.ret))))⟩

def f309:DFn := ⟨34,[.tmp 2],
 .seq (rg [oO 2 (.assign (.c (.int .u8 0)))])
(.seq (.seq (.region true [] [
 oM 3 0,
 oO 4 (.nilc (.t 3)),
 oF 5 61 4 1,
 oL 6 2 5,
 oM 7 0,
 oO 8 (.nilc (.t 7)),
 oF 9 61 8 0,
 oL 10 30 9,
 oN 11 30 10,
 oO 12 (.bin .geq 2 (.t 6) (.t 11))])
(.cond (.t 12) (.seq (rg [oM 13 0,
 oO 14 (.nilc (.t 13)),
 oF 15 61 14 2,
 oE (.store 7 (.t 15) (u9B true))])
(.seq (rg [oO 2 (.assign (.c (.int .u8 0)))])
(.ret))) (.skip)))
(.seq (rg [oM 16 0,
 oO 17 (.nilc (.t 16)),
 oF 18 61 17 1,
 oL 19 2 18,
 oO 20 (.bin .add 2 (.t 19) (u9I 1)),
 oO 21 (.nilc (.t 16)),
 oF 22 61 21 1,
 oE (.store 2 (.t 22) (.t 20))])
(.seq (.region true [] [
 oM 23 0,
 oO 24 (.nilc (.t 23)),
 oF 25 61 24 0,
 oL 26 30 25,
 oM 27 0,
 oO 28 (.nilc (.t 27)),
 oF 29 61 28 1,
 oL 30 2 29,
 oO 31 (.bin .sub 2 (.t 30) (u9I 1)),
 oI 32 30 26 31,
 oL 33 13 32,
 oA 2 33])
(.ret))))⟩

def f310:DFn := ⟨43,[.tmp 2],
 .seq (rg [oO 2 (.assign (.c (.int .u64 0)))])
(.seq (rg [oO 3 (.assign (.c (.int .u64 0)))])
(.seq (.seq (rg [oO 4 (.assign (u9I 0))])
(.block 0 (.loop (.seq (.seq (rg [oM 6 0,
 oO 7 (.nilc (.t 6)),
 oF 8 61 7 2,
 oL 9 7 8,
 oO 10 (.un .not (.t 9))])
(.cond (.t 10) (.skip) (.exit 0)))
(.seq (.block 1 (.seq (rg [oM 13 0,
 oO 14 (.call 2 (.f 309) [(.t 13)]),
 oA 5 14])
(.seq (.seq (rg [oM 15 4,
 oO 16 (.bin .eql 2 (.t 15) (u9I 9)),
 oM 17 16,
⟨(some 18),.move (.t 5),(some (17,true))⟩,
⟨(some 19),.bin .gtr 13 (.t 18) (.c (.int .u8 1)),(some (17,true))⟩,
 oO 20 (.pick (.t 17) (.t 19) (u9B false)),
 oM 21 20,
 u9G 22 (.move (.t 4)) 21,
 u9G 23 (.bin .gtr 2 (.t 22) (u9I 0)) 21,
 u9G 24 (.move (.t 23)) 21,
⟨(some 25),.move (.t 5),(some (24,true))⟩,
⟨(some 26),.bin .eql 13 (.t 25) (.c (.int .u8 0)),(some (24,true))⟩,
 u9G 27 (.pick (.t 24) (.t 26) (u9B false)) 21,
 oO 28 (.pick (.t 21) (u9B true) (.t 27))])
(.cond (.t 28) (.seq (rg [oM 29 0,
 oO 30 (.nilc (.t 29)),
 oF 31 61 30 2,
 oE (.store 7 (.t 31) (u9B true))])
(.seq (rg [oO 2 (.assign (.c (.int .u64 0)))])
(.ret))) (.skip)))
(.seq (rg [oM 32 3,
 oM 33 5,
 oO 34 (.bin .rem 13 (.t 33) (.c (.int .u8 128))),
 oO 35 (.conv 13 63 (.t 34)),
 oM 36 4,
 oO 37 (.bin .mul 2 (u9I 7) (.t 36)),
 oO 38 (.bin .shl 63 (.t 35) (.t 37)),
 oO 39 (.bin .add 63 (.t 32) (.t 38)),
 oA 3 39])
(.seq (rg [oM 40 5,
 oO 41 (.bin .lss 13 (.t 40) (.c (.int .u8 128)))])
(.cond (.t 41) (.seq (rg [oM 42 3,
 oA 2 42])
(.ret)) (.skip)))))))
(rg [oM 11 4,
 oO 12 (.bin .add 2 (.t 11) (u9I 1)),
 oA 4 12]))))))
(.seq (rg [oO 2 (.assign (.c (.int .u64 0)))])
(.ret))))⟩

def f311:DFn := ⟨10,[.tmp 2],
 .seq (rg [oO 2 (.assign (.c (.int .u64 0)))])
(.seq (rg [oM 3 0,
 oO 4 (.conv 2 63 (.t 3)),
 oO 5 (.bin .shl 63 (.t 4) (.c (.int .u64 1))),
 oM 6 0,
 oO 7 (.bin .shr 2 (.t 6) (.c (.int .u64 63))),
 oO 8 (.conv 2 63 (.t 7)),
 oO 9 (.bin .xor 63 (.t 5) (.t 8)),
 oA 2 9])
(.ret))⟩

def f312:DFn := ⟨20,[.tmp 4],
 .seq (rg [oO 4 (.assign (.c (.imm .exact [])))])
(.seq (.block 0 (.loop (.seq (.seq (rg [oM 5 1,
 oO 6 (.bin .geq 63 (.t 5) (.c (.int .u64 128)))])
(.cond (.t 6) (.skip) (.exit 0)))
(.seq (.block 1 (rg [oM 9 0,
 oM 10 1,
 oO 11 (.conv 63 13 (.t 10)),
 oO 12 (.bin .or 13 (.t 11) (.c (.int .u8 128))),
 oO 13 (.bslice false 30 1 [(0,(.t 12))]),
 oO 14 (.append 0 30 30 (.t 9) (.t 13)),
 oA 0 14]))
(rg [oM 7 1,
 oO 8 (.bin .shr 63 (.t 7) (.c (.int .u64 7))),
 oA 1 8])))))
(.seq (rg [oM 15 0,
 oM 16 1,
 oO 17 (.conv 63 13 (.t 16)),
 oO 18 (.bslice false 30 1 [(0,(.t 17))]),
 oO 19 (.append 0 30 30 (.t 15) (.t 18)),
 oA 4 19])
(.ret)))⟩

def tyTab:Nat->TI
 | 0 => ⟨.struct [(0,10),(1,9),(2,14)],3,72,[(.imm .exact []),(.imm .exact []),(.imm .exact [])],false⟩
 | 1 => ⟨.slice 2,1,24,[(.imm .exact [])],false⟩
 | 2 => ⟨.int .i64,1,8,[(.int .i64 0)],false⟩
 | 3 => ⟨.int .i64,1,8,[(.int .i64 0)],false⟩
 | 4 => ⟨.slice 1,1,24,[(.imm .exact [])],false⟩
 | 6 => ⟨.slice 2,1,24,[(.imm .exact [])],false⟩
 | 7 => ⟨.bool,1,1,[(.bool false)],false⟩
 | 9 => ⟨.slice 6,1,24,[(.imm .exact [])],false⟩
 | 10 => ⟨.slice 20,1,24,[(.imm .exact [])],false⟩
 | 11 => ⟨.struct [(0,2),(1,2)],2,16,[(.int .i64 0),(.int .i64 0)],true⟩
 | 12 => ⟨.int .u64,1,8,[(.int .u64 0)],false⟩
 | 13 => ⟨.int .u8,1,1,[(.int .u8 0)],false⟩
 | 14 => ⟨.slice 15,1,24,[(.imm .exact [])],false⟩
 | 15 => ⟨.struct [(0,2),(1,2),(2,6),(3,16)],4,64,[(.int .i64 0),(.int .i64 0),(.imm .exact []),(.imm .exact [])],false⟩
 | 16 => ⟨.slice 17,1,24,[(.imm .exact [])],false⟩
 | 17 => ⟨.struct [(0,2),(1,2),(2,2),(3,18)],4,48,[(.int .i64 0),(.int .i64 0),(.int .i64 0),(.imm .exact [])],false⟩
 | 18 => ⟨.slice 19,1,24,[(.imm .exact [])],false⟩
 | 19 => ⟨.struct [(0,20),(3,2)],4,32,[(.bool false),(.int .i64 0),(.int .i64 0),(.int .i64 0)],true⟩
 | 20 => ⟨.struct [(0,7),(1,2),(2,2)],3,24,[(.bool false),(.int .i64 0),(.int .i64 0)],true⟩
 | 21 => ⟨.map 20 7,1,8,[(.map none)],false⟩
 | 22 => ⟨.arr 4 2,4,32,[(.int .i64 0),(.int .i64 0),(.int .i64 0),(.int .i64 0)],true⟩
 | 23 => ⟨.arr 2 6,2,48,[(.imm .exact []),(.imm .exact [])],false⟩
 | 24 => ⟨.slice 23,1,24,[(.imm .exact [])],false⟩
 | 25 => ⟨.struct [(0,0),(3,1),(4,2),(5,9)],6,128,[(.imm .exact []),(.imm .exact []),(.imm .exact []),(.imm .exact []),(.int .i64 0),(.imm .exact [])],false⟩
 | 26 => ⟨.map 20 2,1,8,[(.map none)],false⟩
 | 27 => ⟨.func,1,8,[.nilfn],false⟩
 | 29 => ⟨.struct [(0,6),(1,6),(2,31)],3,72,[(.imm .exact []),(.imm .exact []),(.imm .exact [])],false⟩
 | 30 => ⟨.slice 13,1,24,[(.imm .exact [])],false⟩
 | 31 => ⟨.slice 32,1,24,[(.imm .exact [])],false⟩
 | 32 => ⟨.struct [(0,1),(1,2),(2,9)],3,56,[(.imm .exact []),(.int .i64 0),(.imm .exact [])],false⟩
 | 44 => ⟨.struct [(0,3)],1,8,[(.int .i64 0)],true⟩
 | 47 => ⟨.func,1,8,[.nilfn],false⟩
 | 48 => ⟨.struct [(0,49)],4,32,[.nilfn,.nilfn,.nilfn,.nilfn],false⟩
 | 49 => ⟨.arr 4 50,4,32,[.nilfn,.nilfn,.nilfn,.nilfn],false⟩
 | 50 => ⟨.func,1,8,[.nilfn],false⟩
 | 51 => ⟨.struct [(0,0),(3,6),(4,6)],5,120,[(.imm .exact []),(.imm .exact []),(.imm .exact []),(.imm .exact []),(.imm .exact [])],false⟩
 | 52 => ⟨.slice 4,1,24,[(.imm .exact [])],false⟩
 | 53 => ⟨.str,1,16,[(.str [])],false⟩
 | 55 => ⟨.struct [(0,2),(1,2),(2,53),(3,56)],4,56,[(.int .i64 0),(.int .i64 0),(.str []),(.imm .exact [])],false⟩
 | 56 => ⟨.slice 55,1,24,[(.imm .exact [])],false⟩
 | 57 => ⟨.arr 4 58,4,32,[.nilfn,.nilfn,.nilfn,.nilfn],false⟩
 | 58 => ⟨.struct [(0,59)],1,8,[.nilfn],false⟩
 | 59 => ⟨.func,1,8,[.nilfn],false⟩
 | 60 => ⟨.struct [(0,30)],1,24,[(.imm .exact [])],false⟩
 | 61 => ⟨.struct [(0,30),(1,2),(2,7)],3,40,[(.imm .exact []),(.int .i64 0),(.bool false)],false⟩
 | 62 => ⟨.ptr 57,1,8,[.nilp],false⟩
 | 63 => ⟨.int .u64,1,8,[(.int .u64 0)],false⟩
 | 64 => ⟨.arr 4 7,4,4,[(.bool false),(.bool false),(.bool false),(.bool false)],true⟩
 | _ => ⟨.other,0,0,[],false⟩

def fnTab:Nat->Option DFn
 | 3 => some f3
 | 9 => some f9
 | 14 => some f14
 | 15 => some f15
 | 20 => some f20
 | 22 => some f22
 | 24 => some f24
 | 30 => some f30
 | 37 => some f37
 | 39 => some f39
 | 41 => some f41
 | 62 => some f62
 | 63 => some f63
 | 66 => some f66
 | 67 => some f67
 | 68 => some f68
 | 69 => some f69
 | 70 => some f70
 | 71 => some f71
 | 72 => some f72
 | 73 => some f73
 | 74 => some f74
 | 75 => some f75
 | 76 => some f76
 | 83 => some f83
 | 84 => some f84
 | 87 => some f87
 | 89 => some f89
 | 90 => some f90
 | 93 => some f93
 | 94 => some f94
 | 97 => some f97
 | 98 => some f98
 | 102 => some f102
 | 104 => some f104
 | 105 => some f105
 | 106 => some f106
 | 107 => some f107
 | 110 => some f110
 | 112 => some f112
 | 113 => some f113
 | 114 => some f114
 | 115 => some f115
 | 116 => some f116
 | 117 => some f117
 | 118 => some f118
 | 122 => some f122
 | 123 => some f123
 | 124 => some f124
 | 125 => some f125
 | 159 => some f159
 | 162 => some f162
 | 173 => some f173
 | 213 => some f213
 | 216 => some f216
 | 223 => some f223
 | 228 => some f228
 | 229 => some f229
 | 230 => some f230
 | 231 => some f231
 | 237 => some f237
 | 238 => some f238
 | 240 => some f240
 | 241 => some f241
 | 242 => some f242
 | 243 => some f243
 | 245 => some f245
 | 246 => some f246
 | 248 => some f248
 | 251 => some f251
 | 252 => some f252
 | 253 => some f253
 | 254 => some f254
 | 255 => some f255
 | 256 => some f256
 | 263 => some f263
 | 264 => some f264
 | 266 => some f266
 | 267 => some f267
 | 268 => some f268
 | 269 => some f269
 | 270 => some f270
 | 272 => some f272
 | 273 => some f273
 | 274 => some f274
 | 275 => some f275
 | 276 => some f276
 | 277 => some f277
 | 278 => some f278
 | 279 => some f279
 | 280 => some f280
 | 281 => some f281
 | 282 => some f282
 | 283 => some f283
 | 284 => some f284
 | 285 => some f285
 | 286 => some f286
 | 287 => some f287
 | 288 => some f288
 | 289 => some f289
 | 291 => some f291
 | 292 => some f292
 | 293 => some f293
 | 294 => some f294
 | 295 => some f295
 | 296 => some f296
 | 297 => some f297
 | 298 => some f298
 | 299 => some f299
 | 300 => some f300
 | 301 => some f301
 | 302 => some f302
 | 303 => some f303
 | 304 => some f304
 | 305 => some f305
 | 306 => some f306
 | 307 => some f307
 | 308 => some f308
 | 309 => some f309
 | 310 => some f310
 | 311 => some f311
 | 312 => some f312
 | _ => none

def keepTab:Nat->Bool
 | _ => false

def mpTab:Nat->Bool
 | 228 => true
 | 229 => true
 | 241 => true
 | 242 => true
 | 243 => true
 | 246 => true
 | 273 => true
 | 274 => true
 | 275 => true
 | 276 => true
 | 291 => true
 | 292 => true
 | 293 => true
 | 294 => true
 | 295 => true
 | 305 => true
 | 306 => true
 | 308 => true
 | _ => false

def E:Env := ⟨tyTab,fnTab,keepTab,mpTab,primTab⟩

end Dv
