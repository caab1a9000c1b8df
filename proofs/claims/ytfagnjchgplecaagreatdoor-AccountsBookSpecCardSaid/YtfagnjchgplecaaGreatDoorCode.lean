/- Texts that a proof of this claim uses, joined: Dv.Code. -/
import Derived.Test.YtfagnjchgplecaaGreatDoorDva
set_option linter.all false
namespace Dv
open Go (IntKind BinOp UnOp)

abbrev oO(n:Nat)(x:DOp):y1a := ⟨some n,x,none⟩
abbrev oE(x:DOp):y1a := ⟨none,x,none⟩
abbrev oM(n k:Nat):y1a := ⟨some n,.move (.t k),none⟩
abbrev u9I(k:Int):Opd := .c (.int .i64 k)
abbrev u9B(k:Bool):Opd := .c (.bool k)
abbrev u9G(n:Nat)(x:DOp)(k:Nat):y1a := ⟨some n,x,some (k,false)⟩
abbrev oL(n t a:Nat):y1a := ⟨some n,.load t (.t a),none⟩
abbrev oF(n t a k:Nat):y1a := ⟨some n,.faddr t (.t a) k,none⟩
abbrev oI(n t a b:Nat):y1a := ⟨some n,.iaddr t (.t a) (.t b),none⟩
abbrev oN(n t a:Nat):y1a := ⟨some n,.len t (.t a),none⟩
abbrev oA(n a:Nat):y1a := ⟨some n,.assign (.t a),none⟩
abbrev rg(l:List y1a):DC := .region false [] l
def f15:DFn := ⟨173,[.tmp 2],
 .seq (rg [oO 1 (.box 0 (.t 0)),
 oO 2 (.assign (u9I 0))])
(.seq (.seq (rg [oF 15 0 1 0,
 oL 16 10 15,
 oN 17 10 16,
 oO 18 (.bin .gtr 2 (.t 17) (u9I 4096)),
 oM 19 18,
 u9G 20 (.faddr 0 (.t 1) 1) 19,
 u9G 21 (.load 9 (.t 20)) 19,
 u9G 22 (.len 9 (.t 21)) 19,
 u9G 23 (.call 0 (.f 67) [(.t 22),(u9I 1),(u9I 32)]) 19,
 u9G 24 (.un .not (.t 23)) 19,
 oO 25 (.pick (.t 19) (u9B true) (.t 24)),
 oM 26 25,
 u9G 27 (.faddr 0 (.t 1) 2) 26,
 u9G 28 (.load 14 (.t 27)) 26,
 u9G 29 (.len 14 (.t 28)) 26,
 u9G 30 (.bin .gtr 2 (.t 29) (u9I 64)) 26,
 oO 31 (.pick (.t 26) (u9B true) (.t 30)),
 oM 32 31,
 u9G 33 (.faddr 0 (.t 1) 0) 32,
 u9G 34 (.load 10 (.t 33)) 32,
 u9G 35 (.call 0 (.f 69) [(.t 34),(.f 70)]) 32,
 u9G 36 (.un .not (.t 35)) 32,
 oO 37 (.pick (.t 32) (u9B true) (.t 36))])
(.cond (.t 37) (.seq (rg [oO 2 (.assign (u9I 270))])
(.ret)) (.skip)))
(.seq (rg [oO 38 (.mkmap 21),
 oA 3 38])
(.seq (.seq (rg [oF 39 0 1 0,
 oL 40 10 39,
 oN 41 10 40,
 oO 42 (.move (u9I 0))])
(.block 0 (.loop (.seq (rg [oO 43 (.bin .lss 2 (.t 42) (.t 41))])
(.seq (.cond (.t 43) (.skip) (.exit 0))
(.seq (.block 1 (.seq (rg [oI 44 10 40 42,
 oL 45 20 44,
 oO 5 (.alloc 20),
 oE (.store 20 (.t 5) (.t 45))])
(.seq (.seq (rg [oF 46 20 5 1,
 oL 47 2 46,
 oO 48 (.bin .lss 2 (.t 47) (u9I 0)),
 oM 49 48,
 u9G 50 (.faddr 20 (.t 5) 2) 49,
 u9G 51 (.load 2 (.t 50)) 49,
 u9G 52 (.bin .lss 2 (.t 51) (u9I 0)) 49,
 oO 53 (.pick (.t 49) (u9B true) (.t 52))])
(.cond (.t 53) (.seq (rg [oO 2 (.assign (u9I 270))])
(.ret)) (.skip)))
(rg [oM 54 3,
 oL 55 20 5,
 oE (.mapset 21 (.t 54) (.t 55) (u9B true))]))))
(rg [oO 56 (.bin .add 2 (.t 42) (u9I 1)),
 oM 42 56])))))))
(.seq (.seq (rg [oF 57 0 1 1,
 oL 58 9 57,
 oN 59 9 58,
 oO 60 (.move (u9I 0))])
(.block 2 (.loop (.seq (rg [oO 61 (.bin .lss 2 (.t 60) (.t 59))])
(.seq (.cond (.t 61) (.skip) (.exit 2))
(.seq (.block 3 (.seq (rg [oI 62 9 58 60,
 oL 63 6 62,
 oA 7 63])
(.seq (rg [oM 64 7,
 oN 65 6 64,
 oF 66 0 1 0,
 oL 67 10 66,
 oN 68 10 67,
 oO 69 (.bin .neq 2 (.t 65) (.t 68)),
 oM 70 69,
 u9G 71 (.move (.t 7)) 70,
 u9G 72 (.call 0 (.f 71) [(.t 71),(.f 72)]) 70,
 oO 73 (.pick (.t 70) (u9B true) (.t 72))])
(.cond (.t 73) (.seq (rg [oO 2 (.assign (u9I 270))])
(.ret)) (.skip)))))
(rg [oO 74 (.bin .add 2 (.t 60) (u9I 1)),
 oM 60 74])))))))
(.seq (.seq (rg [oF 75 0 1 2,
 oL 76 14 75,
 oN 77 14 76,
 oO 78 (.move (u9I 0))])
(.block 4 (.loop (.seq (rg [oO 79 (.bin .lss 2 (.t 78) (.t 77))])
(.seq (.cond (.t 79) (.skip) (.exit 4))
(.seq (.block 5 (.seq (rg [oI 80 14 76 78,
 oL 81 15 80,
 oO 9 (.alloc 15),
 oE (.store 15 (.t 9) (.t 81))])
(.seq (.seq (.region true [] [
 oF 82 15 9 2,
 oL 83 6 82,
 oN 84 6 83,
 oO 85 (.bin .eql 2 (.t 84) (u9I 0)),
 oM 86 85,
 u9G 87 (.faddr 15 (.t 9) 3) 86,
 u9G 88 (.load 16 (.t 87)) 86,
 u9G 89 (.len 16 (.t 88)) 86,
 u9G 90 (.call 0 (.f 67) [(.t 89),(u9I 1),(u9I 96)]) 86,
 u9G 91 (.un .not (.t 90)) 86,
 oO 92 (.pick (.t 86) (u9B true) (.t 91)),
 oM 93 92,
 u9G 94 (.faddr 15 (.t 9) 2) 93,
 u9G 95 (.load 6 (.t 94)) 93,
 u9G 96 (.call 0 (.f 73) [(.t 95),(.f 74)]) 93,
 u9G 97 (.un .not (.t 96)) 93,
 oO 98 (.pick (.t 93) (u9B true) (.t 97)),
 oM 99 98,
 u9G 100 (.faddr 15 (.t 9) 2) 99,
 u9G 101 (.load 6 (.t 100)) 99,
 u9G 102 (.iaddr 6 (.t 101) (u9I 0)) 99,
 u9G 103 (.load 2 (.t 102)) 99,
 u9G 104 (.bin .lss 2 (.t 103) (u9I 0)) 99,
 oO 105 (.pick (.t 99) (u9B true) (.t 104)),
 oM 106 105,
 u9G 107 (.faddr 15 (.t 9) 2) 106,
 u9G 108 (.load 6 (.t 107)) 106,
 u9G 109 (.faddr 15 (.t 9) 2) 106,
 u9G 110 (.load 6 (.t 109)) 106,
 u9G 111 (.len 6 (.t 110)) 106,
 u9G 112 (.bin .sub 2 (.t 111) (u9I 1)) 106,
 u9G 113 (.iaddr 6 (.t 108) (.t 112)) 106,
 u9G 114 (.load 2 (.t 113)) 106,
 u9G 115 (.faddr 0 (.t 1) 1) 106,
 u9G 116 (.load 9 (.t 115)) 106,
 u9G 117 (.len 9 (.t 116)) 106,
 u9G 118 (.bin .geq 2 (.t 114) (.t 117)) 106,
 oO 119 (.pick (.t 106) (u9B true) (.t 118))])
(.cond (.t 119) (.seq (rg [oO 2 (.assign (u9I 270))])
(.ret)) (.skip)))
(.seq (rg [oF 120 15 9 3,
 oL 121 16 120,
 oN 122 16 121,
 oO 123 (.move (u9I 0))])
(.block 6 (.loop (.seq (rg [oO 124 (.bin .lss 2 (.t 123) (.t 122))])
(.seq (.cond (.t 124) (.skip) (.exit 6))
(.seq (.block 7 (.seq (rg [oI 125 16 121 123,
 oL 126 17 125,
 oO 11 (.alloc 17),
 oE (.store 17 (.t 11) (.t 126))])
(.seq (rg [oO 12 (.assign (u9I 1048576))])
(.seq (.seq (rg [oF 127 17 11 0,
 oL 128 2 127,
 oM 129 12,
 oO 130 (.call 0 (.f 67) [(.t 128),(u9I 0),(.t 129)]),
 oO 131 (.un .not (.t 130)),
 oM 132 131,
 u9G 133 (.faddr 17 (.t 11) 1) 132,
 u9G 134 (.load 2 (.t 133)) 132,
 u9G 135 (.move (.t 12)) 132,
 u9G 136 (.call 0 (.f 67) [(.t 134),(u9I 0),(.t 135)]) 132,
 u9G 137 (.un .not (.t 136)) 132,
 oO 138 (.pick (.t 132) (u9B true) (.t 137)),
 oM 139 138,
 u9G 140 (.faddr 17 (.t 11) 2) 139,
 u9G 141 (.load 2 (.t 140)) 139,
 u9G 142 (.move (.t 12)) 139,
 u9G 143 (.call 0 (.f 67) [(.t 141),(u9I 0),(.t 142)]) 139,
 u9G 144 (.un .not (.t 143)) 139,
 oO 145 (.pick (.t 139) (u9B true) (.t 144)),
 oM 146 145,
 u9G 147 (.faddr 17 (.t 11) 3) 146,
 u9G 148 (.load 18 (.t 147)) 146,
 u9G 149 (.call 0 (.f 75) [(.t 148),(.f 76)]) 146,
 u9G 150 (.un .not (.t 149)) 146,
 oO 151 (.pick (.t 146) (u9B true) (.t 150))])
(.cond (.t 151) (.seq (rg [oO 2 (.assign (u9I 270))])
(.ret)) (.skip)))
(.seq (rg [oF 152 17 11 3,
 oL 153 18 152,
 oN 154 18 153,
 oO 155 (.move (u9I 0))])
(.block 8 (.loop (.seq (rg [oO 156 (.bin .lss 2 (.t 155) (.t 154))])
(.seq (.cond (.t 156) (.skip) (.exit 8))
(.seq (.block 9 (.seq (rg [oI 157 18 153 155,
 oL 158 19 157,
 oO 14 (.alloc 19),
 oE (.store 19 (.t 14) (.t 158))])
(.seq (rg [oM 159 3,
 oF 160 19 14 0,
 oL 161 20 160,
 oO 162 (.lookup 21 (.t 159) (.t 161) false),
 oO 163 (.un .not (.t 162)),
 oM 164 163,
 u9G 165 (.faddr 19 (.t 14) 1) 164,
 u9G 166 (.load 2 (.t 165)) 164,
 u9G 167 (.call 0 (.f 67) [(.t 166),(u9I 1),(u9I 8)]) 164,
 u9G 168 (.un .not (.t 167)) 164,
 oO 169 (.pick (.t 164) (u9B true) (.t 168))])
(.cond (.t 169) (.seq (rg [oO 2 (.assign (u9I 270))])
(.ret)) (.skip)))))
(rg [oO 170 (.bin .add 2 (.t 155) (u9I 1)),
 oM 155 170])))))))))))
(rg [oO 171 (.bin .add 2 (.t 123) (u9I 1)),
 oM 123 171]))))))))))
(rg [oO 172 (.bin .add 2 (.t 78) (u9I 1)),
 oM 78 172])))))))
(.seq (rg [oO 2 (.assign (u9I 0))])
(.ret)))))))⟩

def f67:DFn := ⟨15,[.tmp 6],
 .seq (rg [oO 6 (.assign (u9B false))])
(.seq (rg [oM 7 1,
 oM 8 0,
 oO 9 (.bin .leq 2 (.t 7) (.t 8)),
 oM 10 9,
⟨(some 11),.move (.t 0),(some (10,true))⟩,
⟨(some 12),.move (.t 2),(some (10,true))⟩,
⟨(some 13),.bin .leq 2 (.t 11) (.t 12),(some (10,true))⟩,
 oO 14 (.pick (.t 10) (.t 13) (u9B false)),
 oA 6 14])
(.ret))⟩

def f69:DFn := ⟨24,[.tmp 4],
 .seq (rg [oO 4 (.assign (u9B false))])
(.seq (.seq (rg [oO 5 (.assign (u9I 1))])
(.block 0 (.loop (.seq (.seq (rg [oM 6 5,
 oM 7 0,
 oN 8 10 7,
 oO 9 (.bin .lss 2 (.t 6) (.t 8))])
(.cond (.t 9) (.skip) (.exit 0)))
(.seq (.block 1 (.seq (.region true [] [
 oM 12 1,
 oM 13 0,
 oM 14 5,
 oO 15 (.bin .sub 2 (.t 14) (u9I 1)),
 oI 16 10 13 15,
 oL 17 20 16,
 oM 18 0,
 oM 19 5,
 oI 20 10 18 19,
 oL 21 20 20,
 oO 22 (.call 0 (.t 12) [(.t 17),(.t 21)]),
 oO 23 (.bin .geq 2 (.t 22) (u9I 0))])
(.cond (.t 23) (.seq (rg [oO 4 (.assign (u9B false))])
(.ret)) (.skip))))
(rg [oM 10 5,
 oO 11 (.bin .add 2 (.t 10) (u9I 1)),
 oA 5 11]))))))
(.seq (rg [oO 4 (.assign (u9B true))])
(.ret)))⟩

def f70:DFn := ⟨24,[.tmp 4],
 .seq (rg [oO 2 (.box 20 (.t 0)),
 oO 3 (.box 20 (.t 1)),
 oO 4 (.assign (u9I 0))])
(.seq (.seq (rg [oF 5 20 2 0,
 oL 6 7 5,
 oF 7 20 3 0,
 oL 8 7 7,
 oO 9 (.bin .neq 7 (.t 6) (.t 8))])
(.cond (.t 9) (.seq (.seq (rg [oF 10 20 3 0,
 oL 11 7 10])
(.cond (.t 11) (.seq (rg [oO 4 (.assign (.c (.int .i64 (-1))))])
(.ret)) (.skip)))
(.seq (rg [oO 4 (.assign (u9I 1))])
(.ret))) (.skip)))
(.seq (.region true [] [
 oF 12 20 2 1,
 oL 13 2 12,
 oF 14 20 3 1,
 oL 15 2 14,
 oO 16 (.call 0 (.f 74) [(.t 13),(.t 15)]),
 oF 17 20 2 2,
 oL 18 2 17,
 oF 19 20 3 2,
 oL 20 2 19,
 oO 21 (.call 0 (.f 74) [(.t 18),(.t 20)]),
 oO 22 (.bslice false 6 2 [(0,(.t 16)),(1,(.t 21))]),
 oO 23 (.call 0 (.f 105) [(.t 22)]),
 oA 4 23])
(.ret)))⟩

def f71:DFn := ⟨9,[.tmp 4],
 .seq (rg [oO 4 (.assign (u9B false))])
(.seq (rg [oM 5 0,
 oM 6 1,
 oO 7 (.call 0 (.f 106) [(.t 5),(.t 6)]),
 oO 8 (.bin .geq 2 (.t 7) (u9I 0)),
 oA 4 8])
(.ret))⟩

def f72:DFn := ⟨6,[.tmp 2],
 .seq (rg [oO 2 (.assign (u9B false))])
(.seq (rg [oM 3 0,
 oO 4 (.call 0 (.f 67) [(.t 3),(u9I 0),(u9I 4096)]),
 oO 5 (.un .not (.t 4)),
 oA 2 5])
(.ret))⟩

def f73:DFn := ⟨24,[.tmp 4],
 .seq (rg [oO 4 (.assign (u9B false))])
(.seq (.seq (rg [oO 5 (.assign (u9I 1))])
(.block 0 (.loop (.seq (.seq (rg [oM 6 5,
 oM 7 0,
 oN 8 6 7,
 oO 9 (.bin .lss 2 (.t 6) (.t 8))])
(.cond (.t 9) (.skip) (.exit 0)))
(.seq (.block 1 (.seq (.region true [] [
 oM 12 1,
 oM 13 0,
 oM 14 5,
 oO 15 (.bin .sub 2 (.t 14) (u9I 1)),
 oI 16 6 13 15,
 oL 17 2 16,
 oM 18 0,
 oM 19 5,
 oI 20 6 18 19,
 oL 21 2 20,
 oO 22 (.call 0 (.t 12) [(.t 17),(.t 21)]),
 oO 23 (.bin .geq 2 (.t 22) (u9I 0))])
(.cond (.t 23) (.seq (rg [oO 4 (.assign (u9B false))])
(.ret)) (.skip))))
(rg [oM 10 5,
 oO 11 (.bin .add 2 (.t 10) (u9I 1)),
 oA 5 11]))))))
(.seq (rg [oO 4 (.assign (u9B true))])
(.ret)))⟩

def f74:DFn := ⟨20,[.tmp 4],
 .seq (rg [oO 4 (.assign (u9I 0))])
(.seq (rg [oM 7 0,
 oO 8 (.call 0 (.f 107) [(.t 7)]),
 oA 5 8])
(.seq (rg [oM 9 1,
 oO 10 (.call 0 (.f 107) [(.t 9)]),
 oA 6 10])
(.seq (.seq (rg [oM 11 5])
(.cond (.t 11) (.seq (.seq (rg [oM 12 6])
(.cond (.t 12) (.seq (rg [oO 4 (.assign (u9I 0))])
(.ret)) (.skip)))
(.seq (rg [oO 4 (.assign (.c (.int .i64 (-1))))])
(.ret))) (.skip)))
(.seq (.seq (rg [oM 13 6])
(.cond (.t 13) (.seq (rg [oO 4 (.assign (u9I 1))])
(.ret)) (.skip)))
(.seq (.seq (rg [oM 14 0,
 oM 15 1,
 oO 16 (.bin .lss 2 (.t 14) (.t 15))])
(.cond (.t 16) (.seq (rg [oO 4 (.assign (.c (.int .i64 (-1))))])
(.ret)) (.skip)))
(.seq (.seq (rg [oM 17 0,
 oM 18 1,
 oO 19 (.bin .gtr 2 (.t 17) (.t 18))])
(.cond (.t 19) (.seq (rg [oO 4 (.assign (u9I 1))])
(.ret)) (.skip)))
(.seq (rg [oO 4 (.assign (u9I 0))])
(.ret))))))))⟩

def f75:DFn := ⟨24,[.tmp 4],
 .seq (rg [oO 4 (.assign (u9B false))])
(.seq (.seq (rg [oO 5 (.assign (u9I 1))])
(.block 0 (.loop (.seq (.seq (rg [oM 6 5,
 oM 7 0,
 oN 8 18 7,
 oO 9 (.bin .lss 2 (.t 6) (.t 8))])
(.cond (.t 9) (.skip) (.exit 0)))
(.seq (.block 1 (.seq (.region true [] [
 oM 12 1,
 oM 13 0,
 oM 14 5,
 oO 15 (.bin .sub 2 (.t 14) (u9I 1)),
 oI 16 18 13 15,
 oL 17 19 16,
 oM 18 0,
 oM 19 5,
 oI 20 18 18 19,
 oL 21 19 20,
 oO 22 (.call 0 (.t 12) [(.t 17),(.t 21)]),
 oO 23 (.bin .geq 2 (.t 22) (u9I 0))])
(.cond (.t 23) (.seq (rg [oO 4 (.assign (u9B false))])
(.ret)) (.skip))))
(rg [oM 10 5,
 oO 11 (.bin .add 2 (.t 10) (u9I 1)),
 oA 5 11]))))))
(.seq (rg [oO 4 (.assign (u9B true))])
(.ret)))⟩

def f76:DFn := ⟨10,[.tmp 4],
 .seq (rg [oO 2 (.box 19 (.t 0)),
 oO 3 (.box 19 (.t 1)),
 oO 4 (.assign (u9I 0))])
(.seq (rg [oF 5 19 2 0,
 oL 6 20 5,
 oF 7 19 3 0,
 oL 8 20 7,
 oO 9 (.call 0 (.f 70) [(.t 6),(.t 8)]),
 oA 4 9])
(.ret))⟩

def f105:DFn := ⟨18,[.tmp 2],
 .seq (rg [oO 2 (.assign (u9I 0))])
(.seq (rg [oO 3 (.assign (u9I 0))])
(.seq (.seq (rg [oM 6 0,
 oN 7 6 6,
 oO 8 (.move (u9I 0))])
(.block 0 (.loop (.seq (rg [oO 9 (.bin .lss 2 (.t 8) (.t 7))])
(.seq (.cond (.t 9) (.skip) (.exit 0))
(.seq (.block 1 (.seq (rg [oI 10 6 6 8,
 oL 11 2 10,
 oA 5 11])
(.seq (rg [oM 12 5,
 oM 13 3,
 oO 14 (.bin .neq 2 (.t 12) (.t 13))])
(.cond (.t 14) (.seq (rg [oM 15 5,
 oA 2 15])
(.ret)) (.skip)))))
(rg [oO 16 (.bin .add 2 (.t 8) (u9I 1)),
 oM 8 16])))))))
(.seq (rg [oM 17 3,
 oA 2 17])
(.ret))))⟩

def f106:DFn := ⟨19,[.tmp 4],
 .seq (rg [oO 4 (.assign (u9I 0))])
(.seq (.seq (rg [oM 6 0,
 oN 7 6 6,
 oO 8 (.move (u9I 0))])
(.block 0 (.loop (.seq (rg [oO 9 (.bin .lss 2 (.t 8) (.t 7))])
(.seq (.cond (.t 9) (.skip) (.exit 0))
(.seq (.block 1 (.seq (rg [oM 10 8,
 oA 5 10])
(.seq (rg [oM 11 1,
 oM 12 0,
 oM 13 5,
 oI 14 6 12 13,
 oL 15 2 14,
 oO 16 (.call 0 (.t 11) [(.t 15)])])
(.cond (.t 16) (.seq (rg [oM 17 5,
 oA 4 17])
(.ret)) (.skip)))))
(rg [oO 18 (.bin .add 2 (.t 8) (u9I 1)),
 oM 8 18])))))))
(.seq (rg [oO 4 (.assign (.c (.int .i64 (-1))))])
(.ret)))⟩

def f107:DFn := ⟨6,[.tmp 2],
 .seq (rg [oO 2 (.assign (u9B false))])
(.seq (rg [oM 3 0,
 oM 4 0,
 oO 5 (.bin .neq 2 (.t 3) (.t 4)),
 oA 2 5])
(.ret))⟩

def f264:DFn := ⟨19,[.tmp 2,.tmp 3],
 .seq (rg [oO 1 (.ibox 55 (.t 0)),
 oO 2 (.assign (.c (.imm .exact []))),
 oO 3 (.assign (u9I 0))])
(.seq (.seq (rg [oO 5 (.iload 55 (.t 1)),
 oO 6 (.call 0 (.f 281) [(.t 5)]),
 oA 4 6])
(.seq (rg [oM 7 4,
 oO 8 (.bin .neq 3 (.t 7) (u9I 0))])
(.cond (.t 8) (.seq (rg [oM 9 4,
 oO 2 (.assign (.c (.imm .exact []))),
 oA 3 9])
(.ret)) (.skip))))
(.seq (.region true [] [
 oO 10 (.call 4 (.f 282) []),
 oF 11 55 1 0,
 oO 12 (.iload 2 (.t 11)),
 oO 13 (.nilc (.t 10)),
 oI 14 57 13 12,
 oF 15 58 14 0,
 oL 16 59 15,
 oO 17 (.iload 55 (.t 1)),
 oO 18 (.call 2 (.t 16) [(.c (.imm .exact [])),(.t 17)]),
 oA 2 18,
 oO 3 (.assign (u9I 0))])
(.ret)))⟩

def f270:DFn := ⟨12,[.tmp 2,.tmp 3],
 .seq (rg [oO 1 (.ibox 55 (.t 0)),
 oO 2 (.assign (.c (.imm .exact []))),
 oO 3 (.assign (u9I 0))])
(.seq (rg [oO 5 (.iload 55 (.t 1)),
 oO 6 (.call 0 (.f 286) [(.t 5)]),
 oA 4 6])
(.seq (.seq (rg [oM 7 4,
 oO 8 (.bin .neq 3 (.t 7) (u9I 0))])
(.cond (.t 8) (.seq (rg [oM 9 4,
 oO 2 (.assign (.c (.imm .exact []))),
 oA 3 9])
(.ret)) (.skip)))
(.seq (rg [oO 10 (.iload 55 (.t 1)),
 oO 11 (.call 0 (.f 287) [(.t 10)]),
 oA 2 11,
 oO 3 (.assign (u9I 0))])
(.ret))))⟩

def f281:DFn := ⟨16,[.tmp 2],
 .seq (rg [oO 1 (.ibox 55 (.t 0)),
 oO 2 (.assign (u9I 0))])
(.seq (rg [oO 6 (.iload 55 (.t 1)),
 oO 7 (.call 0 (.f 297) [(.t 6)]),
 oM 5 7,
 oO 8 (.extract (.t 5) 0),
 oO 9 (.extract (.t 5) 1),
 oA 3 8,
 oA 4 9])
(.seq (.block 0 (.seq (rg [oM 11 4,
 oO 12 (.un .not (.t 11)),
 oA 10 12])
(.cond (.t 10) (.seq (rg [oO 2 (.assign (u9I 1))])
(.ret)) (.seq (rg [oM 14 3,
 oO 15 (.bin .gtr 2 (.t 14) (u9I 16)),
 oA 13 15])
(.cond (.t 13) (.seq (rg [oO 2 (.assign (u9I 2))])
(.ret)) (.skip))))))
(.seq (rg [oO 2 (.assign (u9I 0))])
(.ret))))⟩

def f282:DFn := ⟨18,[.tmp 0],
 .seq (rg [oO 0 (.assign (.c .nilp))])
(.seq (rg [oO 2 (.build 57 []),
 oO 3 (.box 57 (.t 2)),
 oO 1 (.alloc 62),
 oE (.store 62 (.t 1) (.t 3))])
(.seq (rg [oL 4 62 1,
 oO 5 (.nilc (.t 4)),
 oO 6 (.iaddr 57 (.t 5) (u9I 1)),
 oF 7 58 6 0,
 oE (.store 59 (.t 7) (.f 298))])
(.seq (rg [oL 8 62 1,
 oO 9 (.nilc (.t 8)),
 oO 10 (.iaddr 57 (.t 9) (u9I 2)),
 oF 11 58 10 0,
 oE (.store 59 (.t 11) (.f 299))])
(.seq (rg [oL 12 62 1,
 oO 13 (.mkfn 300 [(.t 1)]),
 oO 14 (.nilc (.t 12)),
 oO 15 (.iaddr 57 (.t 14) (u9I 3)),
 oF 16 58 15 0,
 oE (.store 59 (.t 16) (.t 13))])
(.seq (rg [oL 17 62 1,
 oA 0 17])
(.ret))))))⟩

def f286:DFn := ⟨9,[.tmp 2],
 .seq (rg [oO 1 (.ibox 55 (.t 0)),
 oO 2 (.assign (u9I 0))])
(.seq (.seq (rg [oO 3 (.iload 55 (.t 1)),
 oO 4 (.call 0 (.f 301) [(.t 3)]),
 oO 5 (.un .not (.t 4))])
(.cond (.t 5) (.seq (rg [oO 2 (.assign (u9I 1))])
(.ret)) (.skip)))
(.seq (.seq (rg [oO 6 (.iload 55 (.t 1)),
 oO 7 (.call 0 (.f 302) [(.t 6)]),
 oO 8 (.bin .gtr 2 (.t 7) (u9I 16))])
(.cond (.t 8) (.seq (rg [oO 2 (.assign (u9I 2))])
(.ret)) (.skip)))
(.seq (rg [oO 2 (.assign (u9I 0))])
(.ret))))⟩

def f287:DFn := ⟨50,[.tmp 2],
 .seq (rg [oO 1 (.ibox 55 (.t 0)),
 oO 2 (.assign (.c (.imm .exact [])))])
(.seq (.seq (rg [oF 5 55 1 0,
 oO 6 (.iload 2 (.t 5))])
(.block 0 (.seq (rg [oO 8 (.bin .eql 2 (.t 6) (u9I 1)),
 oA 7 8])
(.cond (.t 7) (.seq (rg [oO 9 (.bslice false 30 1 [(0,(.c (.int .u8 1)))]),
 oF 10 55 1 1,
 oO 11 (.iload 2 (.t 10)),
 oO 12 (.call 0 (.f 303) [(.t 11)]),
 oO 13 (.call 0 (.f 304) [(.t 12)]),
 oO 14 (.append 0 30 30 (.t 9) (.t 13)),
 oA 2 14])
(.ret)) (.seq (rg [oO 16 (.bin .eql 2 (.t 6) (u9I 2)),
 oA 15 16])
(.cond (.t 15) (.seq (.region true [] [
 oO 17 (.bslice false 30 1 [(0,(.c (.int .u8 2)))]),
 oF 18 55 1 2,
 oO 19 (.iload 53 (.t 18)),
 oN 20 53 19,
 oO 21 (.conv 2 63 (.t 20)),
 oO 22 (.call 0 (.f 304) [(.t 21)]),
 oO 23 (.append 0 30 30 (.t 17) (.t 22)),
 oF 24 55 1 2,
 oO 25 (.iload 53 (.t 24)),
 oO 26 (.append 0 30 53 (.t 23) (.t 25)),
 oA 2 26])
(.ret)) (.skip)))))))
(.seq (rg [oO 27 (.bslice false 30 1 [(0,(.c (.int .u8 3)))]),
 oF 28 55 1 3,
 oO 29 (.iload 56 (.t 28)),
 oN 30 56 29,
 oO 31 (.conv 2 63 (.t 30)),
 oO 32 (.call 0 (.f 304) [(.t 31)]),
 oO 33 (.append 0 30 30 (.t 27) (.t 32)),
 oA 3 33])
(.seq (.seq (rg [oO 4 (.assign (u9I 0))])
(.block 1 (.loop (.seq (.seq (rg [oM 34 4,
 oF 35 55 1 3,
 oO 36 (.iload 56 (.t 35)),
 oN 37 56 36,
 oO 38 (.bin .lss 2 (.t 34) (.t 37))])
(.cond (.t 38) (.skip) (.exit 1)))
(.seq (.block 2 (rg [oM 41 3,
 oF 42 55 1 3,
 oO 43 (.iload 56 (.t 42)),
 oM 44 4,
 oI 45 56 43 44,
 oL 46 55 45,
 oO 47 (.call 0 (.f 287) [(.t 46)]),
 oO 48 (.append 0 30 30 (.t 41) (.t 47)),
 oA 3 48]))
(rg [oM 39 4,
 oO 40 (.bin .add 2 (.t 39) (u9I 1)),
 oA 4 40]))))))
(.seq (rg [oM 49 3,
 oA 2 49])
(.ret)))))⟩

def f297:DFn := ⟨74,[.tmp 2,.tmp 3],
 .seq (rg [oO 1 (.ibox 55 (.t 0)),
 oO 2 (.assign (u9I 0)),
 oO 3 (.assign (u9B false))])
(.seq (rg [oF 9 55 1 2,
 oO 10 (.iload 53 (.t 9)),
 oO 11 (.bin .eql 53 (.t 10) (.c (.str []))),
 oM 12 11,
⟨(some 13),.faddr 55 (.t 1) 3,(some (12,true))⟩,
⟨(some 14),.iload 56 (.t 13),(some (12,true))⟩,
⟨(some 15),.len 56 (.t 14),(some (12,true))⟩,
⟨(some 16),.bin .eql 2 (.t 15) (u9I 0),(some (12,true))⟩,
 oO 17 (.pick (.t 12) (.t 16) (u9B false)),
 oF 18 55 1 1,
 oO 19 (.iload 2 (.t 18)),
 oO 20 (.bin .eql 2 (.t 19) (u9I 0)),
 oM 21 20,
⟨(some 22),.faddr 55 (.t 1) 3,(some (21,true))⟩,
⟨(some 23),.iload 56 (.t 22),(some (21,true))⟩,
⟨(some 24),.len 56 (.t 23),(some (21,true))⟩,
⟨(some 25),.bin .eql 2 (.t 24) (u9I 0),(some (21,true))⟩,
 oO 26 (.pick (.t 21) (.t 25) (u9B false)),
 oF 27 55 1 1,
 oO 28 (.iload 2 (.t 27)),
 oO 29 (.bin .eql 2 (.t 28) (u9I 0)),
 oM 30 29,
⟨(some 31),.faddr 55 (.t 1) 2,(some (30,true))⟩,
⟨(some 32),.iload 53 (.t 31),(some (30,true))⟩,
⟨(some 33),.bin .eql 53 (.t 32) (.c (.str [])),(some (30,true))⟩,
 oO 34 (.pick (.t 30) (.t 33) (u9B false)),
 oO 35 (.build 64 [(1,(.t 17)),(2,(.t 26)),(3,(.t 34))]),
 oO 4 (.alloc 64),
 oE (.store 64 (.t 4) (.t 35))])
(.seq (.seq (rg [oF 36 55 1 0,
 oO 37 (.iload 2 (.t 36)),
 oO 38 (.bin .lss 2 (.t 37) (u9I 1)),
 oM 39 38,
 u9G 40 (.faddr 55 (.t 1) 0) 39,
 u9G 41 (.iload 2 (.t 40)) 39,
 u9G 42 (.bin .gtr 2 (.t 41) (u9I 3)) 39,
 oO 43 (.pick (.t 39) (u9B true) (.t 42)),
 oM 44 43,
 u9G 45 (.faddr 55 (.t 1) 0) 44,
 u9G 46 (.iload 2 (.t 45)) 44,
 u9G 47 (.iaddr 64 (.t 4) (.t 46)) 44,
 u9G 48 (.load 7 (.t 47)) 44,
 u9G 49 (.un .not (.t 48)) 44,
 oO 50 (.pick (.t 44) (u9B true) (.t 49))])
(.cond (.t 50) (.seq (rg [oO 2 (.assign (u9I 0)),
 oO 3 (.assign (u9B false))])
(.ret)) (.skip)))
(.seq (.seq (rg [oF 51 55 1 0,
 oO 52 (.iload 2 (.t 51)),
 oO 53 (.bin .lss 2 (.t 52) (u9I 3))])
(.cond (.t 53) (.seq (rg [oO 2 (.assign (u9I 0)),
 oO 3 (.assign (u9B true))])
(.ret)) (.skip)))
(.seq (.seq (rg [oF 54 55 1 3,
 oO 55 (.iload 56 (.t 54)),
 oN 56 56 55,
 oO 57 (.move (u9I 0))])
(.block 0 (.loop (.seq (rg [oO 58 (.bin .lss 2 (.t 57) (.t 56))])
(.seq (.cond (.t 58) (.skip) (.exit 0))
(.seq (.block 1 (.seq (rg [oI 59 56 55 57,
 oL 60 55 59,
 oO 6 (.alloc 55),
 oE (.store 55 (.t 6) (.t 60))])
(.seq (rg [oL 62 55 6,
 oO 63 (.call 0 (.f 297) [(.t 62)]),
 oM 61 63,
 oO 64 (.extract (.t 61) 0),
 oO 65 (.extract (.t 61) 1),
 oA 7 64,
 oA 8 65])
(.seq (.seq (rg [oM 66 8,
 oO 67 (.un .not (.t 66))])
(.cond (.t 67) (.seq (rg [oO 2 (.assign (u9I 0)),
 oO 3 (.assign (u9B false))])
(.ret)) (.skip)))
(rg [oM 68 2,
 oM 69 7,
 oO 70 (.maxi [(.t 68),(.t 69)]),
 oA 2 70])))))
(rg [oO 71 (.bin .add 2 (.t 57) (u9I 1)),
 oM 57 71])))))))
(.seq (rg [oM 72 2,
 oO 73 (.bin .add 2 (.t 72) (u9I 1)),
 oA 2 73,
 oO 3 (.assign (u9B true))])
(.ret))))))⟩

def f298:DFn := ⟨12,[.tmp 4],
 .seq (rg [oO 3 (.ibox 55 (.t 1)),
 oO 4 (.assign (.c (.imm .exact [])))])
(.seq (.region true [] [
 oM 5 0,
 oO 6 (.bslice false 30 1 [(0,(.c (.int .u8 1)))]),
 oO 7 (.append 0 30 30 (.t 5) (.t 6)),
 oF 8 55 3 1,
 oO 9 (.iload 2 (.t 8)),
 oO 10 (.call 0 (.f 311) [(.t 9)]),
 oO 11 (.call 2 (.f 312) [(.t 7),(.t 10)]),
 oA 4 11])
(.ret))⟩

def f299:DFn := ⟨16,[.tmp 4],
 .seq (rg [oO 3 (.ibox 55 (.t 1)),
 oO 4 (.assign (.c (.imm .exact [])))])
(.seq (.region true [] [
 oM 5 0,
 oO 6 (.bslice false 30 1 [(0,(.c (.int .u8 2)))]),
 oO 7 (.append 0 30 30 (.t 5) (.t 6)),
 oF 8 55 3 2,
 oO 9 (.iload 53 (.t 8)),
 oN 10 53 9,
 oO 11 (.conv 2 63 (.t 10)),
 oO 12 (.call 2 (.f 312) [(.t 7),(.t 11)]),
 oF 13 55 3 2,
 oO 14 (.iload 53 (.t 13)),
 oO 15 (.append 0 30 53 (.t 12) (.t 14)),
 oA 4 15])
(.ret))⟩

def f300:DFn := ⟨35,[.tmp 5],
 .seq (rg [oO 4 (.ibox 55 (.t 1)),
 oO 5 (.assign (.c (.imm .exact [])))])
(.seq (.region true [] [
 oM 8 0,
 oO 9 (.bslice false 30 1 [(0,(.c (.int .u8 3)))]),
 oO 10 (.append 0 30 30 (.t 8) (.t 9)),
 oF 11 55 4 3,
 oO 12 (.iload 56 (.t 11)),
 oN 13 56 12,
 oO 14 (.conv 2 63 (.t 13)),
 oO 15 (.call 2 (.f 312) [(.t 10),(.t 14)]),
 oA 0 15])
(.seq (.seq (rg [oF 16 55 4 3,
 oO 17 (.iload 56 (.t 16)),
 oN 18 56 17,
 oO 19 (.move (u9I 0))])
(.block 0 (.loop (.seq (rg [oO 20 (.bin .lss 2 (.t 19) (.t 18))])
(.seq (.cond (.t 20) (.skip) (.exit 0))
(.seq (.block 1 (.seq (rg [oI 21 56 17 19,
 oL 22 55 21,
 oO 7 (.alloc 55),
 oE (.store 55 (.t 7) (.t 22))])
(.region true [] [
 oL 23 62 2,
 oF 24 55 7 0,
 oL 25 2 24,
 oO 26 (.nilc (.t 23)),
 oI 27 57 26 25,
 oF 28 58 27 0,
 oL 29 59 28,
 oM 30 0,
 oL 31 55 7,
 oO 32 (.call 2 (.t 29) [(.t 30),(.t 31)]),
 oA 0 32])))
(rg [oO 33 (.bin .add 2 (.t 19) (u9I 1)),
 oM 19 33])))))))
(.seq (rg [oM 34 0,
 oA 5 34])
(.ret))))⟩

def f301:DFn := ⟨52,[.tmp 2],
 .seq (rg [oO 1 (.ibox 55 (.t 0)),
 oO 2 (.assign (u9B false))])
(.seq (.seq (rg [oF 4 55 1 0,
 oO 5 (.iload 2 (.t 4))])
(.block 0 (.seq (rg [oO 7 (.bin .eql 2 (.t 5) (u9I 1)),
 oA 6 7])
(.cond (.t 6) (.seq (rg [oF 8 55 1 2,
 oO 9 (.iload 53 (.t 8)),
 oO 10 (.bin .eql 53 (.t 9) (.c (.str []))),
 oM 11 10,
⟨(some 12),.faddr 55 (.t 1) 3,(some (11,true))⟩,
⟨(some 13),.iload 56 (.t 12),(some (11,true))⟩,
⟨(some 14),.len 56 (.t 13),(some (11,true))⟩,
⟨(some 15),.bin .eql 2 (.t 14) (u9I 0),(some (11,true))⟩,
 oO 16 (.pick (.t 11) (.t 15) (u9B false)),
 oA 2 16])
(.ret)) (.seq (rg [oO 18 (.bin .eql 2 (.t 5) (u9I 2)),
 oA 17 18])
(.cond (.t 17) (.seq (rg [oF 19 55 1 1,
 oO 20 (.iload 2 (.t 19)),
 oO 21 (.bin .eql 2 (.t 20) (u9I 0)),
 oM 22 21,
⟨(some 23),.faddr 55 (.t 1) 3,(some (22,true))⟩,
⟨(some 24),.iload 56 (.t 23),(some (22,true))⟩,
⟨(some 25),.len 56 (.t 24),(some (22,true))⟩,
⟨(some 26),.bin .eql 2 (.t 25) (u9I 0),(some (22,true))⟩,
 oO 27 (.pick (.t 22) (.t 26) (u9B false)),
 oA 2 27])
(.ret)) (.seq (rg [oO 29 (.bin .eql 2 (.t 5) (u9I 3)),
 oA 28 29])
(.cond (.t 28) (.seq (.seq (rg [oO 3 (.assign (u9I 0))])
(.block 1 (.loop (.seq (.seq (rg [oM 30 3,
 oF 31 55 1 3,
 oO 32 (.iload 56 (.t 31)),
 oN 33 56 32,
 oO 34 (.bin .lss 2 (.t 30) (.t 33))])
(.cond (.t 34) (.skip) (.exit 1)))
(.seq (.block 2 (.seq (rg [oF 37 55 1 3,
 oO 38 (.iload 56 (.t 37)),
 oM 39 3,
 oI 40 56 38 39,
 oL 41 55 40,
 oO 42 (.call 0 (.f 301) [(.t 41)]),
 oO 43 (.un .not (.t 42))])
(.cond (.t 43) (.seq (rg [oO 2 (.assign (u9B false))])
(.ret)) (.skip))))
(rg [oM 35 3,
 oO 36 (.bin .add 2 (.t 35) (u9I 1)),
 oA 3 36]))))))
(.seq (rg [oF 44 55 1 1,
 oO 45 (.iload 2 (.t 44)),
 oO 46 (.bin .eql 2 (.t 45) (u9I 0)),
 oM 47 46,
⟨(some 48),.faddr 55 (.t 1) 2,(some (47,true))⟩,
⟨(some 49),.iload 53 (.t 48),(some (47,true))⟩,
⟨(some 50),.bin .eql 53 (.t 49) (.c (.str [])),(some (47,true))⟩,
 oO 51 (.pick (.t 47) (.t 50) (u9B false)),
 oA 2 51])
(.ret))) (.skip)))))))))
(.seq (rg [oO 2 (.assign (u9B false))])
(.ret)))⟩

def f302:DFn := ⟨25,[.tmp 2],
 .seq (rg [oO 1 (.ibox 55 (.t 0)),
 oO 2 (.assign (u9I 0))])
(.seq (.seq (rg [oF 5 55 1 0,
 oO 6 (.iload 2 (.t 5)),
 oO 7 (.bin .neq 2 (.t 6) (u9I 3))])
(.cond (.t 7) (.seq (rg [oO 2 (.assign (u9I 0))])
(.ret)) (.skip)))
(.seq (rg [oO 3 (.assign (u9I 0))])
(.seq (.seq (rg [oO 4 (.assign (u9I 0))])
(.block 0 (.loop (.seq (.seq (rg [oM 8 4,
 oF 9 55 1 3,
 oO 10 (.iload 56 (.t 9)),
 oN 11 56 10,
 oO 12 (.bin .lss 2 (.t 8) (.t 11))])
(.cond (.t 12) (.skip) (.exit 0)))
(.seq (.block 1 (rg [oM 15 3,
 oF 16 55 1 3,
 oO 17 (.iload 56 (.t 16)),
 oM 18 4,
 oI 19 56 17 18,
 oL 20 55 19,
 oO 21 (.call 0 (.f 302) [(.t 20)]),
 oO 22 (.maxi [(.t 15),(.t 21)]),
 oA 3 22]))
(rg [oM 13 4,
 oO 14 (.bin .add 2 (.t 13) (u9I 1)),
 oA 4 14]))))))
(.seq (rg [oM 23 3,
 oO 24 (.bin .add 2 (.t 23) (u9I 1)),
 oA 2 24])
(.ret)))))⟩

def f303:DFn := ⟨14,[.tmp 2],
 .seq (rg [oO 2 (.assign (.c (.int .u64 0)))])
(.seq (.seq (rg [oM 3 0,
 oO 4 (.bin .geq 2 (.t 3) (u9I 0))])
(.cond (.t 4) (.seq (rg [oM 5 0,
 oO 6 (.conv 2 63 (.t 5)),
 oO 7 (.bin .mul 63 (.c (.int .u64 2)) (.t 6)),
 oA 2 7])
(.ret)) (.skip)))
(.seq (rg [oM 8 0,
 oO 9 (.bin .add 2 (.t 8) (u9I 1)),
 oO 10 (.un .neg (.t 9)),
 oO 11 (.conv 2 63 (.t 10)),
 oO 12 (.bin .mul 63 (.c (.int .u64 2)) (.t 11)),
 oO 13 (.bin .add 63 (.t 12) (.c (.int .u64 1))),
 oA 2 13])
(.ret)))⟩

def f304:DFn := ⟨17,[.tmp 2],
 .seq (rg [oO 2 (.assign (.c (.imm .exact [])))])
(.seq (.seq (rg [oM 3 0,
 oO 4 (.bin .lss 63 (.t 3) (.c (.int .u64 128)))])
(.cond (.t 4) (.seq (rg [oM 5 0,
 oO 6 (.conv 63 13 (.t 5)),
 oO 7 (.bslice false 30 1 [(0,(.t 6))]),
 oA 2 7])
(.ret)) (.skip)))
(.seq (rg [oM 8 0,
 oO 9 (.bin .rem 63 (.t 8) (.c (.int .u64 128))),
 oO 10 (.bin .add 63 (.t 9) (.c (.int .u64 128))),
 oO 11 (.conv 63 13 (.t 10)),
 oO 12 (.bslice false 30 1 [(0,(.t 11))]),
 oM 13 0,
 oO 14 (.bin .quo 63 (.t 13) (.c (.int .u64 128))),
 oO 15 (.call 0 (.f 304) [(.t 14)]),
 oO 16 (.append 0 30 30 (.t 12) (.t 15)),
 oA 2 16])
(.ret)))⟩

def f311:DFn := ⟨10,[.tmp 2],
 .seq (rg [oO 2 (.assign (.c (.int .u64 0)))])
(.seq (rg [oM 3 0,
 oO 4 (.conv 2 63 (.t 3)),
 oO 5 (.bin .shl 63 (.t 4) (.c (.int .u64 1))),
 oM 6 0,
 oO 7 (.bin .shr 2 (.t 6) (.c (.int .u64 63))),
 oO 8 (.conv 2 63 (.t 7)),
 oO 9 (.bin .xor 63 (.t 5) (.t 8)),
 oA 2 9])
(.ret))⟩

def f312:DFn := ⟨20,[.tmp 4],
 .seq (rg [oO 4 (.assign (.c (.imm .exact [])))])
(.seq (.block 0 (.loop (.seq (.seq (rg [oM 5 1,
 oO 6 (.bin .geq 63 (.t 5) (.c (.int .u64 128)))])
(.cond (.t 6) (.skip) (.exit 0)))
(.seq (.block 1 (rg [oM 9 0,
 oM 10 1,
 oO 11 (.conv 63 13 (.t 10)),
 oO 12 (.bin .or 13 (.t 11) (.c (.int .u8 128))),
 oO 13 (.bslice false 30 1 [(0,(.t 12))]),
 oO 14 (.append 0 30 30 (.t 9) (.t 13)),
 oA 0 14]))
(rg [oM 7 1,
 oO 8 (.bin .shr 63 (.t 7) (.c (.int .u64 7))),
 oA 1 8])))))
(.seq (rg [oM 15 0,
 oM 16 1,
 oO 17 (.conv 63 13 (.t 16)),
 oO 18 (.bslice false 30 1 [(0,(.t 17))]),
 oO 19 (.append 0 30 30 (.t 15) (.t 18)),
 oA 4 19])
(.ret)))⟩

def f316:DFn := ⟨56,[.tmp 8,.tmp 9],
 .seq (rg [oO 8 (.assign (.c (.imm .exact []))),
 oO 9 (.assign (u9I 0))])
(.seq (rg [oM 15 0,
 oO 16 (.call 0 (.f 354) [(.t 15)]),
 oM 14 16,
 oO 17 (.extract (.t 14) 0),
 oO 18 (.extract (.t 14) 1),
 oO 10 (.alloc 73),
 oE (.store 73 (.t 10) (.t 17)),
 oA 9 18])
(.seq (.seq (rg [oM 19 9,
 oO 20 (.bin .neq 3 (.t 19) (u9I 0))])
(.cond (.t 20) (.seq (rg [oM 21 9,
 oO 8 (.assign (.c (.imm .exact []))),
 oA 9 21])
(.ret)) (.skip)))
(.seq (.seq (rg [oM 22 0,
 oN 23 70 22,
 oO 24 (.bin .eql 2 (.t 23) (u9I 65536))])
(.cond (.t 24) (.seq (rg [oO 8 (.assign (.c (.imm .exact []))),
 oO 9 (.assign (u9I 2))])
(.ret)) (.skip)))
(.seq (.seq (rg [oM 25 0,
 oN 26 70 25,
 oA 11 26])
(.seq (rg [oM 27 11,
 oO 28 (.bin .gtr 2 (.t 27) (u9I 0)),
 oM 29 28,
⟨(some 30),.move (.t 0),(some (29,true))⟩,
⟨(some 31),.move (.t 11),(some (29,true))⟩,
⟨(some 32),.bin .sub 2 (.t 31) (u9I 1),(some (29,true))⟩,
⟨(some 33),.iaddr 70 (.t 30) (.t 32),(some (29,true))⟩,
⟨(some 34),.faddr 71 (.t 33) 1,(some (29,true))⟩,
⟨(some 35),.load 2 (.t 34),(some (29,true))⟩,
⟨(some 36),.move (.t 1),(some (29,true))⟩,
⟨(some 37),.bin .gtr 2 (.t 35) (.t 36),(some (29,true))⟩,
 oO 38 (.pick (.t 29) (.t 37) (u9B false))])
(.cond (.t 38) (.seq (rg [oO 8 (.assign (.c (.imm .exact []))),
 oO 9 (.assign (u9I 410))])
(.ret)) (.skip))))
(.seq (rg [oM 39 0,
 oN 40 70 39,
 oM 41 1,
 oM 42 2,
 oM 43 3,
 oL 44 73 10,
 oO 45 (.build 71 [(0,(.t 40)),(1,(.t 41)),(2,(.t 42)),(3,(.t 43)),(4,(.t 44))]),
 oO 12 (.alloc 71),
 oE (.store 71 (.t 12) (.t 45))])
(.seq (.seq (rg [oL 46 71 12,
 oO 47 (.call 0 (.f 355) [(.t 46)]),
 oA 13 47])
(.seq (rg [oM 48 13,
 oO 49 (.bin .neq 3 (.t 48) (u9I 0))])
(.cond (.t 49) (.seq (rg [oM 50 13,
 oO 8 (.assign (.c (.imm .exact []))),
 oA 9 50])
(.ret)) (.skip))))
(.seq (.region true [] [
 oM 51 0,
 oO 52 (.mkcall (.f 356) [(.t 51)]),
 oL 53 71 12,
 oO 54 (.bslice false 70 1 [(0,(.t 53))]),
 oO 55 (.append 2 70 70 (.t 52) (.t 54)),
 oA 8 55,
 oO 9 (.assign (u9I 0))])
(.ret))))))))⟩

def f317:DFn := ⟨60,[.tmp 8,.tmp 9],
 .seq (rg [oO 8 (.assign (.c (.imm .exact []))),
 oO 9 (.assign (u9I 0))])
(.seq (rg [oM 16 0,
 oO 17 (.call 0 (.f 357) [(.t 16)]),
 oM 15 17,
 oO 18 (.extract (.t 15) 0),
 oO 19 (.extract (.t 15) 1),
 oO 10 (.alloc 73),
 oE (.store 73 (.t 10) (.t 18)),
 oA 11 19])
(.seq (.seq (rg [oM 20 11,
 oO 21 (.bin .neq 3 (.t 20) (u9I 0))])
(.cond (.t 21) (.seq (rg [oM 22 11,
 oO 8 (.assign (.c (.imm .exact []))),
 oA 9 22])
(.ret)) (.skip)))
(.seq (rg [oM 23 0,
 oN 24 70 23,
 oA 12 24])
(.seq (.seq (rg [oM 25 12,
 oO 26 (.bin .geq 2 (.t 25) (u9I 65536))])
(.cond (.t 26) (.seq (rg [oO 8 (.assign (.c (.imm .exact []))),
 oO 9 (.assign (u9I 2))])
(.ret)) (.skip)))
(.seq (rg [oM 27 12,
 oM 28 1,
 oM 29 2,
 oM 30 3,
 oL 31 73 10,
 oO 32 (.build 71 [(0,(.t 27)),(1,(.t 28)),(2,(.t 29)),(3,(.t 30)),(4,(.t 31))]),
 oO 13 (.alloc 71),
 oE (.store 71 (.t 13) (.t 32))])
(.seq (rg [oL 33 71 13,
 oO 34 (.call 0 (.f 358) [(.t 33)]),
 oA 14 34])
(.seq (.seq (rg [oM 35 14,
 oO 36 (.bin .eql 3 (.t 35) (u9I 410)),
 oM 37 36,
 u9G 38 (.move (.t 12)) 37,
 u9G 39 (.bin .gtr 2 (.t 38) (u9I 0)) 37,
 u9G 40 (.move (.t 39)) 37,
⟨(some 41),.move (.t 0),(some (40,true))⟩,
⟨(some 42),.move (.t 12),(some (40,true))⟩,
⟨(some 43),.bin .sub 2 (.t 42) (u9I 1),(some (40,true))⟩,
⟨(some 44),.iaddr 70 (.t 41) (.t 43),(some (40,true))⟩,
⟨(some 45),.faddr 71 (.t 44) 1,(some (40,true))⟩,
⟨(some 46),.load 2 (.t 45),(some (40,true))⟩,
⟨(some 47),.move (.t 1),(some (40,true))⟩,
⟨(some 48),.bin .gtr 2 (.t 46) (.t 47),(some (40,true))⟩,
 u9G 49 (.pick (.t 40) (.t 48) (u9B false)) 37,
 oO 50 (.pick (.t 37) (u9B true) (.t 49))])
(.cond (.t 50) (.seq (rg [oO 8 (.assign (.c (.imm .exact []))),
 oO 9 (.assign (u9I 410))])
(.ret)) (.skip)))
(.seq (.seq (rg [oM 51 14,
 oO 52 (.bin .neq 3 (.t 51) (u9I 0))])
(.cond (.t 52) (.seq (rg [oM 53 14,
 oO 8 (.assign (.c (.imm .exact []))),
 oA 9 53])
(.ret)) (.skip)))
(.seq (.region true [] [
 oO 54 (.bslice false 70 0 []),
 oM 55 0,
 oO 56 (.append 0 70 70 (.t 54) (.t 55)),
 oL 57 71 13,
 oO 58 (.bslice false 70 1 [(0,(.t 57))]),
 oO 59 (.append 0 70 70 (.t 56) (.t 58)),
 oA 8 59,
 oO 9 (.assign (u9I 0))])
(.ret))))))))))⟩

def f318:DFn := ⟨34,[.cell 6 2,.tmp 7],
 .seq (rg [oO 4 (.ibox 65 (.t 1)),
 oO 5 (.ibox 2 (.t 2)),
 oO 6 (.alloc 2),
 oO 7 (.assign (u9I 0))])
(.seq (.seq (rg [oM 11 0,
 oO 12 (.call 0 (.f 324) [(.t 11)]),
 oA 8 12])
(.seq (rg [oM 13 8,
 oO 14 (.bin .neq 3 (.t 13) (u9I 0))])
(.cond (.t 14) (.seq (rg [oM 15 8,
 oE (.store 2 (.t 6) (u9I 0)),
 oA 7 15])
(.ret)) (.skip))))
(.seq (.seq (rg [oM 16 0,
 oO 17 (.call 0 (.f 359) [(.t 16)])])
(.block 0 (.rfunc (.t 17) [18,19] (.seq (rg [oA 9 18])
(rg [oO 10 (.alloc 72),
 oE (.store 72 (.t 10) (.t 19))])) (.block 1 (.seq (rg [oM 20 9,
 oO 21 (.iload 2 (.t 5)),
 oO 22 (.bin .leq 2 (.t 20) (.t 21)),
 oM 23 22,
⟨(some 24),.faddr 72 (.t 10) 0,(some (23,true))⟩,
⟨(some 25),.load 65 (.t 24),(some (23,true))⟩,
⟨(some 26),.iload 65 (.t 4),(some (23,true))⟩,
⟨(some 27),.bin .eql 65 (.t 25) (.t 26),(some (23,true))⟩,
 oO 28 (.pick (.t 23) (.t 27) (u9B false))])
(.cond (.t 28) (rg [oL 29 2 6,
 oF 30 72 10 1,
 oL 31 2 30,
 oO 32 (.bin .add 2 (.t 29) (.t 31)),
 oE (.store 2 (.t 6) (.t 32))]) (.skip)))))))
(.seq (rg [oL 33 2 6,
 oE (.store 2 (.t 6) (.t 33)),
 oO 7 (.assign (u9I 0))])
(.ret))))⟩

def f319:DFn := ⟨65,[.tmp 6,.tmp 7],
 .seq (rg [oO 4 (.ibox 65 (.t 1)),
 oO 6 (.assign (u9I 0)),
 oO 7 (.assign (u9I 0))])
(.seq (rg [oM 12 0,
 oO 13 (.call 0 (.f 360) [(.t 12)]),
 oA 8 13])
(.seq (.seq (rg [oM 14 8,
 oO 15 (.bin .neq 3 (.t 14) (u9I 0))])
(.cond (.t 15) (.seq (rg [oM 16 8,
 oO 6 (.assign (u9I 0)),
 oA 7 16])
(.ret)) (.skip)))
(.seq (rg [oO 9 (.assign (u9I 0))])
(.seq (.seq (rg [oO 10 (.assign (u9I 0))])
(.block 0 (.loop (.seq (.seq (rg [oM 17 10,
 oM 18 0,
 oN 19 70 18,
 oO 20 (.bin .lss 2 (.t 17) (.t 19))])
(.cond (.t 20) (.skip) (.exit 0)))
(.seq (.block 1 (.seq (rg [oO 11 (.assign (u9I 0))])
(.block 2 (.loop (.seq (.seq (rg [oM 23 11,
 oM 24 0,
 oM 25 10,
 oI 26 70 24 25,
 oF 27 71 26 3,
 oL 28 66 27,
 oN 29 66 28,
 oO 30 (.bin .lss 2 (.t 23) (.t 29))])
(.cond (.t 30) (.skip) (.exit 2)))
(.seq (.block 3 (.seq (.region true [] [
 oM 33 0,
 oM 34 10,
 oI 35 70 33 34,
 oF 36 71 35 1,
 oL 37 2 36,
 oM 38 2,
 oO 39 (.bin .leq 2 (.t 37) (.t 38)),
 oM 40 39,
⟨(some 41),.move (.t 0),(some (40,true))⟩,
⟨(some 42),.move (.t 10),(some (40,true))⟩,
⟨(some 43),.iaddr 70 (.t 41) (.t 42),(some (40,true))⟩,
⟨(some 44),.faddr 71 (.t 43) 3,(some (40,true))⟩,
⟨(some 45),.load 66 (.t 44),(some (40,true))⟩,
⟨(some 46),.move (.t 11),(some (40,true))⟩,
⟨(some 47),.iaddr 66 (.t 45) (.t 46),(some (40,true))⟩,
⟨(some 48),.faddr 72 (.t 47) 0,(some (40,true))⟩,
⟨(some 49),.load 65 (.t 48),(some (40,true))⟩,
⟨(some 50),.iload 65 (.t 4),(some (40,true))⟩,
⟨(some 51),.bin .eql 65 (.t 49) (.t 50),(some (40,true))⟩,
 oO 52 (.pick (.t 40) (.t 51) (u9B false))])
(.cond (.t 52) (rg [oM 53 9,
 oM 54 0,
 oM 55 10,
 oI 56 70 54 55,
 oF 57 71 56 3,
 oL 58 66 57,
 oM 59 11,
 oI 60 66 58 59,
 oF 61 72 60 1,
 oL 62 2 61,
 oO 63 (.bin .add 2 (.t 53) (.t 62)),
 oA 9 63]) (.skip))))
(rg [oM 31 11,
 oO 32 (.bin .add 2 (.t 31) (u9I 1)),
 oA 11 32])))))))
(rg [oM 21 10,
 oO 22 (.bin .add 2 (.t 21) (u9I 1)),
 oA 10 22]))))))
(.seq (rg [oM 64 9,
 oA 6 64,
 oO 7 (.assign (u9I 0))])
(.ret))))))⟩

def f324:DFn := ⟨9,[.tmp 2],
 .seq (rg [oO 2 (.assign (u9I 0))])
(.seq (rg [oM 4 0,
 oO 5 (.call 0 (.f 354) [(.t 4)]),
 oM 3 5,
 oO 6 (.extract (.t 3) 0),
 oO 7 (.extract (.t 3) 1),
 oA 2 7])
(.seq (rg [oM 8 2,
 oA 2 8])
(.ret)))⟩

def f325:DFn := ⟨18,[.cell 2 67],
 .seq (rg [oO 2 (.alloc 67)])
(.seq (.seq (rg [oM 5 0,
 oO 6 (.call 0 (.f 359) [(.t 5)])])
(.block 0 (.rfunc (.t 6) [7,8] (rg [oO 4 (.alloc 72),
 oE (.store 72 (.t 4) (.t 8))]) (.block 1 (rg [oL 9 67 2,
 oF 10 72 4 0,
 oL 11 65 10,
 oO 12 (.bslice false 67 1 [(0,(.t 11))]),
 oO 13 (.append 2 67 67 (.t 9) (.t 12)),
 oE (.store 67 (.t 2) (.t 13))])))))
(.seq (rg [oL 14 67 2,
 oO 15 (.call 2 (.f 361) [(.t 14),(.f 362)])])
(.seq (rg [oL 16 67 2,
 oO 17 (.call 2 (.f 363) [(.t 16)]),
 oE (.store 67 (.t 2) (.t 17))])
(.ret))))⟩

def f331:DFn := ⟨14,[.cell 4 73],
 .seq (rg [oO 4 (.alloc 73)])
(.seq (rg [oM 6 0,
 oO 7 (.s2b 53 30 (.t 6)),
 oO 8 (.call 0 (.f 364) [(.t 7)]),
 oO 5 (.alloc 73),
 oE (.store 73 (.t 5) (.t 8))])
(.seq (rg [oO 9 (.slice 73 (.t 5) none none none),
 oM 10 1,
 oO 11 (.bslice false 74 2 [(0,(.t 9)),(1,(.t 10))]),
 oO 12 (.call 1 (.f 365) [(.t 11)]),
 oO 13 (.call 0 (.f 364) [(.t 12)]),
 oE (.store 73 (.t 4) (.t 13))])
(.ret)))⟩

def f334:DFn := ⟨60,[.tmp 2,.tmp 3],
 .seq (rg [oO 1 (.ibox 71 (.t 0)),
 oO 2 (.assign (.c (.imm .exact []))),
 oO 3 (.assign (u9I 0))])
(.seq (.seq (rg [oO 9 (.iload 71 (.t 1)),
 oO 10 (.call 0 (.f 355) [(.t 9)]),
 oA 4 10])
(.seq (rg [oM 11 4,
 oO 12 (.bin .neq 3 (.t 11) (u9I 0))])
(.cond (.t 12) (.seq (rg [oM 13 4,
 oO 2 (.assign (.c (.imm .exact []))),
 oA 3 13])
(.ret)) (.skip))))
(.seq (rg [oF 14 71 1 0,
 oO 15 (.iload 2 (.t 14)),
 oF 16 71 1 1,
 oO 17 (.iload 2 (.t 16)),
 oF 18 71 1 2,
 oO 19 (.iload 2 (.t 18)),
 oO 20 (.bslice false 6 3 [(0,(.t 15)),(1,(.t 17)),(2,(.t 19))]),
 oO 21 (.mkcall (.f 366) [(.t 20)]),
 oO 22 (.mkcall (.f 366) [(.c (.imm .exact []))]),
 oO 5 (.alloc 55),
 oO 6 (.alloc 55),
 oE (.store 55 (.t 5) (.t 21)),
 oE (.store 55 (.t 6) (.t 22))])
(.seq (.seq (rg [oF 23 71 1 3,
 oO 24 (.iload 66 (.t 23)),
 oN 25 66 24,
 oO 26 (.move (u9I 0))])
(.block 0 (.loop (.seq (rg [oO 27 (.bin .lss 2 (.t 26) (.t 25))])
(.seq (.cond (.t 27) (.skip) (.exit 0))
(.seq (.block 1 (.seq (rg [oI 28 66 24 26,
 oL 29 72 28,
 oO 8 (.alloc 72),
 oE (.store 72 (.t 8) (.t 29))])
(.region true [] [
 oF 30 55 6 3,
 oL 31 56 30,
 oF 32 72 8 0,
 oF 33 65 32 0,
 oL 34 2 33,
 oF 35 72 8 0,
 oF 36 65 35 1,
 oL 37 2 36,
 oF 38 72 8 1,
 oL 39 2 38,
 oO 40 (.bslice false 6 3 [(0,(.t 34)),(1,(.t 37)),(2,(.t 39))]),
 oO 41 (.call 0 (.f 366) [(.t 40)]),
 oO 42 (.bslice false 56 1 [(0,(.t 41))]),
 oO 43 (.append 0 56 56 (.t 31) (.t 42)),
 oF 44 55 6 3,
 oE (.store 56 (.t 44) (.t 43))])))
(rg [oO 45 (.bin .add 2 (.t 26) (u9I 1)),
 oM 26 45])))))))
(.seq (.region true [] [
 oF 46 55 5 3,
 oL 47 56 46,
 oL 48 55 6,
 oF 49 71 1 4,
 oO 50 (.slice 73 (.t 49) none none none),
 oO 51 (.b2s 30 53 (.t 50)),
 oO 52 (.build 55 [(0,(u9I 2)),(2,(.t 51))]),
 oO 53 (.bslice false 56 2 [(0,(.t 48)),(1,(.t 52))]),
 oO 54 (.append 0 56 56 (.t 47) (.t 53)),
 oF 55 55 5 3,
 oE (.store 56 (.t 55) (.t 54))])
(.seq (rg [oL 56 55 5,
 oO 57 (.call 0 (.f 264) [(.t 56)]),
 oO 58 (.extract (.t 57) 0),
 oO 59 (.extract (.t 57) 1),
 oA 2 58,
 oA 3 59])
(.ret))))))⟩

def f335:DFn := ⟨10,[.cell 4 73],
 .seq (rg [oO 2 (.ibox 73 (.t 0)),
 oO 3 (.ibox 73 (.t 1)),
 oO 4 (.alloc 73)])
(.seq (.region true [] [
 oO 5 (.slice 73 (.t 2) none none none),
 oO 6 (.slice 73 (.t 3) none none none),
 oO 7 (.bslice false 74 2 [(0,(.t 5)),(1,(.t 6))]),
 oO 8 (.call 0 (.f 365) [(.t 7)]),
 oO 9 (.call 0 (.f 331) [(.c (.str [99,104,97,105,110])),(.t 8)]),
 oE (.store 73 (.t 4) (.t 9))])
(.ret))⟩

def f339:DFn := ⟨165,[.tmp 0],
 .seq (rg [oO 0 (.assign (u9B false))])
(.seq (rg [oO 22 (.bslice false 6 0 []),
 oO 23 (.bslice false 9 1 [(0,(.t 22))]),
 oO 24 (.bslice false 6 1 [(0,(u9I 0))]),
 oO 25 (.build 17 []),
 oO 26 (.bslice false 16 1 [(0,(.t 25))]),
 oO 27 (.build 15 [(0,(u9I 7)),(2,(.t 24)),(3,(.t 26))]),
 oO 28 (.bslice false 14 1 [(0,(.t 27))]),
 oO 29 (.build 0 [(1,(.t 23)),(2,(.t 28))]),
 oO 1 (.alloc 0),
 oE (.store 0 (.t 1) (.t 29))])
(.seq (rg [oL 31 0 1,
 oO 32 (.bslice false 6 1 [(0,(u9I 3))]),
 oO 33 (.build 37 [(0,(u9I 2)),(2,(u9I 10))]),
 oO 34 (.bslice false 36 1 [(0,(.t 33))]),
 oO 35 (.call 0 (.f 340) [(.t 31),(.t 32),(u9I 1),(.t 34)]),
 oM 30 35,
 oO 36 (.extract (.t 30) 0),
 oO 37 (.extract (.t 30) 1),
 oA 2 36,
 oA 3 37])
(.seq (rg [oM 39 2,
 oO 40 (.call 0 (.f 345) [(.c (.imm .exact [])),(u9I 5),(.t 39)]),
 oM 38 40,
 oO 41 (.extract (.t 38) 0),
 oO 42 (.extract (.t 38) 1),
 oA 4 41,
 oA 5 42])
(.seq (rg [oM 44 4,
 oM 45 2,
 oO 46 (.call 0 (.f 345) [(.t 44),(u9I 9),(.t 45)]),
 oM 43 46,
 oO 47 (.extract (.t 43) 0),
 oO 48 (.extract (.t 43) 1),
 oA 6 47,
 oA 7 48])
(.seq (rg [oO 50 (.call 0 (.f 345) [(.c (.imm .exact [])),(u9I 5),(.c (.imm .exact []))]),
 oM 49 50,
 oO 51 (.extract (.t 49) 0),
 oO 52 (.extract (.t 49) 1),
 oA 8 51,
 oA 9 52])
(.seq (rg [oM 54 4,
 oO 55 (.call 0 (.f 352) [(.t 54),(u9I 3),(u9I 5)]),
 oM 53 55,
 oO 56 (.extract (.t 53) 0),
 oO 57 (.extract (.t 53) 1),
 oA 10 56,
 oA 11 57])
(.seq (rg [oM 59 4,
 oO 60 (.call 0 (.f 352) [(.t 59),(u9I 3),(u9I 4)]),
 oM 58 60,
 oO 61 (.extract (.t 58) 0),
 oO 62 (.extract (.t 58) 1),
 oA 12 61,
 oA 13 62])
(.seq (rg [oO 64 (.call 0 (.f 352) [(.c (.imm .exact [])),(u9I 0),(u9I 5)]),
 oM 63 64,
 oO 65 (.extract (.t 63) 0),
 oO 66 (.extract (.t 63) 1),
 oA 14 65,
 oA 15 66])
(.seq (rg [oM 68 4,
 oO 69 (.call 0 (.f 350) [(.t 68)]),
 oM 67 69,
 oO 70 (.extract (.t 67) 0),
 oO 71 (.extract (.t 67) 1),
 oA 16 70,
 oA 17 71])
(.seq (rg [oO 73 (.call 0 (.f 350) [(.c (.imm .exact []))]),
 oM 72 73,
 oO 74 (.extract (.t 72) 0),
 oO 75 (.extract (.t 72) 1),
 oA 18 74,
 oA 19 75])
(.seq (.seq (rg [oM 76 3,
 oO 77 (.bin .neq 3 (.t 76) (u9I 0)),
 oM 78 77,
 u9G 79 (.move (.t 5)) 78,
 u9G 80 (.bin .neq 3 (.t 79) (u9I 0)) 78,
 oO 81 (.pick (.t 78) (u9B true) (.t 80)),
 oM 82 81,
 u9G 83 (.move (.t 7)) 82,
 u9G 84 (.bin .neq 3 (.t 83) (u9I 0)) 82,
 oO 85 (.pick (.t 82) (u9B true) (.t 84)),
 oM 86 85,
 u9G 87 (.move (.t 9)) 86,
 u9G 88 (.bin .neq 3 (.t 87) (u9I 0)) 86,
 oO 89 (.pick (.t 86) (u9B true) (.t 88)),
 oM 90 89,
 u9G 91 (.move (.t 11)) 90,
 u9G 92 (.bin .neq 3 (.t 91) (u9I 0)) 90,
 oO 93 (.pick (.t 90) (u9B true) (.t 92)),
 oM 94 93,
 u9G 95 (.move (.t 13)) 94,
 u9G 96 (.bin .neq 3 (.t 95) (u9I 0)) 94,
 oO 97 (.pick (.t 94) (u9B true) (.t 96)),
 oM 98 97,
 u9G 99 (.move (.t 15)) 98,
 u9G 100 (.bin .neq 3 (.t 99) (u9I 430)) 98,
 oO 101 (.pick (.t 98) (u9B true) (.t 100)),
 oM 102 101,
 u9G 103 (.move (.t 17)) 102,
 u9G 104 (.bin .neq 3 (.t 103) (u9I 0)) 102,
 oO 105 (.pick (.t 102) (u9B true) (.t 104)),
 oM 106 105,
 u9G 107 (.move (.t 19)) 106,
 u9G 108 (.bin .neq 3 (.t 107) (u9I 0)) 106,
 oO 109 (.pick (.t 106) (u9B true) (.t 108)),
 oM 110 109,
 u9G 111 (.move (.t 4)) 110,
 u9G 112 (.len 70 (.t 111)) 110,
 u9G 113 (.bin .neq 2 (.t 112) (u9I 1)) 110,
 oO 114 (.pick (.t 110) (u9B true) (.t 113)),
 oM 115 114,
 u9G 116 (.move (.t 8)) 115,
 u9G 117 (.len 70 (.t 116)) 115,
 u9G 118 (.bin .neq 2 (.t 117) (u9I 0)) 115,
 oO 119 (.pick (.t 115) (u9B true) (.t 118))])
(.cond (.t 119) (.seq (rg [oO 0 (.assign (u9B false))])
(.ret)) (.skip)))
(.seq (rg [oO 120 (.build 65 [(0,(u9I 3)),(1,(u9I 2))]),
 oO 20 (.alloc 65),
 oE (.store 65 (.t 20) (.t 120))])
(.seq (rg [oO 121 (.build 65 [(0,(u9I 1)),(1,(u9I 3))]),
 oO 122 (.build 72 [(0,(.t 121)),(1,(u9I 10))]),
 oO 123 (.build 65 [(0,(u9I 2)),(1,(u9I 7))]),
 oO 124 (.build 72 [(0,(.t 123)),(1,(u9I 10))]),
 oL 125 65 20,
 oO 126 (.build 72 [(0,(.t 125)),(1,(.c (.int .i64 (-10))))]),
 oO 127 (.build 65 [(0,(u9I 4)),(1,(u9I 1))]),
 oO 128 (.build 72 [(0,(.t 127)),(1,(.c (.int .i64 (-10))))]),
 oO 129 (.bslice false 66 4 [(0,(.t 122)),(1,(.t 124)),(2,(.t 126)),(3,(.t 128))]),
 oA 21 129])
(.seq (rg [oM 130 2,
 oM 131 21,
 oO 132 (.call 0 (.f 342) [(.t 130),(.t 131)]),
 oM 133 132,
⟨(some 134),.move (.t 6),(some (133,true))⟩,
⟨(some 135),.move (.t 4),(some (133,true))⟩,
⟨(some 136),.call 0 (.f 346) [(.t 134),(.t 135)],(some (133,true))⟩,
 oO 137 (.pick (.t 133) (.t 136) (u9B false)),
 oM 138 137,
⟨(some 139),.move (.t 4),(some (138,true))⟩,
⟨(some 140),.iaddr 70 (.t 139) (u9I 0),(some (138,true))⟩,
⟨(some 141),.faddr 71 (.t 140) 2,(some (138,true))⟩,
⟨(some 142),.load 2 (.t 141),(some (138,true))⟩,
⟨(some 143),.bin .eql 2 (.t 142) (.c (.int .i64 (-1))),(some (138,true))⟩,
 oO 144 (.pick (.t 138) (.t 143) (u9B false)),
 oM 145 144,
⟨(some 146),.move (.t 10),(some (145,true))⟩,
⟨(some 147),.load 65 (.t 20),(some (145,true))⟩,
⟨(some 148),.build 72 [(0,(.t 147)),(1,(.c (.int .i64 (-10))))],(some (145,true))⟩,
⟨(some 149),.bslice false 66 1 [(0,(.t 148))],(some (145,true))⟩,
⟨(some 150),.call 0 (.f 342) [(.t 146),(.t 149)],(some (145,true))⟩,
 oO 151 (.pick (.t 145) (.t 150) (u9B false)),
 oM 152 151,
⟨(some 153),.move (.t 12),(some (152,true))⟩,
⟨(some 154),.load 65 (.t 20),(some (152,true))⟩,
⟨(some 155),.build 72 [(0,(.t 154))],(some (152,true))⟩,
⟨(some 156),.bslice false 66 1 [(0,(.t 155))],(some (152,true))⟩,
⟨(some 157),.call 0 (.f 342) [(.t 153),(.t 156)],(some (152,true))⟩,
 oO 158 (.pick (.t 152) (.t 157) (u9B false)),
 oM 159 158,
⟨(some 160),.move (.t 16),(some (159,true))⟩,
 oO 161 (.pick (.t 159) (.t 160) (u9B false)),
 oM 162 161,
⟨(some 163),.move (.t 18),(some (162,true))⟩,
 oO 164 (.pick (.t 162) (.t 163) (u9B false)),
 oA 0 164])
(.ret)))))))))))))))⟩

def f340:DFn := ⟨107,[.tmp 8,.tmp 9],
 .seq (rg [oO 4 (.ibox 0 (.t 0)),
 oO 8 (.assign (.c (.imm .exact []))),
 oO 9 (.assign (u9I 0))])
(.seq (.seq (rg [oO 16 (.iload 0 (.t 4)),
 oO 17 (.call 0 (.f 15) [(.t 16)]),
 oA 9 17])
(.seq (rg [oM 18 9,
 oO 19 (.bin .neq 3 (.t 18) (u9I 0))])
(.cond (.t 19) (.seq (rg [oM 20 9,
 oO 8 (.assign (.c (.imm .exact []))),
 oA 9 20])
(.ret)) (.skip))))
(.seq (rg [oO 10 (.assign (.f 367))])
(.seq (.seq (rg [oM 21 1,
 oN 22 6 21,
 oF 23 0 4 2,
 oO 24 (.iload 14 (.t 23)),
 oN 25 14 24,
 oO 26 (.bin .neq 2 (.t 22) (.t 25)),
 oM 27 26,
 u9G 28 (.move (.t 1)) 27,
 u9G 29 (.move (.t 10)) 27,
 u9G 30 (.call 0 (.f 71) [(.t 28),(.t 29)]) 27,
 oO 31 (.pick (.t 27) (u9B true) (.t 30)),
 oM 32 31,
 u9G 33 (.move (.t 2)) 32,
 u9G 34 (.call 0 (.f 368) [(.t 33),(u9I 0),(u9I 3)]) 32,
 u9G 35 (.un .not (.t 34)) 32,
 oO 36 (.pick (.t 32) (u9B true) (.t 35)),
 oM 37 36,
 u9G 38 (.move (.t 3)) 37,
 u9G 39 (.len 36 (.t 38)) 37,
 u9G 40 (.bin .gtr 2 (.t 39) (u9I 1024)) 37,
 oO 41 (.pick (.t 37) (u9B true) (.t 40))])
(.cond (.t 41) (.seq (rg [oO 8 (.assign (.c (.imm .exact []))),
 oO 9 (.assign (u9I 430))])
(.ret)) (.skip)))
(.seq (rg [oO 42 (.mkmap 75),
 oO 11 (.alloc 75),
 oE (.store 75 (.t 11) (.t 42))])
(.seq (.seq (rg [oM 43 3,
 oN 44 36 43,
 oO 45 (.move (u9I 0))])
(.block 0 (.loop (.seq (rg [oO 46 (.bin .lss 2 (.t 45) (.t 44))])
(.seq (.cond (.t 46) (.skip) (.exit 0))
(.seq (.block 1 (.seq (rg [oI 47 36 43 45,
 oL 48 37 47,
 oO 13 (.alloc 37),
 oE (.store 37 (.t 13) (.t 48))])
(.seq (.seq (rg [oF 49 37 13 1,
 oL 50 2 49,
 oF 51 0 4 2,
 oO 52 (.iload 14 (.t 51)),
 oN 53 14 52,
 oO 54 (.bin .sub 2 (.t 53) (u9I 1)),
 oO 55 (.call 0 (.f 368) [(.t 50),(u9I 0),(.t 54)]),
 oO 56 (.un .not (.t 55)),
 oM 57 56,
 u9G 58 (.faddr 0 (.t 4) 2) 57,
 u9G 59 (.iload 14 (.t 58)) 57,
 u9G 60 (.faddr 37 (.t 13) 1) 57,
 u9G 61 (.load 2 (.t 60)) 57,
 u9G 62 (.iaddr 14 (.t 59) (.t 61)) 57,
 u9G 63 (.faddr 15 (.t 62) 0) 57,
 u9G 64 (.load 2 (.t 63)) 57,
 u9G 65 (.call 0 (.f 368) [(.t 64),(u9I 0),(u9I 4095)]) 57,
 u9G 66 (.un .not (.t 65)) 57,
 oO 67 (.pick (.t 57) (u9B true) (.t 66)),
 oM 68 67,
 u9G 69 (.faddr 37 (.t 13) 0) 68,
 u9G 70 (.load 2 (.t 69)) 68,
 u9G 71 (.call 0 (.f 368) [(.t 70),(.c (.int .i64 (-1))),(u9I 7)]) 68,
 u9G 72 (.un .not (.t 71)) 68,
 oO 73 (.pick (.t 68) (u9B true) (.t 72)),
 oM 74 73,
 u9G 75 (.faddr 37 (.t 13) 2) 74,
 u9G 76 (.load 2 (.t 75)) 74,
 u9G 77 (.call 0 (.f 368) [(.t 76),(.c (.int .i64 (-1048576))),(u9I 1048576)]) 74,
 u9G 78 (.un .not (.t 77)) 74,
 oO 79 (.pick (.t 74) (u9B true) (.t 78))])
(.cond (.t 79) (.seq (rg [oO 8 (.assign (.c (.imm .exact []))),
 oO 9 (.assign (u9I 430))])
(.ret)) (.skip)))
(.seq (.region true [] [
 oL 80 37 13,
 oM 81 1,
 oF 82 37 13 1,
 oL 83 2 82,
 oI 84 6 81 83,
 oL 85 2 84,
 oF 86 0 4 2,
 oO 87 (.iload 14 (.t 86)),
 oF 88 37 13 1,
 oL 89 2 88,
 oI 90 14 87 89,
 oF 91 15 90 0,
 oL 92 2 91,
 oM 93 2,
 oO 94 (.call 0 (.f 369) [(.t 80),(.t 85),(.t 92),(.t 93)])])
(.block 2 (.rfunc (.t 94) [95,96] (.seq (rg [oO 14 (.alloc 65),
 oE (.store 65 (.t 14) (.t 95))])
(rg [oA 15 96])) (.block 3 (rg [oL 97 75 11,
 oL 98 65 14,
 oO 99 (.lookup 75 (.t 97) (.t 98) false),
 oM 100 15,
 oO 101 (.bin .add 2 (.t 99) (.t 100)),
 oO 103 (.move (u9B true)),
 oO 102 (.pick (.t 103) (u9B true) (u9B true)),
 oO 103 (.pick (.t 102) (.c .undef) (.c .undef)),
 oO 102 (.move (.c .undef)),
 oE (.mapset 75 (.t 97) (.t 98) (.t 101))]))))))))
(rg [oO 104 (.bin .add 2 (.t 45) (u9I 1)),
 oM 45 104])))))))
(.seq (rg [oL 105 75 11,
 oO 106 (.call 2 (.f 370) [(.t 105)]),
 oA 8 106,
 oO 9 (.assign (u9I 0))])
(.ret)))))))⟩

def f342:DFn := ⟨26,[.tmp 4],
 .seq (rg [oO 4 (.assign (u9B false))])
(.seq (.seq (rg [oM 6 0,
 oN 7 66 6,
 oM 8 1,
 oN 9 66 8,
 oO 10 (.bin .neq 2 (.t 7) (.t 9))])
(.cond (.t 10) (.seq (rg [oO 4 (.assign (u9B false))])
(.ret)) (.skip)))
(.seq (.seq (rg [oO 5 (.assign (u9I 0))])
(.block 0 (.loop (.seq (.seq (rg [oM 11 5,
 oM 12 0,
 oN 13 66 12,
 oO 14 (.bin .lss 2 (.t 11) (.t 13))])
(.cond (.t 14) (.skip) (.exit 0)))
(.seq (.block 1 (.seq (.region true [] [
 oM 17 0,
 oM 18 5,
 oI 19 66 17 18,
 oL 20 72 19,
 oM 21 1,
 oM 22 5,
 oI 23 66 21 22,
 oL 24 72 23,
 oO 25 (.bin .neq 72 (.t 20) (.t 24))])
(.cond (.t 25) (.seq (rg [oO 4 (.assign (u9B false))])
(.ret)) (.skip))))
(rg [oM 15 5,
 oO 16 (.bin .add 2 (.t 15) (u9I 1)),
 oA 5 16]))))))
(.seq (rg [oO 4 (.assign (u9B true))])
(.ret))))⟩

def f344:DFn := ⟨20,[.tmp 2],
 .seq (rg [oO 2 (.assign (u9B false))])
(.seq (.seq (rg [oO 3 (.assign (u9I 0))])
(.block 0 (.loop (.seq (.seq (rg [oM 4 3,
 oM 5 0,
 oN 6 70 5,
 oO 7 (.bin .lss 2 (.t 4) (.t 6))])
(.cond (.t 7) (.skip) (.exit 0)))
(.seq (.block 1 (.seq (rg [oM 10 0,
 oM 11 3,
 oI 12 70 10 11,
 oF 13 71 12 3,
 oL 14 66 13,
 oN 15 66 14,
 oO 16 (.bin .gtr 2 (.t 15) (u9I 40))])
(.cond (.t 16) (.seq (rg [oO 2 (.assign (u9B false))])
(.ret)) (.skip))))
(rg [oM 8 3,
 oO 9 (.bin .add 2 (.t 8) (u9I 1)),
 oA 3 9]))))))
(.seq (rg [oM 17 0,
 oN 18 70 17,
 oO 19 (.bin .leq 2 (.t 18) (u9I 20)),
 oA 2 19])
(.ret)))⟩

def f345:DFn := ⟨84,[.tmp 6,.tmp 7],
 .seq (rg [oO 6 (.assign (.c (.imm .exact []))),
 oO 7 (.assign (u9I 0))])
(.seq (.seq (rg [oM 16 0,
 oO 17 (.call 0 (.f 324) [(.t 16)]),
 oA 7 17])
(.seq (rg [oM 18 7,
 oO 19 (.bin .neq 3 (.t 18) (u9I 0))])
(.cond (.t 19) (.seq (rg [oM 20 7,
 oO 6 (.assign (.c (.imm .exact []))),
 oA 7 20])
(.ret)) (.skip))))
(.seq (.seq (rg [oM 21 2,
 oO 22 (.call 0 (.f 375) [(.t 21)]),
 oO 23 (.un .not (.t 22))])
(.cond (.t 23) (.seq (rg [oO 6 (.assign (.c (.imm .exact []))),
 oO 7 (.assign (u9I 430))])
(.ret)) (.skip)))
(.seq (rg [oO 24 (.mkmap 75),
 oA 8 24])
(.seq (.seq (rg [oM 25 2,
 oN 26 66 25,
 oO 27 (.move (u9I 0))])
(.block 0 (.loop (.seq (rg [oO 28 (.bin .lss 2 (.t 27) (.t 26))])
(.seq (.cond (.t 28) (.skip) (.exit 0))
(.seq (.block 1 (.seq (rg [oI 29 66 25 27,
 oL 30 72 29,
 oO 10 (.alloc 72),
 oE (.store 72 (.t 10) (.t 30))])
(rg [oM 31 8,
 oF 32 72 10 0,
 oL 33 65 32,
 oO 34 (.lookup 75 (.t 31) (.t 33) false),
 oF 35 72 10 1,
 oL 36 2 35,
 oO 37 (.bin .add 2 (.t 34) (.t 36)),
 oO 39 (.move (u9B true)),
 oO 38 (.pick (.t 39) (u9B true) (u9B true)),
 oO 39 (.pick (.t 38) (.c .undef) (.c .undef)),
 oO 38 (.move (.c .undef)),
 oE (.mapset 75 (.t 31) (.t 33) (.t 37))])))
(rg [oO 40 (.bin .add 2 (.t 27) (u9I 1)),
 oM 27 40])))))))
(.seq (.seq (rg [oM 41 0,
 oN 42 70 41,
 oO 43 (.move (u9I 0))])
(.block 2 (.loop (.seq (rg [oO 44 (.bin .lss 2 (.t 43) (.t 42))])
(.seq (.cond (.t 44) (.skip) (.exit 2))
(.seq (.block 3 (.seq (rg [oI 45 70 41 43,
 oL 46 71 45,
 oO 12 (.alloc 71),
 oE (.store 71 (.t 12) (.t 46))])
(.seq (rg [oF 47 71 12 3,
 oL 48 66 47,
 oN 49 66 48,
 oO 50 (.move (u9I 0))])
(.block 4 (.loop (.seq (rg [oO 51 (.bin .lss 2 (.t 50) (.t 49))])
(.seq (.cond (.t 51) (.skip) (.exit 4))
(.seq (.block 5 (.seq (rg [oI 52 66 48 50,
 oL 53 72 52,
 oO 14 (.alloc 72),
 oE (.store 72 (.t 14) (.t 53))])
(.seq (rg [oF 54 72 14 0,
 oF 55 65 54 0,
 oL 56 2 55,
 oO 57 (.bin .leq 2 (.t 56) (u9I 4))])
(.cond (.t 57) (rg [oM 58 8,
 oF 59 72 14 0,
 oL 60 65 59,
 oO 61 (.lookup 75 (.t 58) (.t 60) false),
 oF 62 72 14 1,
 oL 63 2 62,
 oO 64 (.bin .sub 2 (.t 61) (.t 63)),
 oO 66 (.move (u9B true)),
 oO 65 (.pick (.t 66) (u9B true) (u9B true)),
 oO 66 (.pick (.t 65) (.c .undef) (.c .undef)),
 oO 65 (.move (.c .undef)),
 oE (.mapset 75 (.t 58) (.t 60) (.t 64))]) (.skip)))))
(rg [oO 67 (.bin .add 2 (.t 50) (u9I 1)),
 oM 50 67])))))))))
(rg [oO 68 (.bin .add 2 (.t 43) (u9I 1)),
 oM 43 68])))))))
(.seq (rg [oM 69 8,
 oO 70 (.call 2 (.f 370) [(.t 69)]),
 oA 15 70])
(.seq (.seq (rg [oM 71 15,
 oN 72 66 71,
 oO 73 (.bin .eql 2 (.t 72) (u9I 0))])
(.cond (.t 73) (.seq (rg [oM 74 0,
 oA 6 74,
 oO 7 (.assign (u9I 0))])
(.ret)) (.skip)))
(.seq (rg [oM 75 0,
 oM 76 1,
 oM 77 0,
 oN 78 70 77,
 oO 79 (.bin .sub 2 (.t 78) (u9I 1)),
 oM 80 15,
 oO 81 (.call 0 (.f 316) [(.t 75),(.t 76),(.t 79),(.t 80)]),
 oO 82 (.extract (.t 81) 0),
 oO 83 (.extract (.t 81) 1),
 oA 6 82,
 oA 7 83])
(.ret)))))))))⟩

def f346:DFn := ⟨81,[.tmp 4],
 .seq (rg [oO 4 (.assign (u9B false))])
(.seq (.seq (rg [oM 6 0,
 oN 7 70 6,
 oM 8 1,
 oN 9 70 8,
 oO 10 (.bin .neq 2 (.t 7) (.t 9))])
(.cond (.t 10) (.seq (rg [oO 4 (.assign (u9B false))])
(.ret)) (.skip)))
(.seq (.seq (rg [oO 5 (.assign (u9I 0))])
(.block 0 (.loop (.seq (.seq (rg [oM 11 5,
 oM 12 0,
 oN 13 70 12,
 oO 14 (.bin .lss 2 (.t 11) (.t 13))])
(.cond (.t 14) (.skip) (.exit 0)))
(.seq (.block 1 (.seq (.region true [] [
 oM 17 0,
 oM 18 5,
 oI 19 70 17 18,
 oF 20 71 19 0,
 oL 21 2 20,
 oM 22 1,
 oM 23 5,
 oI 24 70 22 23,
 oF 25 71 24 0,
 oL 26 2 25,
 oO 27 (.bin .neq 2 (.t 21) (.t 26)),
 oM 28 27,
 u9G 29 (.move (.t 0)) 28,
 u9G 30 (.move (.t 5)) 28,
 u9G 31 (.iaddr 70 (.t 29) (.t 30)) 28,
 u9G 32 (.faddr 71 (.t 31) 1) 28,
 u9G 33 (.load 2 (.t 32)) 28,
 u9G 34 (.move (.t 1)) 28,
 u9G 35 (.move (.t 5)) 28,
 u9G 36 (.iaddr 70 (.t 34) (.t 35)) 28,
 u9G 37 (.faddr 71 (.t 36) 1) 28,
 u9G 38 (.load 2 (.t 37)) 28,
 u9G 39 (.bin .neq 2 (.t 33) (.t 38)) 28,
 oO 40 (.pick (.t 28) (u9B true) (.t 39)),
 oM 41 40,
 u9G 42 (.move (.t 0)) 41,
 u9G 43 (.move (.t 5)) 41,
 u9G 44 (.iaddr 70 (.t 42) (.t 43)) 41,
 u9G 45 (.faddr 71 (.t 44) 2) 41,
 u9G 46 (.load 2 (.t 45)) 41,
 u9G 47 (.move (.t 1)) 41,
 u9G 48 (.move (.t 5)) 41,
 u9G 49 (.iaddr 70 (.t 47) (.t 48)) 41,
 u9G 50 (.faddr 71 (.t 49) 2) 41,
 u9G 51 (.load 2 (.t 50)) 41,
 u9G 52 (.bin .neq 2 (.t 46) (.t 51)) 41,
 oO 53 (.pick (.t 41) (u9B true) (.t 52)),
 oM 54 53,
 u9G 55 (.move (.t 0)) 54,
 u9G 56 (.move (.t 5)) 54,
 u9G 57 (.iaddr 70 (.t 55) (.t 56)) 54,
 u9G 58 (.faddr 71 (.t 57) 4) 54,
 u9G 59 (.load 73 (.t 58)) 54,
 u9G 60 (.move (.t 1)) 54,
 u9G 61 (.move (.t 5)) 54,
 u9G 62 (.iaddr 70 (.t 60) (.t 61)) 54,
 u9G 63 (.faddr 71 (.t 62) 4) 54,
 u9G 64 (.load 73 (.t 63)) 54,
 u9G 65 (.bin .neq 73 (.t 59) (.t 64)) 54,
 oO 66 (.pick (.t 54) (u9B true) (.t 65)),
 oM 67 66,
 u9G 68 (.move (.t 0)) 67,
 u9G 69 (.move (.t 5)) 67,
 u9G 70 (.iaddr 70 (.t 68) (.t 69)) 67,
 u9G 71 (.faddr 71 (.t 70) 3) 67,
 u9G 72 (.load 66 (.t 71)) 67,
 u9G 73 (.move (.t 1)) 67,
 u9G 74 (.move (.t 5)) 67,
 u9G 75 (.iaddr 70 (.t 73) (.t 74)) 67,
 u9G 76 (.faddr 71 (.t 75) 3) 67,
 u9G 77 (.load 66 (.t 76)) 67,
 u9G 78 (.call 0 (.f 342) [(.t 72),(.t 77)]) 67,
 u9G 79 (.un .not (.t 78)) 67,
 oO 80 (.pick (.t 67) (u9B true) (.t 79))])
(.cond (.t 80) (.seq (rg [oO 4 (.assign (u9B false))])
(.ret)) (.skip))))
(rg [oM 15 5,
 oO 16 (.bin .add 2 (.t 15) (u9I 1)),
 oA 5 16]))))))
(.seq (rg [oO 4 (.assign (u9B true))])
(.ret))))⟩

def f350:DFn := ⟨50,[.tmp 2,.tmp 3],
 .seq (rg [oO 2 (.assign (u9B false)),
 oO 3 (.assign (u9I 0))])
(.seq (.seq (rg [oM 10 0,
 oO 11 (.call 0 (.f 324) [(.t 10)]),
 oA 3 11])
(.seq (rg [oM 12 3,
 oO 13 (.bin .neq 3 (.t 12) (u9I 0))])
(.cond (.t 13) (.seq (rg [oM 14 3,
 oO 2 (.assign (u9B false)),
 oA 3 14])
(.ret)) (.skip))))
(.seq (.seq (rg [oM 15 0,
 oN 16 70 15,
 oO 17 (.move (u9I 0))])
(.block 0 (.loop (.seq (rg [oO 18 (.bin .lss 2 (.t 17) (.t 16))])
(.seq (.cond (.t 18) (.skip) (.exit 0))
(.seq (.block 1 (.seq (rg [oM 19 17,
 oA 4 19])
(.seq (rg [oO 5 (.assign (u9I 0))])
(.seq (.seq (rg [oM 20 0,
 oN 21 70 20,
 oO 22 (.move (u9I 0))])
(.block 2 (.loop (.seq (rg [oO 23 (.bin .lss 2 (.t 22) (.t 21))])
(.seq (.cond (.t 23) (.skip) (.exit 2))
(.seq (.block 3 (.seq (rg [oI 24 70 20 22,
 oL 25 71 24,
 oO 7 (.alloc 71),
 oE (.store 71 (.t 7) (.t 25))])
(.seq (.region true [] [
 oF 26 71 7 1,
 oL 27 2 26,
 oM 28 0,
 oM 29 4,
 oI 30 70 28 29,
 oF 31 71 30 1,
 oL 32 2 31,
 oO 33 (.bin .leq 2 (.t 27) (.t 32))])
(.cond (.t 33) (.seq (rg [oF 34 71 7 3,
 oL 35 66 34,
 oN 36 66 35,
 oO 37 (.move (u9I 0))])
(.block 4 (.loop (.seq (rg [oO 38 (.bin .lss 2 (.t 37) (.t 36))])
(.seq (.cond (.t 38) (.skip) (.exit 4))
(.seq (.block 5 (.seq (rg [oI 39 66 35 37,
 oL 40 72 39,
 oO 9 (.alloc 72),
 oE (.store 72 (.t 9) (.t 40))])
(rg [oM 41 5,
 oF 42 72 9 1,
 oL 43 2 42,
 oO 44 (.bin .add 2 (.t 41) (.t 43)),
 oA 5 44])))
(rg [oO 45 (.bin .add 2 (.t 37) (u9I 1)),
 oM 37 45]))))))) (.skip)))))
(rg [oO 46 (.bin .add 2 (.t 22) (u9I 1)),
 oM 22 46])))))))
(.seq (rg [oM 47 5,
 oO 48 (.bin .neq 2 (.t 47) (u9I 0))])
(.cond (.t 48) (.seq (rg [oO 2 (.assign (u9B false)),
 oO 3 (.assign (u9I 0))])
(.ret)) (.skip)))))))
(rg [oO 49 (.bin .add 2 (.t 17) (u9I 1)),
 oM 17 49])))))))
(.seq (rg [oO 2 (.assign (u9B true)),
 oO 3 (.assign (u9I 0))])
(.ret))))⟩

def f352:DFn := ⟨49,[.tmp 6,.tmp 7],
 .seq (rg [oO 6 (.assign (.c (.imm .exact []))),
 oO 7 (.assign (u9I 0))])
(.seq (.seq (rg [oM 12 0,
 oO 13 (.call 0 (.f 324) [(.t 12)]),
 oA 7 13])
(.seq (rg [oM 14 7,
 oO 15 (.bin .neq 3 (.t 14) (u9I 0))])
(.cond (.t 15) (.seq (rg [oM 16 7,
 oO 6 (.assign (.c (.imm .exact []))),
 oA 7 16])
(.ret)) (.skip))))
(.seq (.seq (rg [oM 17 1,
 oO 18 (.call 0 (.f 368) [(.t 17),(u9I 1),(u9I 5)]),
 oO 19 (.un .not (.t 18))])
(.cond (.t 19) (.seq (rg [oO 6 (.assign (.c (.imm .exact []))),
 oO 7 (.assign (u9I 430))])
(.ret)) (.skip)))
(.seq (.seq (rg [oM 20 0,
 oO 21 (.call 0 (.f 325) [(.t 20)]),
 oN 22 67 21,
 oO 23 (.move (u9I 0))])
(.block 0 (.loop (.seq (rg [oO 24 (.bin .lss 2 (.t 23) (.t 22))])
(.seq (.cond (.t 24) (.skip) (.exit 0))
(.seq (.block 1 (.seq (rg [oI 25 67 21 23,
 oL 26 65 25,
 oO 9 (.alloc 65),
 oE (.store 65 (.t 9) (.t 26))])
(.seq (rg [oF 27 65 9 0,
 oL 28 2 27,
 oM 29 1,
 oO 30 (.bin .eql 2 (.t 28) (.t 29))])
(.cond (.t 30) (.seq (rg [oM 32 0,
 oL 33 65 9,
 oM 34 2,
 oO 35 (.call 0 (.f 318) [(.t 32),(.t 33),(.t 34)]),
 oM 31 35,
 oO 36 (.extract (.t 31) 0),
 oO 37 (.extract (.t 31) 1),
 oA 10 36,
 oA 11 37])
(.seq (.seq (rg [oM 38 11,
 oO 39 (.bin .neq 3 (.t 38) (u9I 0))])
(.cond (.t 39) (.seq (rg [oM 40 11,
 oO 6 (.assign (.c (.imm .exact []))),
 oA 7 40])
(.ret)) (.skip)))
(rg [oM 41 6,
 oL 42 65 9,
 oM 43 10,
 oO 44 (.build 72 [(0,(.t 42)),(1,(.t 43))]),
 oO 45 (.bslice false 66 1 [(0,(.t 44))]),
 oO 46 (.append 0 66 66 (.t 41) (.t 45)),
 oA 6 46]))) (.skip)))))
(rg [oO 47 (.bin .add 2 (.t 23) (u9I 1)),
 oM 23 47])))))))
(.seq (rg [oM 48 6,
 oA 6 48,
 oO 7 (.assign (u9I 0))])
(.ret)))))⟩

def f354:DFn := ⟨74,[.cell 2 73,.tmp 3],
 .seq (rg [oO 2 (.alloc 73),
 oO 3 (.assign (u9I 0))])
(.seq (.seq (rg [oM 12 0,
 oN 13 70 12,
 oO 14 (.bin .gtr 2 (.t 13) (u9I 65536))])
(.cond (.t 14) (.seq (rg [oL 15 73 2,
 oE (.store 73 (.t 2) (.t 15)),
 oO 3 (.assign (u9I 2))])
(.ret)) (.skip)))
(.seq (.seq (rg [oM 16 0,
 oN 17 70 16,
 oO 18 (.move (u9I 0))])
(.block 0 (.loop (.seq (rg [oO 19 (.bin .lss 2 (.t 18) (.t 17))])
(.seq (.cond (.t 19) (.skip) (.exit 0))
(.seq (.block 1 (.seq (rg [oI 20 70 16 18,
 oL 21 71 20,
 oO 5 (.alloc 71),
 oE (.store 71 (.t 5) (.t 21))])
(.seq (rg [oL 22 71 5,
 oO 23 (.call 0 (.f 355) [(.t 22)]),
 oA 6 23])
(.seq (rg [oM 24 6,
 oO 25 (.bin .neq 3 (.t 24) (u9I 0))])
(.cond (.t 25) (.seq (rg [oL 26 73 2,
 oM 27 6,
 oE (.store 73 (.t 2) (.t 26)),
 oA 3 27])
(.ret)) (.skip))))))
(rg [oO 28 (.bin .add 2 (.t 18) (u9I 1)),
 oM 18 28])))))))
(.seq (rg [oO 29 (.call 0 (.f 331) [(.c (.str [112,111,115,116,105,110,103,115])),(.c (.imm .exact []))]),
 oO 7 (.alloc 73),
 oE (.store 73 (.t 7) (.t 29))])
(.seq (.seq (rg [oM 30 0,
 oN 31 70 30,
 oO 32 (.move (u9I 0))])
(.block 2 (.loop (.seq (rg [oO 33 (.bin .lss 2 (.t 32) (.t 31))])
(.seq (.cond (.t 33) (.skip) (.exit 2))
(.seq (.block 3 (.seq (rg [oM 34 32,
 oI 35 70 30 32,
 oL 36 71 35,
 oO 9 (.alloc 71),
 oA 8 34,
 oE (.store 71 (.t 9) (.t 36))])
(.seq (.seq (.region true [] [
 oF 37 71 9 0,
 oL 38 2 37,
 oM 39 8,
 oO 40 (.bin .neq 2 (.t 38) (.t 39)),
 oM 41 40,
 u9G 42 (.move (.t 8)) 41,
 u9G 43 (.bin .gtr 2 (.t 42) (u9I 0)) 41,
 u9G 44 (.move (.t 43)) 41,
⟨(some 45),.move (.t 0),(some (44,true))⟩,
⟨(some 46),.move (.t 8),(some (44,true))⟩,
⟨(some 47),.bin .sub 2 (.t 46) (u9I 1),(some (44,true))⟩,
⟨(some 48),.iaddr 70 (.t 45) (.t 47),(some (44,true))⟩,
⟨(some 49),.faddr 71 (.t 48) 1,(some (44,true))⟩,
⟨(some 50),.load 2 (.t 49),(some (44,true))⟩,
⟨(some 51),.faddr 71 (.t 9) 1,(some (44,true))⟩,
⟨(some 52),.load 2 (.t 51),(some (44,true))⟩,
⟨(some 53),.bin .gtr 2 (.t 50) (.t 52),(some (44,true))⟩,
 u9G 54 (.pick (.t 44) (.t 53) (u9B false)) 41,
 oO 55 (.pick (.t 41) (u9B true) (.t 54)),
 oM 56 55,
 u9G 57 (.faddr 71 (.t 9) 4) 56,
 u9G 58 (.load 73 (.t 57)) 56,
 u9G 59 (.load 73 (.t 7)) 56,
 u9G 60 (.bin .neq 73 (.t 58) (.t 59)) 56,
 oO 61 (.pick (.t 56) (u9B true) (.t 60))])
(.cond (.t 61) (.seq (rg [oL 62 73 2,
 oE (.store 73 (.t 2) (.t 62)),
 oO 3 (.assign (u9I 410))])
(.ret)) (.skip)))
(.seq (rg [oL 64 71 9,
 oO 65 (.call 0 (.f 334) [(.t 64)]),
 oM 63 65,
 oO 66 (.extract (.t 63) 0),
 oO 67 (.extract (.t 63) 1),
 oA 10 66,
 oA 11 67])
(.region true [] [
 oL 68 73 7,
 oM 69 10,
 oO 70 (.call 0 (.f 331) [(.c (.str [112,111,115,116,105,110,103])),(.t 69)]),
 oO 71 (.call 0 (.f 335) [(.t 68),(.t 70)]),
 oE (.store 73 (.t 7) (.t 71))])))))
(rg [oO 72 (.bin .add 2 (.t 32) (u9I 1)),
 oM 32 72])))))))
(.seq (rg [oL 73 73 7,
 oE (.store 73 (.t 2) (.t 73)),
 oO 3 (.assign (u9I 0))])
(.ret))))))⟩

def f355:DFn := ⟨115,[.tmp 2],
 .seq (rg [oO 1 (.ibox 71 (.t 0)),
 oO 2 (.assign (u9I 0))])
(.seq (.seq (rg [oF 6 71 1 0,
 oO 7 (.iload 2 (.t 6)),
 oO 8 (.bin .lss 2 (.t 7) (u9I 0)),
 oM 9 8,
 u9G 10 (.faddr 71 (.t 1) 0) 9,
 u9G 11 (.iload 2 (.t 10)) 9,
 u9G 12 (.bin .geq 2 (.t 11) (u9I 65536)) 9,
 oO 13 (.pick (.t 9) (u9B true) (.t 12)),
 oM 14 13,
 u9G 15 (.faddr 71 (.t 1) 1) 14,
 u9G 16 (.iload 2 (.t 15)) 14,
 u9G 17 (.bin .lss 2 (.t 16) (u9I 0)) 14,
 oO 18 (.pick (.t 14) (u9B true) (.t 17)),
 oM 19 18,
 u9G 20 (.faddr 71 (.t 1) 1) 19,
 u9G 21 (.iload 2 (.t 20)) 19,
 u9G 22 (.bin .geq 2 (.t 21) (u9I 1440)) 19,
 oO 23 (.pick (.t 19) (u9B true) (.t 22)),
 oM 24 23,
 u9G 25 (.faddr 71 (.t 1) 2) 24,
 u9G 26 (.iload 2 (.t 25)) 24,
 u9G 27 (.bin .lss 2 (.t 26) (.c (.int .i64 (-1)))) 24,
 oO 28 (.pick (.t 24) (u9B true) (.t 27)),
 oM 29 28,
 u9G 30 (.faddr 71 (.t 1) 2) 29,
 u9G 31 (.iload 2 (.t 30)) 29,
 u9G 32 (.faddr 71 (.t 1) 0) 29,
 u9G 33 (.iload 2 (.t 32)) 29,
 u9G 34 (.bin .geq 2 (.t 31) (.t 33)) 29,
 oO 35 (.pick (.t 29) (u9B true) (.t 34)),
 oM 36 35,
 u9G 37 (.faddr 71 (.t 1) 3) 36,
 u9G 38 (.iload 66 (.t 37)) 36,
 u9G 39 (.len 66 (.t 38)) 36,
 u9G 40 (.bin .lss 2 (.t 39) (u9I 2)) 36,
 oO 41 (.pick (.t 36) (u9B true) (.t 40)),
 oM 42 41,
 u9G 43 (.faddr 71 (.t 1) 3) 42,
 u9G 44 (.iload 66 (.t 43)) 42,
 u9G 45 (.len 66 (.t 44)) 42,
 u9G 46 (.bin .gtr 2 (.t 45) (u9I 4096)) 42,
 oO 47 (.pick (.t 42) (u9B true) (.t 46))])
(.cond (.t 47) (.seq (rg [oO 2 (.assign (u9I 410))])
(.ret)) (.skip)))
(.seq (rg [oO 3 (.assign (u9I 0))])
(.seq (.seq (rg [oF 48 71 1 3,
 oO 49 (.iload 66 (.t 48)),
 oN 50 66 49,
 oO 51 (.move (u9I 0))])
(.block 0 (.loop (.seq (rg [oO 52 (.bin .lss 2 (.t 51) (.t 50))])
(.seq (.cond (.t 52) (.skip) (.exit 0))
(.seq (.block 1 (.seq (rg [oM 53 51,
 oI 54 66 49 51,
 oL 55 72 54,
 oO 5 (.alloc 72),
 oA 4 53,
 oE (.store 72 (.t 5) (.t 55))])
(.seq (.seq (rg [oF 56 72 5 0,
 oF 57 65 56 0,
 oL 58 2 57,
 oO 59 (.bin .lss 2 (.t 58) (u9I 1)),
 oM 60 59,
 u9G 61 (.faddr 72 (.t 5) 0) 60,
 u9G 62 (.faddr 65 (.t 61) 0) 60,
 u9G 63 (.load 2 (.t 62)) 60,
 u9G 64 (.bin .gtr 2 (.t 63) (u9I 5)) 60,
 oO 65 (.pick (.t 60) (u9B true) (.t 64)),
 oM 66 65,
 u9G 67 (.faddr 72 (.t 5) 0) 66,
 u9G 68 (.faddr 65 (.t 67) 1) 66,
 u9G 69 (.load 2 (.t 68)) 66,
 u9G 70 (.bin .lss 2 (.t 69) (.c (.int .i64 (-1)))) 66,
 oO 71 (.pick (.t 66) (u9B true) (.t 70)),
 oM 72 71,
 u9G 73 (.faddr 72 (.t 5) 0) 72,
 u9G 74 (.faddr 65 (.t 73) 1) 72,
 u9G 75 (.load 2 (.t 74)) 72,
 u9G 76 (.bin .gtr 2 (.t 75) (u9I 4095)) 72,
 oO 77 (.pick (.t 72) (u9B true) (.t 76)),
 oM 78 77,
 u9G 79 (.faddr 72 (.t 5) 1) 78,
 u9G 80 (.load 2 (.t 79)) 78,
 u9G 81 (.bin .eql 2 (.t 80) (u9I 0)) 78,
 oO 82 (.pick (.t 78) (u9B true) (.t 81)),
 oM 83 82,
 u9G 84 (.faddr 72 (.t 5) 1) 83,
 u9G 85 (.load 2 (.t 84)) 83,
 u9G 86 (.bin .lss 2 (.t 85) (.c (.int .i64 (-1099511627776)))) 83,
 oO 87 (.pick (.t 83) (u9B true) (.t 86)),
 oM 88 87,
 u9G 89 (.faddr 72 (.t 5) 1) 88,
 u9G 90 (.load 2 (.t 89)) 88,
 u9G 91 (.bin .gtr 2 (.t 90) (u9I 1099511627776)) 88,
 oO 92 (.pick (.t 88) (u9B true) (.t 91))])
(.cond (.t 92) (.seq (rg [oO 2 (.assign (u9I 410))])
(.ret)) (.skip)))
(.seq (.seq (.region true [] [
 oM 93 4,
 oO 94 (.bin .gtr 2 (.t 93) (u9I 0)),
 oM 95 94,
⟨(some 96),.faddr 71 (.t 1) 3,(some (95,true))⟩,
⟨(some 97),.iload 66 (.t 96),(some (95,true))⟩,
⟨(some 98),.move (.t 4),(some (95,true))⟩,
⟨(some 99),.bin .sub 2 (.t 98) (u9I 1),(some (95,true))⟩,
⟨(some 100),.iaddr 66 (.t 97) (.t 99),(some (95,true))⟩,
⟨(some 101),.faddr 72 (.t 100) 0,(some (95,true))⟩,
⟨(some 102),.load 65 (.t 101),(some (95,true))⟩,
⟨(some 103),.faddr 72 (.t 5) 0,(some (95,true))⟩,
⟨(some 104),.load 65 (.t 103),(some (95,true))⟩,
⟨(some 105),.call 0 (.f 362) [(.t 102),(.t 104)],(some (95,true))⟩,
⟨(some 106),.bin .geq 2 (.t 105) (u9I 0),(some (95,true))⟩,
 oO 107 (.pick (.t 95) (.t 106) (u9B false))])
(.cond (.t 107) (.seq (rg [oO 2 (.assign (u9I 410))])
(.ret)) (.skip)))
(rg [oM 108 3,
 oF 109 72 5 1,
 oL 110 2 109,
 oO 111 (.bin .add 2 (.t 108) (.t 110)),
 oA 3 111])))))
(rg [oO 112 (.bin .add 2 (.t 51) (u9I 1)),
 oM 51 112])))))))
(.seq (.seq (rg [oM 113 3,
 oO 114 (.bin .neq 2 (.t 113) (u9I 0))])
(.cond (.t 114) (.seq (rg [oO 2 (.assign (u9I 411))])
(.ret)) (.skip)))
(.seq (rg [oO 2 (.assign (u9I 0))])
(.ret))))))⟩

def f356:DFn := ⟨8,[.tmp 2],
 .seq (rg [ oO 2 (.assign (.c (.imm .exact [])))]) (.seq (rg [oO 5 (.bslice false 70 0 []),
 oM 6 0,
 oO 7 (.append 1 70 70 (.t 5) (.t 6)),
 oA 2 7]) .ret)⟩

def f357:DFn := ⟨27,[.cell 2 73,.tmp 3],
 .seq (rg [oO 2 (.alloc 73),
 oO 3 (.assign (u9I 0))])
(.seq (rg [oM 7 0,
 oO 8 (.call 0 (.f 360) [(.t 7)]),
 oA 4 8])
(.seq (.seq (rg [oM 9 4,
 oO 10 (.bin .neq 3 (.t 9) (u9I 0))])
(.cond (.t 10) (.seq (rg [oO 11 (.build 73 []),
 oM 12 4,
 oE (.store 73 (.t 2) (.t 11)),
 oA 3 12])
(.ret)) (.skip)))
(.seq (rg [oO 13 (.call 0 (.f 376) []),
 oO 5 (.alloc 73),
 oE (.store 73 (.t 5) (.t 13))])
(.seq (.seq (rg [oO 6 (.assign (u9I 0))])
(.block 0 (.loop (.seq (.seq (rg [oM 14 6,
 oM 15 0,
 oN 16 70 15,
 oO 17 (.bin .lss 2 (.t 14) (.t 16))])
(.cond (.t 17) (.skip) (.exit 0)))
(.seq (.block 1 (.region true [] [
 oL 20 73 5,
 oM 21 0,
 oM 22 6,
 oI 23 70 21 22,
 oL 24 71 23,
 oO 25 (.call 0 (.f 377) [(.t 20),(.t 24)]),
 oE (.store 73 (.t 5) (.t 25))]))
(rg [oM 18 6,
 oO 19 (.bin .add 2 (.t 18) (u9I 1)),
 oA 6 19]))))))
(.seq (rg [oL 26 73 5,
 oE (.store 73 (.t 2) (.t 26)),
 oO 3 (.assign (u9I 0))])
(.ret))))))⟩

def f358:DFn := ⟨43,[.tmp 2],
 .seq (rg [oO 1 (.ibox 71 (.t 0)),
 oO 2 (.assign (u9I 0))])
(.seq (.seq (rg [oF 3 71 1 0,
 oO 4 (.iload 2 (.t 3)),
 oO 5 (.bin .lss 2 (.t 4) (u9I 0)),
 oM 6 5,
 u9G 7 (.faddr 71 (.t 1) 0) 6,
 u9G 8 (.iload 2 (.t 7)) 6,
 u9G 9 (.bin .gtr 2 (.t 8) (u9I 65535)) 6,
 oO 10 (.pick (.t 6) (u9B true) (.t 9)),
 oM 11 10,
 u9G 12 (.faddr 71 (.t 1) 1) 11,
 u9G 13 (.iload 2 (.t 12)) 11,
 u9G 14 (.bin .lss 2 (.t 13) (u9I 0)) 11,
 oO 15 (.pick (.t 11) (u9B true) (.t 14)),
 oM 16 15,
 u9G 17 (.faddr 71 (.t 1) 1) 16,
 u9G 18 (.iload 2 (.t 17)) 16,
 u9G 19 (.bin .geq 2 (.t 18) (u9I 1440)) 16,
 oO 20 (.pick (.t 16) (u9B true) (.t 19)),
 oM 21 20,
 u9G 22 (.faddr 71 (.t 1) 2) 21,
 u9G 23 (.iload 2 (.t 22)) 21,
 u9G 24 (.bin .lss 2 (.t 23) (.c (.int .i64 (-1)))) 21,
 oO 25 (.pick (.t 21) (u9B true) (.t 24)),
 oM 26 25,
 u9G 27 (.faddr 71 (.t 1) 2) 26,
 u9G 28 (.iload 2 (.t 27)) 26,
 u9G 29 (.faddr 71 (.t 1) 0) 26,
 u9G 30 (.iload 2 (.t 29)) 26,
 u9G 31 (.bin .geq 2 (.t 28) (.t 30)) 26,
 oO 32 (.pick (.t 26) (u9B true) (.t 31)),
 oM 33 32,
 u9G 34 (.faddr 71 (.t 1) 3) 33,
 u9G 35 (.iload 66 (.t 34)) 33,
 u9G 36 (.call 0 (.f 378) [(.t 35)]) 33,
 u9G 37 (.un .not (.t 36)) 33,
 oO 38 (.pick (.t 33) (u9B true) (.t 37))])
(.cond (.t 38) (.seq (rg [oO 2 (.assign (u9I 410))])
(.ret)) (.skip)))
(.seq (.seq (rg [oF 39 71 1 3,
 oO 40 (.iload 66 (.t 39)),
 oO 41 (.call 0 (.f 379) [(.t 40)]),
 oO 42 (.bin .neq 2 (.t 41) (u9I 0))])
(.cond (.t 42) (.seq (rg [oO 2 (.assign (u9I 411))])
(.ret)) (.skip)))
(.seq (rg [oO 2 (.assign (u9I 0))])
(.ret))))⟩

def f359:DFn := ⟨4,[.tmp 2],
 .seq (rg [oO 1 (.ibox 70 (.t 0)),
 oO 2 (.assign (.c .nilfn))])
(.seq (rg [oO 3 (.mkfn 380 [(.t 1)]),
 oA 2 3])
(.ret))⟩

def f360:DFn := ⟨71,[.tmp 2],
 .seq (rg [oO 2 (.assign (u9I 0))])
(.seq (.seq (rg [oM 7 0,
 oN 8 70 7,
 oO 9 (.bin .gtr 2 (.t 8) (u9I 65536))])
(.cond (.t 9) (.seq (rg [oO 2 (.assign (u9I 2))])
(.ret)) (.skip)))
(.seq (.seq (rg [oO 3 (.assign (u9I 0))])
(.block 0 (.loop (.seq (.seq (rg [oM 10 3,
 oM 11 0,
 oN 12 70 11,
 oO 13 (.bin .lss 2 (.t 10) (.t 12))])
(.cond (.t 13) (.skip) (.exit 0)))
(.seq (.block 1 (.seq (rg [oM 16 0,
 oM 17 3,
 oI 18 70 16 17,
 oL 19 71 18,
 oO 20 (.call 0 (.f 358) [(.t 19)]),
 oA 4 20])
(.seq (rg [oM 21 4,
 oO 22 (.bin .neq 3 (.t 21) (u9I 0))])
(.cond (.t 22) (.seq (rg [oM 23 4,
 oA 2 23])
(.ret)) (.skip)))))
(rg [oM 14 3,
 oO 15 (.bin .add 2 (.t 14) (u9I 1)),
 oA 3 15]))))))
(.seq (rg [oO 24 (.call 0 (.f 376) []),
 oO 5 (.alloc 73),
 oE (.store 73 (.t 5) (.t 24))])
(.seq (.seq (rg [oO 6 (.assign (u9I 0))])
(.block 2 (.loop (.seq (.seq (rg [oM 25 6,
 oM 26 0,
 oN 27 70 26,
 oO 28 (.bin .lss 2 (.t 25) (.t 27))])
(.cond (.t 28) (.skip) (.exit 2)))
(.seq (.block 3 (.seq (.seq (.region true [] [
 oM 31 0,
 oM 32 6,
 oI 33 70 31 32,
 oF 34 71 33 0,
 oL 35 2 34,
 oM 36 6,
 oO 37 (.bin .neq 2 (.t 35) (.t 36)),
 oM 38 37,
 u9G 39 (.move (.t 6)) 38,
 u9G 40 (.bin .gtr 2 (.t 39) (u9I 0)) 38,
 u9G 41 (.move (.t 40)) 38,
⟨(some 42),.move (.t 0),(some (41,true))⟩,
⟨(some 43),.move (.t 6),(some (41,true))⟩,
⟨(some 44),.bin .sub 2 (.t 43) (u9I 1),(some (41,true))⟩,
⟨(some 45),.iaddr 70 (.t 42) (.t 44),(some (41,true))⟩,
⟨(some 46),.faddr 71 (.t 45) 1,(some (41,true))⟩,
⟨(some 47),.load 2 (.t 46),(some (41,true))⟩,
⟨(some 48),.move (.t 0),(some (41,true))⟩,
⟨(some 49),.move (.t 6),(some (41,true))⟩,
⟨(some 50),.iaddr 70 (.t 48) (.t 49),(some (41,true))⟩,
⟨(some 51),.faddr 71 (.t 50) 1,(some (41,true))⟩,
⟨(some 52),.load 2 (.t 51),(some (41,true))⟩,
⟨(some 53),.bin .gtr 2 (.t 47) (.t 52),(some (41,true))⟩,
 u9G 54 (.pick (.t 41) (.t 53) (u9B false)) 38,
 oO 55 (.pick (.t 38) (u9B true) (.t 54)),
 oM 56 55,
 u9G 57 (.move (.t 0)) 56,
 u9G 58 (.move (.t 6)) 56,
 u9G 59 (.iaddr 70 (.t 57) (.t 58)) 56,
 u9G 60 (.faddr 71 (.t 59) 4) 56,
 u9G 61 (.load 73 (.t 60)) 56,
 u9G 62 (.load 73 (.t 5)) 56,
 u9G 63 (.bin .neq 73 (.t 61) (.t 62)) 56,
 oO 64 (.pick (.t 56) (u9B true) (.t 63))])
(.cond (.t 64) (.seq (rg [oO 2 (.assign (u9I 410))])
(.ret)) (.skip)))
(.region true [] [
 oL 65 73 5,
 oM 66 0,
 oM 67 6,
 oI 68 70 66 67,
 oL 69 71 68,
 oO 70 (.call 0 (.f 377) [(.t 65),(.t 69)]),
 oE (.store 73 (.t 5) (.t 70))])))
(rg [oM 29 6,
 oO 30 (.bin .add 2 (.t 29) (u9I 1)),
 oA 6 30]))))))
(.seq (rg [oO 2 (.assign (u9I 0))])
(.ret))))))⟩

def f361:DFn := ⟨2,[],
 .seq (rg [⟨some 2,.mark false (u9I 0),none⟩])
(.ifp (.t 2) (.cond (.c .undef) .skip .skip) (.seq (rg [ oE (.prim 0 [(.t 0),(.t 1)])]) .ret))⟩

def f362:DFn := ⟨17,[.tmp 4],
 .seq (rg [oO 2 (.ibox 65 (.t 0)),
 oO 3 (.ibox 65 (.t 1)),
 oO 4 (.assign (u9I 0))])
(.seq (.region true [] [
 oF 5 65 2 0,
 oO 6 (.iload 2 (.t 5)),
 oF 7 65 3 0,
 oO 8 (.iload 2 (.t 7)),
 oO 9 (.call 0 (.f 74) [(.t 6),(.t 8)]),
 oF 10 65 2 1,
 oO 11 (.iload 2 (.t 10)),
 oF 12 65 3 1,
 oO 13 (.iload 2 (.t 12)),
 oO 14 (.call 0 (.f 74) [(.t 11),(.t 13)]),
 oO 15 (.bslice false 6 2 [(0,(.t 9)),(1,(.t 14))]),
 oO 16 (.call 0 (.f 105) [(.t 15)]),
 oA 4 16])
(.ret))⟩

def f363:DFn := ⟨61,[.tmp 2],
 .seq (rg [oO 2 (.assign (.c (.imm .exact [])))])
(.seq (.seq (rg [oM 6 0,
 oN 7 67 6,
 oO 8 (.bin .lss 2 (.t 7) (u9I 2))])
(.cond (.t 8) (.seq (rg [oM 9 0,
 oA 2 9])
(.ret)) (.skip)))
(.seq (.seq (rg [oO 3 (.assign (u9I 1))])
(.block 0 (.loop (.seq (.seq (rg [oM 10 3,
 oM 11 0,
 oN 12 67 11,
 oO 13 (.bin .lss 2 (.t 10) (.t 12))])
(.cond (.t 13) (.skip) (.exit 0)))
(.seq (.block 1 (.seq (.region true [] [
 oM 16 0,
 oM 17 3,
 oI 18 67 16 17,
 oL 19 65 18,
 oM 20 0,
 oM 21 3,
 oO 22 (.bin .sub 2 (.t 21) (u9I 1)),
 oI 23 67 20 22,
 oL 24 65 23,
 oO 25 (.bin .eql 65 (.t 19) (.t 24))])
(.cond (.t 25) (.seq (rg [oM 26 0,
 oM 27 3,
 oO 28 (.slice 67 (.t 26) (some (.t 27)) none none),
 oA 4 28])
(.seq (.seq (rg [oO 5 (.assign (u9I 1))])
(.block 2 (.loop (.seq (.seq (rg [oM 29 5,
 oM 30 4,
 oN 31 67 30,
 oO 32 (.bin .lss 2 (.t 29) (.t 31))])
(.cond (.t 32) (.skip) (.exit 2)))
(.seq (.block 3 (.seq (.region true [] [
 oM 35 4,
 oM 36 5,
 oI 37 67 35 36,
 oL 38 65 37,
 oM 39 4,
 oM 40 5,
 oO 41 (.bin .sub 2 (.t 40) (u9I 1)),
 oI 42 67 39 41,
 oL 43 65 42,
 oO 44 (.bin .neq 65 (.t 38) (.t 43))])
(.cond (.t 44) (.seq (rg [oM 45 0,
 oM 46 3,
 oM 47 4,
 oM 48 5,
 oI 49 67 47 48,
 oL 50 65 49,
 oI 51 67 45 46,
 oE (.store 65 (.t 51) (.t 50))])
(rg [oM 52 3,
 oO 53 (.bin .add 2 (.t 52) (u9I 1)),
 oA 3 53])) (.skip))))
(rg [oM 33 5,
 oO 34 (.bin .add 2 (.t 33) (u9I 1)),
 oA 5 34]))))))
(.seq (rg [oM 54 0,
 oM 55 3,
 oO 56 (.slice 67 (.t 54) (some (.t 55)) none none),
 oE (.clr 67 (.t 56))])
(.seq (rg [oM 57 0,
 oM 58 3,
 oO 59 (.reslice 67 (.t 57) (.t 58)),
 oA 2 59])
(.ret))))) (.skip))))
(rg [oM 14 3,
 oO 15 (.bin .add 2 (.t 14) (u9I 1)),
 oA 3 15]))))))
(.seq (rg [oM 60 0,
 oA 2 60])
(.ret))))⟩

def f364:DFn := ⟨69,[.cell 2 73],
 .seq (rg [oO 2 (.alloc 73)])
(.seq (rg [oO 9 (.load 76 (.c (.iptr [.int .u32 1779033703,.int .u32 3144134277,.int .u32 1013904242,.int .u32 2773480762,.int .u32 1359893119,.int .u32 2600822924,.int .u32 528734635,.int .u32 1541459225]))),
 oO 3 (.alloc 77),
 oE (.store 77 (.t 3) (.t 9))])
(.seq (rg [oO 10 (.mkbfn 404 (.t 3)),
 oA 4 10])
(.seq (rg [oM 11 0,
 oA 5 11])
(.seq (.block 0 (.loop (.seq (.seq (rg [oM 12 5,
 oN 13 30 12,
 oO 14 (.bin .geq 2 (.t 13) (u9I 64))])
(.cond (.t 14) (.skip) (.exit 0)))
(.seq (.block 1 (rg [oM 17 4,
 oM 18 5,
 oO 19 (.slice 30 (.t 18) none (some (u9I 64)) none),
 oO 20 (.call 2 (.t 17) [(.t 19)])]))
(rg [oM 15 5,
 oO 16 (.slice 30 (.t 15) (some (u9I 64)) none none),
 oA 5 16])))))
(.seq (rg [oO 21 (.mkcap 30 (u9I 64) (u9I 128)),
 oA 6 21])
(.seq (rg [oM 22 6,
 oM 23 5,
 oO 24 (.copy 30 30 (.t 22) (.t 23))])
(.seq (rg [oM 25 6,
 oM 26 5,
 oN 27 30 26,
 oI 28 30 25 27,
 oE (.store 13 (.t 28) (.c (.int .u8 128)))])
(.seq (.seq (rg [oM 29 5,
 oN 30 30 29,
 oO 31 (.bin .gtr 2 (.t 30) (u9I 55))])
(.cond (.t 31) (rg [oM 32 6,
 oO 33 (.reslice 30 (.t 32) (u9I 128)),
 oA 6 33]) (.skip)))
(.seq (rg [oM 34 6,
 oM 35 6,
 oN 36 30 35,
 oO 37 (.bin .sub 2 (.t 36) (u9I 8)),
 oO 38 (.slice 30 (.t 34) (some (.t 37)) none none),
 oM 39 0,
 oN 40 30 39,
 oO 41 (.conv 2 63 (.t 40)),
 oO 42 (.bin .mul 63 (.t 41) (.c (.int .u64 8))),
 oO 43 (.call 2 (.f 383) [(.t 38),(.t 42)])])
(.seq (.block 2 (.loop (.seq (.seq (rg [oM 44 6,
 oN 45 30 44,
 oO 46 (.bin .gtr 2 (.t 45) (u9I 0))])
(.cond (.t 46) (.skip) (.exit 2)))
(.seq (.block 3 (rg [oM 49 4,
 oM 50 6,
 oO 51 (.slice 30 (.t 50) none (some (u9I 64)) none),
 oO 52 (.call 2 (.t 49) [(.t 51)])]))
(rg [oM 47 6,
 oO 48 (.slice 30 (.t 47) (some (u9I 64)) none none),
 oA 6 48])))))
(.seq (.seq (rg [oL 53 77 3,
 oO 54 (.move (u9I 0))])
(.block 4 (.loop (.seq (rg [oO 55 (.bin .lss 2 (.t 54) (u9I 8))])
(.seq (.cond (.t 55) (.skip) (.exit 4))
(.seq (.block 5 (.seq (rg [oM 56 54,
 oO 57 (.index 77 (.t 53) (.t 54)),
 oA 7 56,
 oA 8 57])
(rg [oM 58 7,
 oO 59 (.bin .mul 2 (u9I 4) (.t 58)),
 oM 60 7,
 oO 61 (.bin .mul 2 (u9I 4) (.t 60)),
 oO 62 (.bin .add 2 (.t 61) (u9I 4)),
 oO 63 (.slice 73 (.t 2) (some (.t 59)) (some (.t 62)) none),
 oM 64 8,
 oO 65 (.conv 78 63 (.t 64)),
 oO 66 (.call 2 (.f 383) [(.t 63),(.t 65)])])))
(rg [oO 67 (.bin .add 2 (.t 54) (u9I 1)),
 oM 54 67])))))))
(.seq (rg [oL 68 73 2,
 oE (.store 73 (.t 2) (.t 68))])
(.ret)))))))))))))⟩

def f365:DFn := ⟨36,[.tmp 2],
 .seq (rg [oO 2 (.assign (.c (.imm .exact [])))])
(.seq (rg [oO 3 (.assign (u9I 0))])
(.seq (.seq (rg [oM 9 0,
 oN 10 74 9,
 oO 11 (.move (u9I 0))])
(.block 0 (.loop (.seq (rg [oO 12 (.bin .lss 2 (.t 11) (.t 10))])
(.seq (.cond (.t 12) (.skip) (.exit 0))
(.seq (.block 1 (.seq (rg [oI 13 74 9 11,
 oL 14 30 13,
 oA 5 14])
(.seq (rg [oM 15 3,
 oM 16 5,
 oN 17 30 16,
 oO 18 (.bin .add 2 (.t 15) (.t 17)),
 oA 3 18])
(.seq (rg [oM 19 3,
 oO 20 (.bin .lss 2 (.t 19) (u9I 0))])
(.cond (.t 20) (.cond (.c .undef) .skip .skip) (.skip))))))
(rg [oO 22 (.bin .add 2 (.t 11) (u9I 1)),
 oM 11 22])))))))
(.seq (rg [oM 23 3,
 oO 24 (.call 2 (.f 384) [(.c (.imm .exact [])),(.t 23)]),
 oA 6 24])
(.seq (.seq (rg [oM 25 0,
 oN 26 74 25,
 oO 27 (.move (u9I 0))])
(.block 2 (.loop (.seq (rg [oO 28 (.bin .lss 2 (.t 27) (.t 26))])
(.seq (.cond (.t 28) (.skip) (.exit 2))
(.seq (.block 3 (.seq (rg [oI 29 74 25 27,
 oL 30 30 29,
 oA 8 30])
(rg [oM 31 6,
 oM 32 8,
 oO 33 (.append 0 30 30 (.t 31) (.t 32)),
 oA 6 33])))
(rg [oO 34 (.bin .add 2 (.t 27) (u9I 1)),
 oM 27 34])))))))
(.seq (rg [oM 35 6,
 oA 2 35])
(.ret))))))⟩

def f366:DFn := ⟨22,[.cell 2 55],
 .seq (rg [oO 2 (.alloc 55)])
(.seq (rg [oO 6 (.build 55 [(0,(u9I 3))]),
 oO 3 (.alloc 55),
 oE (.store 55 (.t 3) (.t 6))])
(.seq (.seq (rg [oM 7 0,
 oN 8 6 7,
 oO 9 (.move (u9I 0))])
(.block 0 (.loop (.seq (rg [oO 10 (.bin .lss 2 (.t 9) (.t 8))])
(.seq (.cond (.t 10) (.skip) (.exit 0))
(.seq (.block 1 (.seq (rg [oI 11 6 7 9,
 oL 12 2 11,
 oA 5 12])
(rg [oF 13 55 3 3,
 oL 14 56 13,
 oM 15 5,
 oO 16 (.build 55 [(0,(u9I 1)),(1,(.t 15))]),
 oO 17 (.bslice false 56 1 [(0,(.t 16))]),
 oO 18 (.append 0 56 56 (.t 14) (.t 17)),
 oF 19 55 3 3,
 oE (.store 56 (.t 19) (.t 18))])))
(rg [oO 20 (.bin .add 2 (.t 9) (u9I 1)),
 oM 9 20])))))))
(.seq (rg [oL 21 55 3,
 oE (.store 55 (.t 2) (.t 21))])
(.ret))))⟩

def f367:DFn := ⟨6,[.tmp 2],
 .seq (rg [oO 2 (.assign (u9B false))])
(.seq (rg [oM 3 0,
 oO 4 (.call 0 (.f 368) [(.t 3),(u9I 0),(u9I 7)]),
 oO 5 (.un .not (.t 4)),
 oA 2 5])
(.ret))⟩

def f368:DFn := ⟨15,[.tmp 6],
 .seq (rg [oO 6 (.assign (u9B false))])
(.seq (rg [oM 7 1,
 oM 8 0,
 oO 9 (.bin .leq 2 (.t 7) (.t 8)),
 oM 10 9,
⟨(some 11),.move (.t 0),(some (10,true))⟩,
⟨(some 12),.move (.t 2),(some (10,true))⟩,
⟨(some 13),.bin .leq 2 (.t 11) (.t 12),(some (10,true))⟩,
 oO 14 (.pick (.t 10) (.t 13) (u9B false)),
 oA 6 14])
(.ret))⟩

def f369:DFn := ⟨10,[.tmp 8],
 .seq (rg [oO 4 (.ibox 37 (.t 0)),
 oO 5 (.ibox 2 (.t 1)),
 oO 6 (.ibox 2 (.t 2)),
 oO 7 (.ibox 2 (.t 3)),
 oO 8 (.assign (.c .nilfn))])
(.seq (rg [oO 9 (.mkfn 385 [(.t 5),(.t 4),(.t 6),(.t 7)]),
 oA 8 9])
(.ret))⟩

def f370:DFn := ⟨29,[.tmp 2],
 .seq (rg [oO 2 (.assign (.c (.imm .exact [])))])
(.seq (rg [oO 3 (.assign (.f 386))])
(.seq (.seq (rg [oM 6 0,
 oO 7 (.call 2 (.f 387) [(.t 6)]),
 oM 8 3,
 oO 9 (.call 2 (.f 388) [(.t 7),(.t 8)]),
 oN 10 67 9,
 oO 11 (.move (u9I 0))])
(.block 0 (.loop (.seq (rg [oO 12 (.bin .lss 2 (.t 11) (.t 10))])
(.seq (.cond (.t 12) (.skip) (.exit 0))
(.seq (.block 1 (.seq (rg [oI 13 67 9 11,
 oL 14 65 13,
 oO 5 (.alloc 65),
 oE (.store 65 (.t 5) (.t 14))])
(.seq (rg [oM 15 0,
 oL 16 65 5,
 oO 17 (.lookup 75 (.t 15) (.t 16) false),
 oO 18 (.bin .neq 2 (.t 17) (u9I 0))])
(.cond (.t 18) (.region true [] [
 oM 19 2,
 oL 20 65 5,
 oM 21 0,
 oL 22 65 5,
 oO 23 (.lookup 75 (.t 21) (.t 22) false),
 oO 24 (.build 72 [(0,(.t 20)),(1,(.t 23))]),
 oO 25 (.bslice false 66 1 [(0,(.t 24))]),
 oO 26 (.append 0 66 66 (.t 19) (.t 25)),
 oA 2 26]) (.skip)))))
(rg [oO 27 (.bin .add 2 (.t 11) (u9I 1)),
 oM 11 27])))))))
(.seq (rg [oM 28 2,
 oA 2 28])
(.ret))))⟩

def f371:DFn := ⟨15,[.tmp 6],
 .seq (rg [oO 6 (.assign (u9B false))])
(.seq (rg [oM 7 1,
 oM 8 0,
 oO 9 (.bin .leq 2 (.t 7) (.t 8)),
 oM 10 9,
⟨(some 11),.move (.t 0),(some (10,true))⟩,
⟨(some 12),.move (.t 2),(some (10,true))⟩,
⟨(some 13),.bin .leq 2 (.t 11) (.t 12),(some (10,true))⟩,
 oO 14 (.pick (.t 10) (.t 13) (u9B false)),
 oA 6 14])
(.ret))⟩

def f373:DFn := ⟨68,[.tmp 6],
 .seq (rg [oO 4 (.ibox 65 (.t 1)),
 oO 6 (.assign (.c (.imm .exact [])))])
(.seq (rg [oO 7 (.assign (u9I 0))])
(.seq (.block 0 (.loop (.seq (.seq (.region true [] [
 oM 10 7,
 oM 11 0,
 oN 12 66 11,
 oO 13 (.bin .lss 2 (.t 10) (.t 12)),
 oM 14 13,
⟨(some 15),.move (.t 0),(some (14,true))⟩,
⟨(some 16),.move (.t 7),(some (14,true))⟩,
⟨(some 17),.iaddr 66 (.t 15) (.t 16),(some (14,true))⟩,
⟨(some 18),.faddr 72 (.t 17) 0,(some (14,true))⟩,
⟨(some 19),.load 65 (.t 18),(some (14,true))⟩,
⟨(some 20),.iload 65 (.t 4),(some (14,true))⟩,
⟨(some 21),.call 0 (.f 389) [(.t 19),(.t 20)],(some (14,true))⟩,
 oO 22 (.pick (.t 14) (.t 21) (u9B false))])
(.cond (.t 22) (.skip) (.exit 0)))
(.block 1 (rg [oM 23 7,
 oO 24 (.bin .add 2 (.t 23) (u9I 1)),
 oA 7 24])))))
(.seq (.seq (.region true [] [
 oM 25 7,
 oM 26 0,
 oN 27 66 26,
 oO 28 (.bin .lss 2 (.t 25) (.t 27)),
 oM 29 28,
⟨(some 30),.move (.t 0),(some (29,true))⟩,
⟨(some 31),.move (.t 7),(some (29,true))⟩,
⟨(some 32),.iaddr 66 (.t 30) (.t 31),(some (29,true))⟩,
⟨(some 33),.faddr 72 (.t 32) 0,(some (29,true))⟩,
⟨(some 34),.load 65 (.t 33),(some (29,true))⟩,
⟨(some 35),.iload 65 (.t 4),(some (29,true))⟩,
⟨(some 36),.bin .eql 65 (.t 34) (.t 35),(some (29,true))⟩,
 oO 37 (.pick (.t 29) (.t 36) (u9B false))])
(.cond (.t 37) (.seq (rg [oO 38 (.bslice false 66 0 []),
 oM 39 0,
 oO 40 (.append 1 66 66 (.t 38) (.t 39)),
 oA 8 40])
(.seq (rg [oM 41 8,
 oM 42 7,
 oM 43 8,
 oM 44 7,
 oI 45 66 43 44,
 oF 46 72 45 1,
 oL 47 2 46,
 oM 48 2,
 oO 49 (.bin .add 2 (.t 47) (.t 48)),
 oI 50 66 41 42,
 oF 51 72 50 1,
 oE (.store 2 (.t 51) (.t 49))])
(.seq (rg [oM 52 8,
 oA 6 52])
(.ret)))) (.skip)))
(.seq (.region true [] [
 oO 53 (.bslice false 66 0 []),
 oM 54 0,
 oM 55 7,
 oO 56 (.slice 66 (.t 54) none (some (.t 55)) none),
 oO 57 (.append 0 66 66 (.t 53) (.t 56)),
 oO 58 (.iload 65 (.t 4)),
 oM 59 2,
 oO 60 (.build 72 [(0,(.t 58)),(1,(.t 59))]),
 oO 61 (.bslice false 66 1 [(0,(.t 60))]),
 oO 62 (.append 0 66 66 (.t 57) (.t 61)),
 oA 9 62])
(.seq (rg [oM 63 9,
 oM 64 0,
 oM 65 7,
 oO 66 (.slice 66 (.t 64) (some (.t 65)) none none),
 oO 67 (.append 0 66 66 (.t 63) (.t 66)),
 oA 6 67])
(.ret))))))⟩

def f374:DFn := ⟨26,[.tmp 2],
 .seq (rg [oO 2 (.assign (.c (.imm .exact [])))])
(.seq (rg [oO 5 (.bslice false 66 0 []),
 oA 3 5])
(.seq (.seq (rg [oO 4 (.assign (u9I 0))])
(.block 0 (.loop (.seq (.seq (rg [oM 6 4,
 oM 7 0,
 oN 8 66 7,
 oO 9 (.bin .lss 2 (.t 6) (.t 8))])
(.cond (.t 9) (.skip) (.exit 0)))
(.seq (.block 1 (.seq (rg [oM 12 0,
 oM 13 4,
 oI 14 66 12 13,
 oF 15 72 14 1,
 oL 16 2 15,
 oO 17 (.bin .neq 2 (.t 16) (u9I 0))])
(.cond (.t 17) (rg [oM 18 3,
 oM 19 0,
 oM 20 4,
 oI 21 66 19 20,
 oL 22 72 21,
 oO 23 (.bslice false 66 1 [(0,(.t 22))]),
 oO 24 (.append 0 66 66 (.t 18) (.t 23)),
 oA 3 24]) (.skip))))
(rg [oM 10 4,
 oO 11 (.bin .add 2 (.t 10) (u9I 1)),
 oA 4 11]))))))
(.seq (rg [oM 25 3,
 oA 2 25])
(.ret))))⟩

def f375:DFn := ⟨65,[.tmp 2],
 .seq (rg [oO 2 (.assign (u9B false))])
(.seq (.seq (rg [oM 7 0,
 oN 8 66 7,
 oO 9 (.move (u9I 0))])
(.block 0 (.loop (.seq (rg [oO 10 (.bin .lss 2 (.t 9) (.t 8))])
(.seq (.cond (.t 10) (.skip) (.exit 0))
(.seq (.block 1 (.seq (rg [oM 11 9,
 oI 12 66 7 9,
 oL 13 72 12,
 oO 4 (.alloc 72),
 oA 3 11,
 oE (.store 72 (.t 4) (.t 13))])
(.seq (rg [oF 14 72 4 0,
 oL 15 65 14,
 oO 5 (.alloc 65),
 oE (.store 65 (.t 5) (.t 15))])
(.seq (.seq (rg [oF 16 65 5 0,
 oL 17 2 16,
 oO 18 (.call 0 (.f 368) [(.t 17),(u9I 1),(u9I 4)]),
 oO 19 (.un .not (.t 18)),
 oM 20 19,
 u9G 21 (.faddr 65 (.t 5) 1) 20,
 u9G 22 (.load 2 (.t 21)) 20,
 u9G 23 (.call 0 (.f 368) [(.t 22),(.c (.int .i64 (-1))),(u9I 4095)]) 20,
 u9G 24 (.un .not (.t 23)) 20,
 oO 25 (.pick (.t 20) (u9B true) (.t 24)),
 oM 26 25,
 u9G 27 (.faddr 72 (.t 4) 1) 26,
 u9G 28 (.load 2 (.t 27)) 26,
 u9G 29 (.call 0 (.f 368) [(.t 28),(.c (.int .i64 (-1099511627776))),(u9I 1099511627776)]) 26,
 u9G 30 (.un .not (.t 29)) 26,
 oO 31 (.pick (.t 26) (u9B true) (.t 30)),
 oM 32 31,
 u9G 33 (.faddr 72 (.t 4) 1) 32,
 u9G 34 (.load 2 (.t 33)) 32,
 u9G 35 (.bin .eql 2 (.t 34) (u9I 0)) 32,
 oO 36 (.pick (.t 32) (u9B true) (.t 35))])
(.cond (.t 36) (.seq (rg [oO 2 (.assign (u9B false))])
(.ret)) (.skip)))
(.seq (rg [oM 37 3,
 oO 38 (.bin .gtr 2 (.t 37) (u9I 0))])
(.cond (.t 38) (.seq (rg [oM 39 0,
 oM 40 3,
 oO 41 (.bin .sub 2 (.t 40) (u9I 1)),
 oI 42 66 39 41,
 oF 43 72 42 0,
 oL 44 65 43,
 oO 6 (.alloc 65),
 oE (.store 65 (.t 6) (.t 44))])
(.seq (rg [oF 45 65 6 0,
 oL 46 2 45,
 oF 47 65 5 0,
 oL 48 2 47,
 oO 49 (.bin .gtr 2 (.t 46) (.t 48)),
 oM 50 49,
 u9G 51 (.faddr 65 (.t 6) 0) 50,
 u9G 52 (.load 2 (.t 51)) 50,
 u9G 53 (.faddr 65 (.t 5) 0) 50,
 u9G 54 (.load 2 (.t 53)) 50,
 u9G 55 (.bin .eql 2 (.t 52) (.t 54)) 50,
 u9G 56 (.move (.t 55)) 50,
⟨(some 57),.faddr 65 (.t 6) 1,(some (56,true))⟩,
⟨(some 58),.load 2 (.t 57),(some (56,true))⟩,
⟨(some 59),.faddr 65 (.t 5) 1,(some (56,true))⟩,
⟨(some 60),.load 2 (.t 59),(some (56,true))⟩,
⟨(some 61),.bin .geq 2 (.t 58) (.t 60),(some (56,true))⟩,
 u9G 62 (.pick (.t 56) (.t 61) (u9B false)) 50,
 oO 63 (.pick (.t 50) (u9B true) (.t 62))])
(.cond (.t 63) (.seq (rg [oO 2 (.assign (u9B false))])
(.ret)) (.skip)))) (.skip)))))))
(rg [oO 64 (.bin .add 2 (.t 9) (u9I 1)),
 oM 9 64])))))))
(.seq (rg [oO 2 (.assign (u9B true))])
(.ret)))⟩

def f376:DFn := ⟨2,[.cell 0 73],
 .seq (rg [oO 0 (.alloc 73)])
(.seq (rg [oO 1 (.call 0 (.f 390) [(.c (.str [112,111,115,116,105,110,103,115])),(.c (.imm .exact []))]),
 oE (.store 73 (.t 0) (.t 1))])
(.ret))⟩

def f377:DFn := ⟨16,[.cell 4 73],
 .seq (rg [oO 2 (.ibox 73 (.t 0)),
 oO 3 (.ibox 71 (.t 1)),
 oO 4 (.alloc 73)])
(.seq (rg [oO 8 (.iload 71 (.t 3)),
 oO 9 (.call 0 (.f 391) [(.t 8)]),
 oM 7 9,
 oO 10 (.extract (.t 7) 0),
 oO 11 (.extract (.t 7) 1),
 oA 5 10,
 oA 6 11])
(.seq (.region true [] [
 oO 12 (.iload 73 (.t 2)),
 oM 13 5,
 oO 14 (.call 0 (.f 390) [(.c (.str [112,111,115,116,105,110,103])),(.t 13)]),
 oO 15 (.call 0 (.f 392) [(.t 12),(.t 14)]),
 oE (.store 73 (.t 4) (.t 15))])
(.ret)))⟩

def f378:DFn := ⟨74,[.tmp 2],
 .seq (rg [oO 2 (.assign (u9B false))])
(.seq (.seq (rg [oM 5 0,
 oN 6 66 5,
 oO 7 (.bin .lss 2 (.t 6) (u9I 2)),
 oM 8 7,
 u9G 9 (.move (.t 0)) 8,
 u9G 10 (.len 66 (.t 9)) 8,
 u9G 11 (.bin .gtr 2 (.t 10) (u9I 4096)) 8,
 oO 12 (.pick (.t 8) (u9B true) (.t 11))])
(.cond (.t 12) (.seq (rg [oO 2 (.assign (u9B false))])
(.ret)) (.skip)))
(.seq (.seq (rg [oO 3 (.assign (u9I 0))])
(.block 0 (.loop (.seq (.seq (rg [oM 13 3,
 oM 14 0,
 oN 15 66 14,
 oO 16 (.bin .lss 2 (.t 13) (.t 15))])
(.cond (.t 16) (.skip) (.exit 0)))
(.seq (.block 1 (.seq (rg [oM 19 0,
 oM 20 3,
 oI 21 66 19 20,
 oL 22 72 21,
 oO 4 (.alloc 72),
 oE (.store 72 (.t 4) (.t 22))])
(.seq (.seq (rg [oF 23 72 4 0,
 oF 24 65 23 0,
 oL 25 2 24,
 oO 26 (.bin .lss 2 (.t 25) (u9I 1)),
 oM 27 26,
 u9G 28 (.faddr 72 (.t 4) 0) 27,
 u9G 29 (.faddr 65 (.t 28) 0) 27,
 u9G 30 (.load 2 (.t 29)) 27,
 u9G 31 (.bin .gtr 2 (.t 30) (u9I 5)) 27,
 oO 32 (.pick (.t 27) (u9B true) (.t 31)),
 oM 33 32,
 u9G 34 (.faddr 72 (.t 4) 0) 33,
 u9G 35 (.faddr 65 (.t 34) 1) 33,
 u9G 36 (.load 2 (.t 35)) 33,
 u9G 37 (.bin .lss 2 (.t 36) (.c (.int .i64 (-1)))) 33,
 oO 38 (.pick (.t 33) (u9B true) (.t 37)),
 oM 39 38,
 u9G 40 (.faddr 72 (.t 4) 0) 39,
 u9G 41 (.faddr 65 (.t 40) 1) 39,
 u9G 42 (.load 2 (.t 41)) 39,
 u9G 43 (.bin .gtr 2 (.t 42) (u9I 4095)) 39,
 oO 44 (.pick (.t 39) (u9B true) (.t 43))])
(.cond (.t 44) (.seq (rg [oO 2 (.assign (u9B false))])
(.ret)) (.skip)))
(.seq (.region true [] [
 oF 45 72 4 1,
 oL 46 2 45,
 oO 47 (.bin .eql 2 (.t 46) (u9I 0)),
 oM 48 47,
 u9G 49 (.faddr 72 (.t 4) 1) 48,
 u9G 50 (.load 2 (.t 49)) 48,
 u9G 51 (.bin .lss 2 (.t 50) (.c (.int .i64 (-1099511627776)))) 48,
 oO 52 (.pick (.t 48) (u9B true) (.t 51)),
 oM 53 52,
 u9G 54 (.faddr 72 (.t 4) 1) 53,
 u9G 55 (.load 2 (.t 54)) 53,
 u9G 56 (.bin .gtr 2 (.t 55) (u9I 1099511627776)) 53,
 oO 57 (.pick (.t 53) (u9B true) (.t 56)),
 oM 58 57,
 u9G 59 (.move (.t 3)) 58,
 u9G 60 (.bin .gtr 2 (.t 59) (u9I 0)) 58,
 u9G 61 (.move (.t 60)) 58,
⟨(some 62),.move (.t 0),(some (61,true))⟩,
⟨(some 63),.move (.t 3),(some (61,true))⟩,
⟨(some 64),.bin .sub 2 (.t 63) (u9I 1),(some (61,true))⟩,
⟨(some 65),.iaddr 66 (.t 62) (.t 64),(some (61,true))⟩,
⟨(some 66),.faddr 72 (.t 65) 0,(some (61,true))⟩,
⟨(some 67),.load 65 (.t 66),(some (61,true))⟩,
⟨(some 68),.faddr 72 (.t 4) 0,(some (61,true))⟩,
⟨(some 69),.load 65 (.t 68),(some (61,true))⟩,
⟨(some 70),.call 0 (.f 393) [(.t 67),(.t 69)],(some (61,true))⟩,
⟨(some 71),.un .not (.t 70),(some (61,true))⟩,
 u9G 72 (.pick (.t 61) (.t 71) (u9B false)) 58,
 oO 73 (.pick (.t 58) (u9B true) (.t 72))])
(.cond (.t 73) (.seq (rg [oO 2 (.assign (u9B false))])
(.ret)) (.skip))))))
(rg [oM 17 3,
 oO 18 (.bin .add 2 (.t 17) (u9I 1)),
 oA 3 18]))))))
(.seq (rg [oO 2 (.assign (u9B true))])
(.ret))))⟩

def f379:DFn := ⟨19,[.tmp 2],
 .seq (rg [oO 2 (.assign (u9I 0))])
(.seq (rg [oO 3 (.assign (u9I 0))])
(.seq (.seq (rg [oO 4 (.assign (u9I 0))])
(.block 0 (.loop (.seq (.seq (rg [oM 5 4,
 oM 6 0,
 oN 7 66 6,
 oO 8 (.bin .lss 2 (.t 5) (.t 7))])
(.cond (.t 8) (.skip) (.exit 0)))
(.seq (.block 1 (rg [oM 11 3,
 oM 12 0,
 oM 13 4,
 oI 14 66 12 13,
 oF 15 72 14 1,
 oL 16 2 15,
 oO 17 (.bin .add 2 (.t 11) (.t 16)),
 oA 3 17]))
(rg [oM 9 4,
 oO 10 (.bin .add 2 (.t 9) (u9I 1)),
 oA 4 10]))))))
(.seq (rg [oM 18 3,
 oA 2 18])
(.ret))))⟩

def f380:DFn := ⟨28,[],
 .seq (rg [oL 7 70 1,
 oN 8 70 7,
 oO 9 (.move (u9I 0))])
(.block 0 (.loop (.seq (rg [oO 10 (.bin .lss 2 (.t 9) (.t 8))])
(.seq (.cond (.t 10) (.skip) (.exit 0))
(.seq (.block 1 (.seq (rg [oI 11 70 7 9,
 oL 12 71 11,
 oO 4 (.alloc 71),
 oE (.store 71 (.t 4) (.t 12))])
(.seq (rg [oF 13 71 4 3,
 oL 14 66 13,
 oN 15 66 14,
 oO 16 (.move (u9I 0))])
(.block 2 (.loop (.seq (rg [oO 17 (.bin .lss 2 (.t 16) (.t 15))])
(.seq (.cond (.t 17) (.skip) (.exit 2))
(.seq (.block 3 (.seq (rg [oI 18 66 14 16,
 oL 19 72 18,
 oO 6 (.alloc 72),
 oE (.store 72 (.t 6) (.t 19))])
(.seq (rg [oM 20 0,
 oF 21 71 4 1,
 oL 22 2 21,
 oL 23 72 6,
 oO 24 (.call 2 (.t 20) [(.t 22),(.t 23)]),
 oO 25 (.un .not (.t 24))])
(.cond (.t 25) (.ret) (.skip)))))
(rg [oO 26 (.bin .add 2 (.t 16) (u9I 1)),
 oM 16 26])))))))))
(rg [oO 27 (.bin .add 2 (.t 9) (u9I 1)),
 oM 9 27]))))))⟩

def f383:DFn := ⟨23,[],
 .seq (rg [oM 5 0,
 oN 6 30 5,
 oO 7 (.move (u9I 0))])
(.block 0 (.loop (.seq (rg [oO 8 (.bin .lss 2 (.t 7) (.t 6))])
(.seq (.cond (.t 8) (.skip) (.exit 0))
(.seq (.block 1 (.seq (rg [oM 9 7,
 oA 4 9])
(rg [oM 10 0,
 oM 11 0,
 oN 12 30 11,
 oO 13 (.bin .sub 2 (.t 12) (u9I 1)),
 oM 14 4,
 oO 15 (.bin .sub 2 (.t 13) (.t 14)),
 oM 16 1,
 oM 17 4,
 oO 18 (.bin .mul 2 (u9I 8) (.t 17)),
 oO 19 (.bin .shr 63 (.t 16) (.t 18)),
 oO 20 (.conv 63 13 (.t 19)),
 oI 21 30 10 15,
 oE (.store 13 (.t 21) (.t 20))])))
(rg [oO 22 (.bin .add 2 (.t 7) (u9I 1)),
 oM 7 22]))))))⟩

def f384:DFn := ⟨2,[.tmp 0],
 .seq (rg [⟨some 2,.mark false (u9I 0),none⟩])
(.ifp (.t 2) (.cond (.c .undef) .skip .skip)
(.seq (rg [⟨some 0,.append 1 30 30 (.t 0) (.c (.imm .exact [])),none⟩,⟨some 0,.len 30 (.t 0),none⟩,⟨some 0,.bin .eql 2 (.t 0) (u9I 0),none⟩, oE (.bin .lss 2 (.t 1) (u9I 0)), oE (.mkslice false 30 (.t 1) (.t 1))])
(.cond (.t 0) (.seq (rg [⟨some 0,.append 0 30 30 (.c (.imm .exact [])) (.c (.imm .exact [])),none⟩]) .ret) (.cond (.c .undef) .skip .skip))))⟩

def f385:DFn := ⟨39,[],
 .region false [] [
 oM 6 0,
 oL 7 2 1,
 oO 8 (.build 65 [(0,(u9I 1)),(1,(.t 7))]),
 oF 9 37 2 2,
 oL 10 2 9,
 oO 11 (.call 2 (.t 6) [(.t 8),(.t 10)]),
 oM 12 11,
⟨(some 13),.move (.t 0),(some (12,true))⟩,
⟨(some 14),.load 2 (.t 3),(some (12,true))⟩,
⟨(some 15),.build 65 [(0,(u9I 2)),(1,(.t 14))],(some (12,true))⟩,
⟨(some 16),.faddr 37 (.t 2) 2,(some (12,true))⟩,
⟨(some 17),.load 2 (.t 16),(some (12,true))⟩,
⟨(some 18),.call 2 (.t 13) [(.t 15),(.t 17)],(some (12,true))⟩,
 oO 19 (.pick (.t 12) (.t 18) (u9B false)),
 oM 20 19,
⟨(some 21),.move (.t 0),(some (20,true))⟩,
⟨(some 22),.faddr 37 (.t 2) 0,(some (20,true))⟩,
⟨(some 23),.load 2 (.t 22),(some (20,true))⟩,
⟨(some 24),.build 65 [(0,(u9I 3)),(1,(.t 23))],(some (20,true))⟩,
⟨(some 25),.faddr 37 (.t 2) 2,(some (20,true))⟩,
⟨(some 26),.load 2 (.t 25),(some (20,true))⟩,
⟨(some 27),.un .neg (.t 26),(some (20,true))⟩,
⟨(some 28),.call 2 (.t 21) [(.t 24),(.t 27)],(some (20,true))⟩,
 oO 29 (.pick (.t 20) (.t 28) (u9B false)),
 oM 30 29,
⟨(some 31),.move (.t 0),(some (30,true))⟩,
⟨(some 32),.load 2 (.t 4),(some (30,true))⟩,
⟨(some 33),.build 65 [(0,(u9I 4)),(1,(.t 32))],(some (30,true))⟩,
⟨(some 34),.faddr 37 (.t 2) 2,(some (30,true))⟩,
⟨(some 35),.load 2 (.t 34),(some (30,true))⟩,
⟨(some 36),.un .neg (.t 35),(some (30,true))⟩,
⟨(some 37),.call 2 (.t 31) [(.t 33),(.t 36)],(some (30,true))⟩,
 oO 38 (.pick (.t 30) (.t 37) (u9B false))]⟩

def f386:DFn := ⟨17,[.tmp 4],
 .seq (rg [oO 2 (.ibox 65 (.t 0)),
 oO 3 (.ibox 65 (.t 1)),
 oO 4 (.assign (u9I 0))])
(.seq (.region true [] [
 oF 5 65 2 0,
 oO 6 (.iload 2 (.t 5)),
 oF 7 65 3 0,
 oO 8 (.iload 2 (.t 7)),
 oO 9 (.call 0 (.f 74) [(.t 6),(.t 8)]),
 oF 10 65 2 1,
 oO 11 (.iload 2 (.t 10)),
 oF 12 65 3 1,
 oO 13 (.iload 2 (.t 12)),
 oO 14 (.call 0 (.f 74) [(.t 11),(.t 13)]),
 oO 15 (.bslice false 6 2 [(0,(.t 9)),(1,(.t 14))]),
 oO 16 (.call 0 (.f 105) [(.t 15)]),
 oA 4 16])
(.ret))⟩

def f387:DFn := ⟨4,[.tmp 2],
 .seq (rg [oO 1 (.ibox 75 (.t 0)),
 oO 2 (.assign (.c .nilfn))])
(.seq (rg [oO 3 (.mkfn 409 [(.t 1)]),
 oA 2 3])
(.ret))⟩

def f388:DFn := ⟨2,[.tmp 1],
 .seq (rg [⟨some 2,.mark false (u9I 0),none⟩])
(.ifp (.t 2) (.cond (.c .undef) .skip .skip) (.seq (rg [⟨some 1,.prim 1 [(.t 0),(.t 1)],none⟩]) .ret))⟩

def f389:DFn := ⟨24,[.tmp 4],
 .seq (rg [oO 2 (.ibox 65 (.t 0)),
 oO 3 (.ibox 65 (.t 1)),
 oO 4 (.assign (u9B false))])
(.seq (rg [oF 5 65 2 0,
 oO 6 (.iload 2 (.t 5)),
 oF 7 65 3 0,
 oO 8 (.iload 2 (.t 7)),
 oO 9 (.bin .lss 2 (.t 6) (.t 8)),
 oM 10 9,
 u9G 11 (.faddr 65 (.t 2) 0) 10,
 u9G 12 (.iload 2 (.t 11)) 10,
 u9G 13 (.faddr 65 (.t 3) 0) 10,
 u9G 14 (.iload 2 (.t 13)) 10,
 u9G 15 (.bin .eql 2 (.t 12) (.t 14)) 10,
 u9G 16 (.move (.t 15)) 10,
⟨(some 17),.faddr 65 (.t 2) 1,(some (16,true))⟩,
⟨(some 18),.iload 2 (.t 17),(some (16,true))⟩,
⟨(some 19),.faddr 65 (.t 3) 1,(some (16,true))⟩,
⟨(some 20),.iload 2 (.t 19),(some (16,true))⟩,
⟨(some 21),.bin .lss 2 (.t 18) (.t 20),(some (16,true))⟩,
 u9G 22 (.pick (.t 16) (.t 21) (u9B false)) 10,
 oO 23 (.pick (.t 10) (u9B true) (.t 22)),
 oA 4 23])
(.ret))⟩

def f390:DFn := ⟨15,[.cell 4 73],
 .seq (rg [oO 4 (.alloc 73)])
(.seq (rg [oM 6 0,
 oO 7 (.s2b 53 30 (.t 6)),
 oO 8 (.call 0 (.f 410) [(.t 7)]),
 oO 5 (.alloc 73),
 oE (.store 73 (.t 5) (.t 8))])
(.seq (rg [oO 9 (.bslice false 30 0 []),
 oO 10 (.slice 73 (.t 5) none none none),
 oO 11 (.append 0 30 30 (.t 9) (.t 10)),
 oM 12 1,
 oO 13 (.append 0 30 30 (.t 11) (.t 12)),
 oO 14 (.call 0 (.f 410) [(.t 13)]),
 oE (.store 73 (.t 4) (.t 14))])
(.ret)))⟩

def f391:DFn := ⟨64,[.tmp 2,.tmp 3],
 .seq (rg [oO 1 (.ibox 71 (.t 0)),
 oO 2 (.assign (.c (.imm .exact []))),
 oO 3 (.assign (u9I 0))])
(.seq (rg [oO 9 (.iload 71 (.t 1)),
 oO 10 (.call 0 (.f 358) [(.t 9)]),
 oA 4 10])
(.seq (.seq (rg [oM 11 4,
 oO 12 (.bin .neq 3 (.t 11) (u9I 0))])
(.cond (.t 12) (.seq (rg [oM 13 4,
 oO 2 (.assign (.c (.imm .exact []))),
 oA 3 13])
(.ret)) (.skip)))
(.seq (rg [oO 14 (.bslice false 56 0 []),
 oA 5 14])
(.seq (.seq (rg [oO 6 (.assign (u9I 0))])
(.block 0 (.loop (.seq (.seq (rg [oM 15 6,
 oF 16 71 1 3,
 oO 17 (.iload 66 (.t 16)),
 oN 18 66 17,
 oO 19 (.bin .lss 2 (.t 15) (.t 18))])
(.cond (.t 19) (.skip) (.exit 0)))
(.seq (.block 1 (.seq (rg [oF 22 71 1 3,
 oO 23 (.iload 66 (.t 22)),
 oM 24 6,
 oI 25 66 23 24,
 oL 26 72 25,
 oO 7 (.alloc 72),
 oE (.store 72 (.t 7) (.t 26))])
(.region true [] [
 oM 27 5,
 oF 28 72 7 0,
 oF 29 65 28 0,
 oL 30 2 29,
 oO 31 (.call 0 (.f 411) [(.t 30)]),
 oF 32 72 7 0,
 oF 33 65 32 1,
 oL 34 2 33,
 oO 35 (.call 0 (.f 411) [(.t 34)]),
 oF 36 72 7 1,
 oL 37 2 36,
 oO 38 (.call 0 (.f 411) [(.t 37)]),
 oO 39 (.bslice false 56 3 [(0,(.t 31)),(1,(.t 35)),(2,(.t 38))]),
 oO 40 (.build 55 [(0,(u9I 3)),(3,(.t 39))]),
 oO 41 (.bslice false 56 1 [(0,(.t 40))]),
 oO 42 (.append 0 56 56 (.t 27) (.t 41)),
 oA 5 42])))
(rg [oM 20 6,
 oO 21 (.bin .add 2 (.t 20) (u9I 1)),
 oA 6 21]))))))
(.seq (.region true [] [
 oF 43 71 1 0,
 oO 44 (.iload 2 (.t 43)),
 oO 45 (.call 0 (.f 411) [(.t 44)]),
 oF 46 71 1 1,
 oO 47 (.iload 2 (.t 46)),
 oO 48 (.call 0 (.f 411) [(.t 47)]),
 oF 49 71 1 2,
 oO 50 (.iload 2 (.t 49)),
 oO 51 (.call 0 (.f 411) [(.t 50)]),
 oM 52 5,
 oO 53 (.build 55 [(0,(u9I 3)),(3,(.t 52))]),
 oF 54 71 1 4,
 oO 55 (.slice 73 (.t 54) none none none),
 oO 56 (.b2s 30 53 (.t 55)),
 oO 57 (.build 55 [(0,(u9I 2)),(2,(.t 56))]),
 oO 58 (.bslice false 56 5 [(0,(.t 45)),(1,(.t 48)),(2,(.t 51)),(3,(.t 53)),(4,(.t 57))]),
 oO 59 (.build 55 [(0,(u9I 3)),(3,(.t 58))]),
 oO 8 (.alloc 55),
 oE (.store 55 (.t 8) (.t 59))])
(.seq (rg [oL 60 55 8,
 oO 61 (.call 0 (.f 270) [(.t 60)]),
 oO 62 (.extract (.t 61) 0),
 oO 63 (.extract (.t 61) 1),
 oA 2 62,
 oA 3 63])
(.ret)))))))⟩

def f392:DFn := ⟨11,[.cell 4 73],
 .seq (rg [oO 2 (.ibox 73 (.t 0)),
 oO 3 (.ibox 73 (.t 1)),
 oO 4 (.alloc 73)])
(.seq (.region true [] [
 oO 5 (.bslice false 30 0 []),
 oO 6 (.slice 73 (.t 2) none none none),
 oO 7 (.append 0 30 30 (.t 5) (.t 6)),
 oO 8 (.slice 73 (.t 3) none none none),
 oO 9 (.append 0 30 30 (.t 7) (.t 8)),
 oO 10 (.call 0 (.f 390) [(.c (.str [99,104,97,105,110])),(.t 9)]),
 oE (.store 73 (.t 4) (.t 10))])
(.ret))⟩

def f393:DFn := ⟨24,[.tmp 4],
 .seq (rg [oO 2 (.ibox 65 (.t 0)),
 oO 3 (.ibox 65 (.t 1)),
 oO 4 (.assign (u9B false))])
(.seq (rg [oF 5 65 2 0,
 oO 6 (.iload 2 (.t 5)),
 oF 7 65 3 0,
 oO 8 (.iload 2 (.t 7)),
 oO 9 (.bin .lss 2 (.t 6) (.t 8)),
 oM 10 9,
 u9G 11 (.faddr 65 (.t 2) 0) 10,
 u9G 12 (.iload 2 (.t 11)) 10,
 u9G 13 (.faddr 65 (.t 3) 0) 10,
 u9G 14 (.iload 2 (.t 13)) 10,
 u9G 15 (.bin .eql 2 (.t 12) (.t 14)) 10,
 u9G 16 (.move (.t 15)) 10,
⟨(some 17),.faddr 65 (.t 2) 1,(some (16,true))⟩,
⟨(some 18),.iload 2 (.t 17),(some (16,true))⟩,
⟨(some 19),.faddr 65 (.t 3) 1,(some (16,true))⟩,
⟨(some 20),.iload 2 (.t 19),(some (16,true))⟩,
⟨(some 21),.bin .lss 2 (.t 18) (.t 20),(some (16,true))⟩,
 u9G 22 (.pick (.t 16) (.t 21) (u9B false)) 10,
 oO 23 (.pick (.t 10) (u9B true) (.t 22)),
 oA 4 23])
(.ret))⟩

def f404:DFn := ⟨144,[],
 .seq (rg [oO 4 (.alloc 80)])
(.seq (.seq (rg [oO 14 (.move (u9I 0))])
(.block 0 (.loop (.seq (rg [oO 15 (.bin .lss 2 (.t 14) (u9I 16))])
(.seq (.cond (.t 15) (.skip) (.exit 0))
(.seq (.block 1 (.seq (rg [oM 16 14,
 oA 5 16])
(rg [oM 17 5,
 oM 18 1,
 oM 19 5,
 oO 20 (.bin .mul 2 (u9I 4) (.t 19)),
 oO 21 (.slice 30 (.t 18) (some (.t 20)) none none),
 oO 22 (.call 3 (.f 405) [(.t 21)]),
 oI 23 80 4 17,
 oE (.store 78 (.t 23) (.t 22))])))
(rg [oO 24 (.bin .add 2 (.t 14) (u9I 1)),
 oM 14 24])))))))
(.seq (.seq (rg [oO 6 (.assign (u9I 16))])
(.block 2 (.loop (.seq (.seq (rg [oM 25 6,
 oO 26 (.bin .lss 2 (.t 25) (u9I 64))])
(.cond (.t 26) (.skip) (.exit 2)))
(.seq (.block 3 (.seq (.region true [] [
 oM 29 6,
 oO 30 (.bin .sub 2 (.t 29) (u9I 15)),
 oI 31 80 4 30,
 oL 32 78 31,
 oM 33 6,
 oO 34 (.bin .sub 2 (.t 33) (u9I 2)),
 oI 35 80 4 34,
 oL 36 78 35,
 oA 7 32,
 oA 8 36])
(.region true [] [
 oM 37 6,
 oM 38 6,
 oO 39 (.bin .sub 2 (.t 38) (u9I 16)),
 oI 40 80 4 39,
 oL 41 78 40,
 oM 42 7,
 oO 43 (.call 0 (.f 406) [(.t 42),(.c (.int .i64 (-7)))]),
 oM 44 7,
 oO 45 (.call 0 (.f 406) [(.t 44),(.c (.int .i64 (-18)))]),
 oO 46 (.bin .xor 78 (.t 43) (.t 45)),
 oM 47 7,
 oO 48 (.bin .shr 78 (.t 47) (.c (.int .u64 3))),
 oO 49 (.bin .xor 78 (.t 46) (.t 48)),
 oO 50 (.bin .add 78 (.t 41) (.t 49)),
 oM 51 6,
 oO 52 (.bin .sub 2 (.t 51) (u9I 7)),
 oI 53 80 4 52,
 oL 54 78 53,
 oO 55 (.bin .add 78 (.t 50) (.t 54)),
 oM 56 8,
 oO 57 (.call 0 (.f 406) [(.t 56),(.c (.int .i64 (-17)))]),
 oM 58 8,
 oO 59 (.call 0 (.f 406) [(.t 58),(.c (.int .i64 (-19)))]),
 oO 60 (.bin .xor 78 (.t 57) (.t 59)),
 oM 61 8,
 oO 62 (.bin .shr 78 (.t 61) (.c (.int .u64 10))),
 oO 63 (.bin .xor 78 (.t 60) (.t 62)),
 oO 64 (.bin .add 78 (.t 55) (.t 63)),
 oI 65 80 4 37,
 oE (.store 78 (.t 65) (.t 64))])))
(rg [oM 27 6,
 oO 28 (.bin .add 2 (.t 27) (u9I 1)),
 oA 6 28]))))))
(.seq (rg [oM 66 0,
 oO 67 (.nilc (.t 66)),
 oL 68 77 67,
 oO 9 (.alloc 77),
 oE (.store 77 (.t 9) (.t 68))])
(.seq (.seq (rg [oO 69 (.move (u9I 0))])
(.block 4 (.loop (.seq (rg [oO 70 (.bin .lss 2 (.t 69) (u9I 64))])
(.seq (.cond (.t 70) (.skip) (.exit 4))
(.seq (.block 5 (.seq (rg [oM 71 69,
 oA 10 71])
(.seq (.region true [] [
 oO 72 (.iaddr 77 (.t 9) (u9I 7)),
 oL 73 78 72,
 oO 74 (.iaddr 77 (.t 9) (u9I 4)),
 oL 75 78 74,
 oO 76 (.call 0 (.f 407) [(.t 75),(u9I 6),(u9I 11),(u9I 25)]),
 oO 77 (.bin .add 78 (.t 73) (.t 76)),
 oO 78 (.iaddr 77 (.t 9) (u9I 6)),
 oL 79 78 78,
 oO 80 (.iaddr 77 (.t 9) (u9I 4)),
 oL 81 78 80,
 oO 82 (.iaddr 77 (.t 9) (u9I 5)),
 oL 83 78 82,
 oO 84 (.iaddr 77 (.t 9) (u9I 6)),
 oL 85 78 84,
 oO 86 (.bin .xor 78 (.t 83) (.t 85)),
 oO 87 (.bin .and 78 (.t 81) (.t 86)),
 oO 88 (.bin .xor 78 (.t 79) (.t 87)),
 oO 89 (.bin .add 78 (.t 77) (.t 88)),
 oM 90 10,
 oO 91 (.iaddr 80 (.c (.iptr [.int .u32 1116352408,.int .u32 1899447441,.int .u32 3049323471,.int .u32 3921009573,.int .u32 961987163,.int .u32 1508970993,.int .u32 2453635748,.int .u32 2870763221,.int .u32 3624381080,.int .u32 310598401,.int .u32 607225278,.int .u32 1426881987,.int .u32 1925078388,.int .u32 2162078206,.int .u32 2614888103,.int .u32 3248222580,.int .u32 3835390401,.int .u32 4022224774,.int .u32 264347078,.int .u32 604807628,.int .u32 770255983,.int .u32 1249150122,.int .u32 1555081692,.int .u32 1996064986,.int .u32 2554220882,.int .u32 2821834349,.int .u32 2952996808,.int .u32 3210313671,.int .u32 3336571891,.int .u32 3584528711,.int .u32 113926993,.int .u32 338241895,.int .u32 666307205,.int .u32 773529912,.int .u32 1294757372,.int .u32 1396182291,.int .u32 1695183700,.int .u32 1986661051,.int .u32 2177026350,.int .u32 2456956037,.int .u32 2730485921,.int .u32 2820302411,.int .u32 3259730800,.int .u32 3345764771,.int .u32 3516065817,.int .u32 3600352804,.int .u32 4094571909,.int .u32 275423344,.int .u32 430227734,.int .u32 506948616,.int .u32 659060556,.int .u32 883997877,.int .u32 958139571,.int .u32 1322822218,.int .u32 1537002063,.int .u32 1747873779,.int .u32 1955562222,.int .u32 2024104815,.int .u32 2227730452,.int .u32 2361852424,.int .u32 2428436474,.int .u32 2756734187,.int .u32 3204031479,.int .u32 3329325298])) (.t 90)),
 oL 92 78 91,
 oO 93 (.bin .add 78 (.t 89) (.t 92)),
 oM 94 10,
 oI 95 80 4 94,
 oL 96 78 95,
 oO 97 (.bin .add 78 (.t 93) (.t 96)),
 oA 11 97])
(.seq (.region true [] [
 oO 98 (.iaddr 77 (.t 9) (u9I 0)),
 oL 99 78 98,
 oO 100 (.call 0 (.f 407) [(.t 99),(u9I 2),(u9I 13),(u9I 22)]),
 oO 101 (.iaddr 77 (.t 9) (u9I 0)),
 oL 102 78 101,
 oO 103 (.iaddr 77 (.t 9) (u9I 1)),
 oL 104 78 103,
 oO 105 (.bin .and 78 (.t 102) (.t 104)),
 oO 106 (.iaddr 77 (.t 9) (u9I 2)),
 oL 107 78 106,
 oO 108 (.iaddr 77 (.t 9) (u9I 0)),
 oL 109 78 108,
 oO 110 (.iaddr 77 (.t 9) (u9I 1)),
 oL 111 78 110,
 oO 112 (.bin .or 78 (.t 109) (.t 111)),
 oO 113 (.bin .and 78 (.t 107) (.t 112)),
 oO 114 (.bin .or 78 (.t 105) (.t 113)),
 oO 115 (.bin .add 78 (.t 100) (.t 114)),
 oA 12 115])
(.seq (.region true [] [
 oO 116 (.slice 77 (.t 9) (some (u9I 1)) none none),
 oO 117 (.slice 77 (.t 9) none (some (u9I 7)) none),
 oO 118 (.copy 81 81 (.t 116) (.t 117))])
(.seq (rg [oO 119 (.iaddr 77 (.t 9) (u9I 4)),
 oL 120 78 119,
 oM 121 11,
 oO 122 (.bin .add 78 (.t 120) (.t 121)),
 oO 123 (.iaddr 77 (.t 9) (u9I 4)),
 oE (.store 78 (.t 123) (.t 122))])
(rg [oM 124 11,
 oM 125 12,
 oO 126 (.bin .add 78 (.t 124) (.t 125)),
 oO 127 (.iaddr 77 (.t 9) (u9I 0)),
 oE (.store 78 (.t 127) (.t 126))])))))))
(rg [oO 128 (.bin .add 2 (.t 69) (u9I 1)),
 oM 69 128])))))))
(.seq (rg [oO 129 (.move (u9I 0))])
(.block 6 (.loop (.seq (rg [oO 130 (.bin .lss 2 (.t 129) (u9I 8))])
(.seq (.cond (.t 130) (.skip) (.exit 6))
(.seq (.block 7 (.seq (rg [oM 131 129,
 oA 13 131])
(.region true [] [
 oM 132 0,
 oM 133 13,
 oO 134 (.nilc (.t 132)),
 oI 135 77 134 133,
 oL 136 78 135,
 oM 137 13,
 oI 138 77 9 137,
 oL 139 78 138,
 oO 140 (.bin .add 78 (.t 136) (.t 139)),
 oO 141 (.nilc (.t 132)),
 oI 142 77 141 133,
 oE (.store 78 (.t 142) (.t 140))])))
(rg [oO 143 (.bin .add 2 (.t 129) (u9I 1)),
 oM 129 143])))))))))))⟩

def f405:DFn := ⟨19,[.tmp 2],
 .seq (rg [oO 2 (.assign (.c (.int .u32 0)))])
(.seq (.seq (rg [oM 5 0,
 oO 6 (.slice 30 (.t 5) none (some (u9I 4)) none),
 oN 7 30 6,
 oO 8 (.move (u9I 0))])
(.block 0 (.loop (.seq (rg [oO 9 (.bin .lss 2 (.t 8) (.t 7))])
(.seq (.cond (.t 9) (.skip) (.exit 0))
(.seq (.block 1 (.seq (rg [oI 10 30 6 8,
 oL 11 13 10,
 oA 4 11])
(rg [oM 12 2,
 oO 13 (.bin .shl 78 (.t 12) (.c (.int .u64 8))),
 oM 14 4,
 oO 15 (.conv 13 78 (.t 14)),
 oO 16 (.bin .or 78 (.t 13) (.t 15)),
 oA 2 16])))
(rg [oO 17 (.bin .add 2 (.t 8) (u9I 1)),
 oM 8 17])))))))
(.seq (rg [oM 18 2,
 oA 2 18])
(.ret)))⟩

def f406:DFn := ⟨17,[.tmp 4],
 .seq (rg [oO 4 (.assign (.c (.int .u32 0)))])
(.seq (rg [oM 6 1,
 oO 7 (.conv 2 12 (.t 6)),
 oO 8 (.bin .and 12 (.t 7) (.c (.int .u64 31))),
 oA 5 8])
(.seq (rg [oM 9 0,
 oM 10 5,
 oO 11 (.bin .shl 78 (.t 9) (.t 10)),
 oM 12 0,
 oM 13 5,
 oO 14 (.bin .sub 12 (.c (.int .u64 32)) (.t 13)),
 oO 15 (.bin .shr 78 (.t 12) (.t 14)),
 oO 16 (.bin .or 78 (.t 11) (.t 15)),
 oA 4 16])
(.ret)))⟩

def f407:DFn := ⟨23,[.tmp 8],
 .seq (rg [oO 8 (.assign (.c (.int .u32 0)))])
(.seq (rg [oM 9 0,
 oM 10 1,
 oO 11 (.un .neg (.t 10)),
 oO 12 (.call 0 (.f 406) [(.t 9),(.t 11)]),
 oM 13 0,
 oM 14 2,
 oO 15 (.un .neg (.t 14)),
 oO 16 (.call 0 (.f 406) [(.t 13),(.t 15)]),
 oO 17 (.bin .xor 78 (.t 12) (.t 16)),
 oM 18 0,
 oM 19 3,
 oO 20 (.un .neg (.t 19)),
 oO 21 (.call 0 (.f 406) [(.t 18),(.t 20)]),
 oO 22 (.bin .xor 78 (.t 17) (.t 21)),
 oA 8 22])
(.ret))⟩

def f409:DFn := ⟨14,[],
 .seq (.cond (.c .undef) .skip .skip)
(.block 0 (.loop (.seq (.cond (.c .undef) .skip .skip)
(.seq (.cond (.t 7) (.skip) (.exit 0))
(.block 1 (.seq (.cond (.c .undef) .skip .skip)
(.seq (rg [oM 10 0,
 oL 11 65 3,
 oO 12 (.call 0 (.t 10) [(.t 11)]),
 oO 13 (.un .not (.t 12))])
(.cond (.t 13) (.ret) (.skip)))))))))⟩

def f410:DFn := ⟨42,[.cell 2 73],
 .seq (rg [oO 2 (.alloc 73)])
(.seq (rg [oO 8 (.build 76 [(0,(.c (.int .u32 1779033703))),(1,(.c (.int .u32 3144134277))),(2,(.c (.int .u32 1013904242))),(3,(.c (.int .u32 2773480762))),(4,(.c (.int .u32 1359893119))),(5,(.c (.int .u32 2600822924))),(6,(.c (.int .u32 528734635))),(7,(.c (.int .u32 1541459225)))]),
 oO 3 (.alloc 76),
 oE (.store 76 (.t 3) (.t 8))])
(.seq (rg [oM 9 0,
 oO 10 (.call 0 (.f 418) [(.t 9)]),
 oA 4 10])
(.seq (.seq (rg [oO 5 (.assign (u9I 0))])
(.block 0 (.loop (.seq (.seq (rg [oM 11 5,
 oM 12 4,
 oN 13 30 12,
 oO 14 (.bin .lss 2 (.t 11) (.t 13))])
(.cond (.t 14) (.skip) (.exit 0)))
(.seq (.block 1 (.region true [] [
 oL 17 76 3,
 oM 18 4,
 oM 19 5,
 oM 20 5,
 oO 21 (.bin .add 2 (.t 20) (u9I 64)),
 oO 22 (.slice 30 (.t 18) (some (.t 19)) (some (.t 21)) none),
 oO 23 (.call 0 (.f 419) [(.t 17),(.t 22)]),
 oE (.store 76 (.t 3) (.t 23))]))
(rg [oM 15 5,
 oO 16 (.bin .add 2 (.t 15) (u9I 64)),
 oA 5 16]))))))
(.seq (rg [oO 24 (.build 73 []),
 oO 6 (.alloc 73),
 oE (.store 73 (.t 6) (.t 24))])
(.seq (.seq (rg [oO 7 (.assign (u9I 0))])
(.block 2 (.loop (.seq (.seq (rg [oM 25 7,
 oO 26 (.bin .lss 2 (.t 25) (u9I 32))])
(.cond (.t 26) (.skip) (.exit 2)))
(.seq (.block 3 (rg [oM 29 7,
 oM 30 7,
 oO 31 (.bin .quo 2 (.t 30) (u9I 4)),
 oI 32 76 3 31,
 oL 33 78 32,
 oM 34 7,
 oO 35 (.bin .rem 2 (.t 34) (u9I 4)),
 oO 36 (.bin .mul 2 (u9I 8) (.t 35)),
 oO 37 (.bin .sub 2 (u9I 24) (.t 36)),
 oO 38 (.bin .shr 78 (.t 33) (.t 37)),
 oO 39 (.conv 78 13 (.t 38)),
 oI 40 73 6 29,
 oE (.store 13 (.t 40) (.t 39))]))
(rg [oM 27 7,
 oO 28 (.bin .add 2 (.t 27) (u9I 1)),
 oA 7 28]))))))
(.seq (rg [oL 41 73 6,
 oE (.store 73 (.t 2) (.t 41))])
(.ret)))))))⟩

def f411:DFn := ⟨5,[.cell 2 55],
 .seq (rg [oO 2 (.alloc 55)])
(.seq (rg [oM 3 0,
 oO 4 (.build 55 [(0,(u9I 1)),(1,(.t 3))]),
 oE (.store 55 (.t 2) (.t 4))])
(.ret))⟩

def f418:DFn := ⟨35,[.tmp 2],
 .seq (rg [oO 2 (.assign (.c (.imm .exact [])))])
(.seq (rg [oO 6 (.bslice false 30 0 []),
 oM 7 0,
 oO 8 (.append 0 30 30 (.t 6) (.t 7)),
 oO 9 (.bslice false 30 1 [(0,(.c (.int .u8 128)))]),
 oO 10 (.append 0 30 30 (.t 8) (.t 9)),
 oA 3 10])
(.seq (.block 0 (.loop (.seq (.seq (rg [oM 11 3,
 oN 12 30 11,
 oO 13 (.bin .rem 2 (.t 12) (u9I 64)),
 oO 14 (.bin .neq 2 (.t 13) (u9I 56))])
(.cond (.t 14) (.skip) (.exit 0)))
(.block 1 (rg [oM 15 3,
 oO 16 (.bslice false 30 1 [(0,(.c (.int .u8 0)))]),
 oO 17 (.append 0 30 30 (.t 15) (.t 16)),
 oA 3 17])))))
(.seq (rg [oM 18 0,
 oN 19 30 18,
 oO 20 (.conv 2 63 (.t 19)),
 oO 21 (.bin .mul 63 (.t 20) (.c (.int .u64 8))),
 oA 4 21])
(.seq (.seq (rg [oO 5 (.assign (u9I 7))])
(.block 2 (.loop (.seq (.seq (rg [oM 22 5,
 oO 23 (.bin .geq 2 (.t 22) (u9I 0))])
(.cond (.t 23) (.skip) (.exit 2)))
(.seq (.block 3 (rg [oM 26 3,
 oM 27 4,
 oM 28 5,
 oO 29 (.bin .mul 2 (u9I 8) (.t 28)),
 oO 30 (.bin .shr 63 (.t 27) (.t 29)),
 oO 31 (.conv 63 13 (.t 30)),
 oO 32 (.bslice false 30 1 [(0,(.t 31))]),
 oO 33 (.append 0 30 30 (.t 26) (.t 32)),
 oA 3 33]))
(rg [oM 24 5,
 oO 25 (.bin .sub 2 (.t 24) (u9I 1)),
 oA 5 25]))))))
(.seq (rg [oM 34 3,
 oA 2 34])
(.ret))))))⟩

def f419:DFn := ⟨191,[.cell 4 76],
 .seq (rg [oO 2 (.ibox 76 (.t 0)),
 oO 4 (.alloc 76)])
(.seq (rg [oO 22 (.build 80 []),
 oO 5 (.alloc 80),
 oE (.store 80 (.t 5) (.t 22))])
(.seq (.seq (rg [oO 6 (.assign (u9I 0))])
(.block 0 (.loop (.seq (.seq (rg [oM 23 6,
 oO 24 (.bin .lss 2 (.t 23) (u9I 16))])
(.cond (.t 24) (.skip) (.exit 0)))
(.seq (.block 1 (rg [oM 27 6,
 oM 28 1,
 oM 29 6,
 oO 30 (.bin .mul 2 (u9I 4) (.t 29)),
 oM 31 6,
 oO 32 (.bin .mul 2 (u9I 4) (.t 31)),
 oO 33 (.bin .add 2 (.t 32) (u9I 4)),
 oO 34 (.slice 30 (.t 28) (some (.t 30)) (some (.t 33)) none),
 oO 35 (.call 0 (.f 421) [(.t 34)]),
 oI 36 80 5 27,
 oE (.store 78 (.t 36) (.t 35))]))
(rg [oM 25 6,
 oO 26 (.bin .add 2 (.t 25) (u9I 1)),
 oA 6 26]))))))
(.seq (.seq (rg [oO 7 (.assign (u9I 16))])
(.block 2 (.loop (.seq (.seq (rg [oM 37 7,
 oO 38 (.bin .lss 2 (.t 37) (u9I 64))])
(.cond (.t 38) (.skip) (.exit 2)))
(.seq (.block 3 (.seq (rg [oM 41 7,
 oO 42 (.bin .sub 2 (.t 41) (u9I 15)),
 oI 43 80 5 42,
 oL 44 78 43,
 oA 8 44])
(.seq (rg [oM 45 7,
 oO 46 (.bin .sub 2 (.t 45) (u9I 2)),
 oI 47 80 5 46,
 oL 48 78 47,
 oA 9 48])
(.region true [] [
 oM 49 7,
 oM 50 7,
 oO 51 (.bin .sub 2 (.t 50) (u9I 16)),
 oI 52 80 5 51,
 oL 53 78 52,
 oM 54 8,
 oO 55 (.call 0 (.f 422) [(.t 54),(u9I 7)]),
 oM 56 8,
 oO 57 (.call 0 (.f 422) [(.t 56),(u9I 18)]),
 oO 58 (.bin .xor 78 (.t 55) (.t 57)),
 oM 59 8,
 oO 60 (.bin .shr 78 (.t 59) (.c (.int .u64 3))),
 oO 61 (.bin .xor 78 (.t 58) (.t 60)),
 oO 62 (.bin .add 78 (.t 53) (.t 61)),
 oM 63 7,
 oO 64 (.bin .sub 2 (.t 63) (u9I 7)),
 oI 65 80 5 64,
 oL 66 78 65,
 oO 67 (.bin .add 78 (.t 62) (.t 66)),
 oM 68 9,
 oO 69 (.call 0 (.f 422) [(.t 68),(u9I 17)]),
 oM 70 9,
 oO 71 (.call 0 (.f 422) [(.t 70),(u9I 19)]),
 oO 72 (.bin .xor 78 (.t 69) (.t 71)),
 oM 73 9,
 oO 74 (.bin .shr 78 (.t 73) (.c (.int .u64 10))),
 oO 75 (.bin .xor 78 (.t 72) (.t 74)),
 oO 76 (.bin .add 78 (.t 67) (.t 75)),
 oI 77 80 5 49,
 oE (.store 78 (.t 77) (.t 76))]))))
(rg [oM 39 7,
 oO 40 (.bin .add 2 (.t 39) (u9I 1)),
 oA 7 40]))))))
(.seq (rg [oO 78 (.call 0 (.f 423) []),
 oO 10 (.alloc 80),
 oE (.store 80 (.t 10) (.t 78))])
(.seq (.region true [] [
 oO 79 (.iaddr 76 (.t 2) (u9I 0)),
 oO 80 (.iload 78 (.t 79)),
 oO 81 (.iaddr 76 (.t 2) (u9I 1)),
 oO 82 (.iload 78 (.t 81)),
 oO 83 (.iaddr 76 (.t 2) (u9I 2)),
 oO 84 (.iload 78 (.t 83)),
 oO 85 (.iaddr 76 (.t 2) (u9I 3)),
 oO 86 (.iload 78 (.t 85)),
 oO 87 (.iaddr 76 (.t 2) (u9I 4)),
 oO 88 (.iload 78 (.t 87)),
 oO 89 (.iaddr 76 (.t 2) (u9I 5)),
 oO 90 (.iload 78 (.t 89)),
 oO 91 (.iaddr 76 (.t 2) (u9I 6)),
 oO 92 (.iload 78 (.t 91)),
 oO 93 (.iaddr 76 (.t 2) (u9I 7)),
 oO 94 (.iload 78 (.t 93)),
 oA 11 80,
 oA 12 82,
 oA 13 84,
 oA 14 86,
 oA 15 88,
 oA 16 90,
 oA 17 92,
 oA 18 94])
(.seq (.seq (rg [oO 19 (.assign (u9I 0))])
(.block 4 (.loop (.seq (.seq (rg [oM 95 19,
 oO 96 (.bin .lss 2 (.t 95) (u9I 64))])
(.cond (.t 96) (.skip) (.exit 4)))
(.seq (.block 5 (.seq (.region true [] [
 oM 99 18,
 oM 100 15,
 oO 101 (.call 0 (.f 422) [(.t 100),(u9I 6)]),
 oM 102 15,
 oO 103 (.call 0 (.f 422) [(.t 102),(u9I 11)]),
 oO 104 (.bin .xor 78 (.t 101) (.t 103)),
 oM 105 15,
 oO 106 (.call 0 (.f 422) [(.t 105),(u9I 25)]),
 oO 107 (.bin .xor 78 (.t 104) (.t 106)),
 oO 108 (.bin .add 78 (.t 99) (.t 107)),
 oM 109 15,
 oM 110 16,
 oO 111 (.bin .and 78 (.t 109) (.t 110)),
 oM 112 15,
 oO 113 (.un .xor (.t 112)),
 oM 114 17,
 oO 115 (.bin .and 78 (.t 113) (.t 114)),
 oO 116 (.bin .xor 78 (.t 111) (.t 115)),
 oO 117 (.bin .add 78 (.t 108) (.t 116)),
 oM 118 19,
 oI 119 80 10 118,
 oL 120 78 119,
 oO 121 (.bin .add 78 (.t 117) (.t 120)),
 oM 122 19,
 oI 123 80 5 122,
 oL 124 78 123,
 oO 125 (.bin .add 78 (.t 121) (.t 124)),
 oA 20 125])
(.seq (rg [oM 126 11,
 oO 127 (.call 0 (.f 422) [(.t 126),(u9I 2)]),
 oM 128 11,
 oO 129 (.call 0 (.f 422) [(.t 128),(u9I 13)]),
 oO 130 (.bin .xor 78 (.t 127) (.t 129)),
 oM 131 11,
 oO 132 (.call 0 (.f 422) [(.t 131),(u9I 22)]),
 oO 133 (.bin .xor 78 (.t 130) (.t 132)),
 oM 134 11,
 oM 135 12,
 oO 136 (.bin .and 78 (.t 134) (.t 135)),
 oM 137 11,
 oM 138 13,
 oO 139 (.bin .and 78 (.t 137) (.t 138)),
 oO 140 (.bin .xor 78 (.t 136) (.t 139)),
 oM 141 12,
 oM 142 13,
 oO 143 (.bin .and 78 (.t 141) (.t 142)),
 oO 144 (.bin .xor 78 (.t 140) (.t 143)),
 oO 145 (.bin .add 78 (.t 133) (.t 144)),
 oA 21 145])
(rg [oM 146 17,
 oM 147 16,
 oM 148 15,
 oM 149 14,
 oM 150 20,
 oO 151 (.bin .add 78 (.t 149) (.t 150)),
 oM 152 13,
 oM 153 12,
 oM 154 11,
 oM 155 20,
 oM 156 21,
 oO 157 (.bin .add 78 (.t 155) (.t 156)),
 oA 18 146,
 oA 17 147,
 oA 16 148,
 oA 15 151,
 oA 14 152,
 oA 13 153,
 oA 12 154,
 oA 11 157]))))
(rg [oM 97 19,
 oO 98 (.bin .add 2 (.t 97) (u9I 1)),
 oA 19 98]))))))
(.seq (rg [oO 158 (.iaddr 76 (.t 2) (u9I 0)),
 oO 159 (.iload 78 (.t 158)),
 oM 160 11,
 oO 161 (.bin .add 78 (.t 159) (.t 160)),
 oO 162 (.iaddr 76 (.t 2) (u9I 1)),
 oO 163 (.iload 78 (.t 162)),
 oM 164 12,
 oO 165 (.bin .add 78 (.t 163) (.t 164)),
 oO 166 (.iaddr 76 (.t 2) (u9I 2)),
 oO 167 (.iload 78 (.t 166)),
 oM 168 13,
 oO 169 (.bin .add 78 (.t 167) (.t 168)),
 oO 170 (.iaddr 76 (.t 2) (u9I 3)),
 oO 171 (.iload 78 (.t 170)),
 oM 172 14,
 oO 173 (.bin .add 78 (.t 171) (.t 172)),
 oO 174 (.iaddr 76 (.t 2) (u9I 4)),
 oO 175 (.iload 78 (.t 174)),
 oM 176 15,
 oO 177 (.bin .add 78 (.t 175) (.t 176)),
 oO 178 (.iaddr 76 (.t 2) (u9I 5)),
 oO 179 (.iload 78 (.t 178)),
 oM 180 16,
 oO 181 (.bin .add 78 (.t 179) (.t 180)),
 oO 182 (.iaddr 76 (.t 2) (u9I 6)),
 oO 183 (.iload 78 (.t 182)),
 oM 184 17,
 oO 185 (.bin .add 78 (.t 183) (.t 184)),
 oO 186 (.iaddr 76 (.t 2) (u9I 7)),
 oO 187 (.iload 78 (.t 186)),
 oM 188 18,
 oO 189 (.bin .add 78 (.t 187) (.t 188)),
 oO 190 (.build 76 [(0,(.t 161)),(1,(.t 165)),(2,(.t 169)),(3,(.t 173)),(4,(.t 177)),(5,(.t 181)),(6,(.t 185)),(7,(.t 189))]),
 oE (.store 76 (.t 4) (.t 190))])
(.ret))))))))⟩

def f421:DFn := ⟨25,[.tmp 2],
 .seq (rg [oO 2 (.assign (.c (.int .u32 0)))])
(.seq (.region true [] [
 oM 3 0,
 oO 4 (.iaddr 30 (.t 3) (u9I 0)),
 oL 5 13 4,
 oO 6 (.conv 13 78 (.t 5)),
 oO 7 (.bin .shl 78 (.t 6) (.c (.int .u64 24))),
 oM 8 0,
 oO 9 (.iaddr 30 (.t 8) (u9I 1)),
 oL 10 13 9,
 oO 11 (.conv 13 78 (.t 10)),
 oO 12 (.bin .shl 78 (.t 11) (.c (.int .u64 16))),
 oO 13 (.bin .or 78 (.t 7) (.t 12)),
 oM 14 0,
 oO 15 (.iaddr 30 (.t 14) (u9I 2)),
 oL 16 13 15,
 oO 17 (.conv 13 78 (.t 16)),
 oO 18 (.bin .shl 78 (.t 17) (.c (.int .u64 8))),
 oO 19 (.bin .or 78 (.t 13) (.t 18)),
 oM 20 0,
 oO 21 (.iaddr 30 (.t 20) (u9I 3)),
 oL 22 13 21,
 oO 23 (.conv 13 78 (.t 22)),
 oO 24 (.bin .or 78 (.t 19) (.t 23)),
 oA 2 24])
(.ret))⟩

def f422:DFn := ⟨13,[.tmp 4],
 .seq (rg [oO 4 (.assign (.c (.int .u32 0)))])
(.seq (.region true [] [
 oM 5 0,
 oM 6 1,
 oO 7 (.bin .shr 78 (.t 5) (.t 6)),
 oM 8 0,
 oM 9 1,
 oO 10 (.bin .sub 2 (u9I 32) (.t 9)),
 oO 11 (.bin .shl 78 (.t 8) (.t 10)),
 oO 12 (.bin .or 78 (.t 7) (.t 11)),
 oA 4 12])
(.ret))⟩

def f423:DFn := ⟨2,[.cell 0 80],
 .seq (rg [oO 0 (.alloc 80)])
(.seq (rg [oO 1 (.build 80 [(0,(.c (.int .u32 1116352408))),(1,(.c (.int .u32 1899447441))),(2,(.c (.int .u32 3049323471))),(3,(.c (.int .u32 3921009573))),(4,(.c (.int .u32 961987163))),(5,(.c (.int .u32 1508970993))),(6,(.c (.int .u32 2453635748))),(7,(.c (.int .u32 2870763221))),(8,(.c (.int .u32 3624381080))),(9,(.c (.int .u32 310598401))),(10,(.c (.int .u32 607225278))),(11,(.c (.int .u32 1426881987))),(12,(.c (.int .u32 1925078388))),(13,(.c (.int .u32 2162078206))),(14,(.c (.int .u32 2614888103))),(15,(.c (.int .u32 3248222580))),(16,(.c (.int .u32 3835390401))),(17,(.c (.int .u32 4022224774))),(18,(.c (.int .u32 264347078))),(19,(.c (.int .u32 604807628))),(20,(.c (.int .u32 770255983))),(21,(.c (.int .u32 1249150122))),(22,(.c (.int .u32 1555081692))),(23,(.c (.int .u32 1996064986))),(24,(.c (.int .u32 2554220882))),(25,(.c (.int .u32 2821834349))),(26,(.c (.int .u32 2952996808))),(27,(.c (.int .u32 3210313671))),(28,(.c (.int .u32 3336571891))),(29,(.c (.int .u32 3584528711))),(30,(.c (.int .u32 113926993))),(31,(.c (.int .u32 338241895))),(32,(.c (.int .u32 666307205))),(33,(.c (.int .u32 773529912))),(34,(.c (.int .u32 1294757372))),(35,(.c (.int .u32 1396182291))),(36,(.c (.int .u32 1695183700))),(37,(.c (.int .u32 1986661051))),(38,(.c (.int .u32 2177026350))),(39,(.c (.int .u32 2456956037))),(40,(.c (.int .u32 2730485921))),(41,(.c (.int .u32 2820302411))),(42,(.c (.int .u32 3259730800))),(43,(.c (.int .u32 3345764771))),(44,(.c (.int .u32 3516065817))),(45,(.c (.int .u32 3600352804))),(46,(.c (.int .u32 4094571909))),(47,(.c (.int .u32 275423344))),(48,(.c (.int .u32 430227734))),(49,(.c (.int .u32 506948616))),(50,(.c (.int .u32 659060556))),(51,(.c (.int .u32 883997877))),(52,(.c (.int .u32 958139571))),(53,(.c (.int .u32 1322822218))),(54,(.c (.int .u32 1537002063))),(55,(.c (.int .u32 1747873779))),(56,(.c (.int .u32 1955562222))),(57,(.c (.int .u32 2024104815))),(58,(.c (.int .u32 2227730452))),(59,(.c (.int .u32 2361852424))),(60,(.c (.int .u32 2428436474))),(61,(.c (.int .u32 2756734187))),(62,(.c (.int .u32 3204031479))),(63,(.c (.int .u32 3329325298)))]),
 oE (.store 80 (.t 0) (.t 1))])
(.ret))⟩

def f427:DFn := ⟨43,[.tmp 6],
 .seq (rg [oO 6 (.assign (u9B false))])
(.seq (.seq (rg [oO 11 (.call 0 (.f 339) []),
 oO 12 (.un .not (.t 11))])
(.cond (.t 12) (.seq (rg [oO 6 (.assign (u9B false))])
(.ret)) (.skip)))
(.seq (.seq (rg [oM 13 0,
 oO 14 (.call 0 (.f 344) [(.t 13)]),
 oO 15 (.un .not (.t 14)),
 oM 16 15,
 u9G 17 (.move (.t 2)) 16,
 u9G 18 (.len 66 (.t 17)) 16,
 u9G 19 (.bin .gtr 2 (.t 18) (u9I 40)) 16,
 oO 20 (.pick (.t 16) (u9B true) (.t 19))])
(.cond (.t 20) (.seq (rg [oO 6 (.assign (u9B true))])
(.ret)) (.skip)))
(.seq (rg [oM 22 0,
 oM 23 1,
 oM 24 2,
 oO 25 (.call 0 (.f 345) [(.t 22),(.t 23),(.t 24)]),
 oM 21 25,
 oO 26 (.extract (.t 21) 0),
 oO 27 (.extract (.t 21) 1),
 oA 7 26,
 oA 8 27])
(.seq (rg [oM 29 0,
 oM 30 1,
 oM 31 2,
 oO 32 (.call 0 (.f 428) [(.t 29),(.t 30),(.t 31)]),
 oM 28 32,
 oO 33 (.extract (.t 28) 0),
 oO 34 (.extract (.t 28) 1),
 oA 9 33,
 oA 10 34])
(.seq (rg [oM 35 7,
 oM 36 9,
 oO 37 (.call 0 (.f 346) [(.t 35),(.t 36)]),
 oM 38 37,
⟨(some 39),.move (.t 8),(some (38,true))⟩,
⟨(some 40),.move (.t 10),(some (38,true))⟩,
⟨(some 41),.bin .eql 3 (.t 39) (.t 40),(some (38,true))⟩,
 oO 42 (.pick (.t 38) (.t 41) (u9B false)),
 oA 6 42])
(.ret))))))⟩

def f428:DFn := ⟨34,[.tmp 6,.tmp 7],
 .seq (rg [oO 6 (.assign (.c (.imm .exact []))),
 oO 7 (.assign (u9I 0))])
(.seq (rg [oM 10 0,
 oO 11 (.call 0 (.f 360) [(.t 10)]),
 oA 8 11])
(.seq (.seq (rg [oM 12 8,
 oO 13 (.bin .neq 3 (.t 12) (u9I 0))])
(.cond (.t 13) (.seq (rg [oM 14 8,
 oO 6 (.assign (.c (.imm .exact []))),
 oA 7 14])
(.ret)) (.skip)))
(.seq (.seq (rg [oM 15 2,
 oO 16 (.call 0 (.f 433) [(.t 15)]),
 oO 17 (.un .not (.t 16))])
(.cond (.t 17) (.seq (rg [oO 6 (.assign (.c (.imm .exact []))),
 oO 7 (.assign (u9I 430))])
(.ret)) (.skip)))
(.seq (rg [oM 18 0,
 oM 19 2,
 oO 20 (.call 0 (.f 434) [(.t 18),(.t 19)]),
 oA 9 20])
(.seq (.seq (rg [oM 21 9,
 oN 22 66 21,
 oO 23 (.bin .eql 2 (.t 22) (u9I 0))])
(.cond (.t 23) (.seq (rg [oM 24 0,
 oA 6 24,
 oO 7 (.assign (u9I 0))])
(.ret)) (.skip)))
(.seq (rg [oM 25 0,
 oM 26 1,
 oM 27 0,
 oN 28 70 27,
 oO 29 (.bin .sub 2 (.t 28) (u9I 1)),
 oM 30 9,
 oO 31 (.call 0 (.f 317) [(.t 25),(.t 26),(.t 29),(.t 30)]),
 oO 32 (.extract (.t 31) 0),
 oO 33 (.extract (.t 31) 1),
 oA 6 32,
 oA 7 33])
(.ret)))))))⟩

def f429:DFn := ⟨69,[.tmp 6],
 .seq (rg [oO 6 (.assign (u9B false))])
(.seq (.seq (rg [oO 15 (.call 0 (.f 339) []),
 oO 16 (.un .not (.t 15))])
(.cond (.t 16) (.seq (rg [oO 6 (.assign (u9B false))])
(.ret)) (.skip)))
(.seq (.seq (rg [oM 17 0,
 oO 18 (.call 0 (.f 344) [(.t 17)]),
 oO 19 (.un .not (.t 18))])
(.cond (.t 19) (.seq (rg [oO 6 (.assign (u9B true))])
(.ret)) (.skip)))
(.seq (rg [oM 21 0,
 oM 22 1,
 oM 23 2,
 oO 24 (.call 0 (.f 352) [(.t 21),(.t 22),(.t 23)]),
 oM 20 24,
 oO 25 (.extract (.t 20) 0),
 oO 26 (.extract (.t 20) 1),
 oA 7 25,
 oA 8 26])
(.seq (rg [oM 28 0,
 oM 29 1,
 oM 30 2,
 oO 31 (.call 0 (.f 430) [(.t 28),(.t 29),(.t 30)]),
 oM 27 31,
 oO 32 (.extract (.t 27) 0),
 oO 33 (.extract (.t 27) 1),
 oA 9 32,
 oA 10 33])
(.seq (rg [oM 35 0,
 oO 36 (.call 0 (.f 350) [(.t 35)]),
 oM 34 36,
 oO 37 (.extract (.t 34) 0),
 oO 38 (.extract (.t 34) 1),
 oA 11 37,
 oA 12 38])
(.seq (rg [oM 40 0,
 oO 41 (.call 0 (.f 431) [(.t 40)]),
 oM 39 41,
 oO 42 (.extract (.t 39) 0),
 oO 43 (.extract (.t 39) 1),
 oA 13 42,
 oA 14 43])
(.seq (rg [oM 44 7,
 oM 45 9,
 oO 46 (.call 0 (.f 342) [(.t 44),(.t 45)]),
 oM 47 46,
⟨(some 48),.move (.t 8),(some (47,true))⟩,
⟨(some 49),.move (.t 10),(some (47,true))⟩,
⟨(some 50),.bin .eql 3 (.t 48) (.t 49),(some (47,true))⟩,
 oO 51 (.pick (.t 47) (.t 50) (u9B false)),
 oM 52 51,
⟨(some 53),.move (.t 11),(some (52,true))⟩,
⟨(some 54),.move (.t 13),(some (52,true))⟩,
⟨(some 55),.bin .eql 7 (.t 53) (.t 54),(some (52,true))⟩,
 oO 56 (.pick (.t 52) (.t 55) (u9B false)),
 oM 57 56,
⟨(some 58),.move (.t 12),(some (57,true))⟩,
⟨(some 59),.move (.t 14),(some (57,true))⟩,
⟨(some 60),.bin .eql 3 (.t 58) (.t 59),(some (57,true))⟩,
 oO 61 (.pick (.t 57) (.t 60) (u9B false)),
 oM 62 61,
⟨(some 63),.move (.t 11),(some (62,true))⟩,
⟨(some 64),.move (.t 0),(some (62,true))⟩,
⟨(some 65),.call 0 (.f 324) [(.t 64)],(some (62,true))⟩,
⟨(some 66),.bin .eql 3 (.t 65) (u9I 0),(some (62,true))⟩,
⟨(some 67),.bin .eql 7 (.t 63) (.t 66),(some (62,true))⟩,
 oO 68 (.pick (.t 62) (.t 67) (u9B false)),
 oA 6 68])
(.ret))))))))⟩

def f430:DFn := ⟨58,[.tmp 6,.tmp 7],
 .seq (rg [oO 6 (.assign (.c (.imm .exact []))),
 oO 7 (.assign (u9I 0))])
(.seq (rg [oM 14 0,
 oO 15 (.call 0 (.f 360) [(.t 14)]),
 oA 8 15])
(.seq (.seq (rg [oM 16 8,
 oO 17 (.bin .neq 3 (.t 16) (u9I 0))])
(.cond (.t 17) (.seq (rg [oM 18 8,
 oO 6 (.assign (.c (.imm .exact []))),
 oA 7 18])
(.ret)) (.skip)))
(.seq (.seq (rg [oM 19 1,
 oO 20 (.call 0 (.f 371) [(.t 19),(u9I 1),(u9I 5)]),
 oO 21 (.un .not (.t 20))])
(.cond (.t 21) (.seq (rg [oO 6 (.assign (.c (.imm .exact []))),
 oO 7 (.assign (u9I 430))])
(.ret)) (.skip)))
(.seq (rg [oO 22 (.bslice false 66 0 []),
 oA 9 22])
(.seq (rg [oM 23 0,
 oO 24 (.call 0 (.f 435) [(.t 23)]),
 oA 10 24])
(.seq (.seq (rg [oO 11 (.assign (u9I 0))])
(.block 0 (.loop (.seq (.seq (rg [oM 25 11,
 oM 26 10,
 oN 27 67 26,
 oO 28 (.bin .lss 2 (.t 25) (.t 27))])
(.cond (.t 28) (.skip) (.exit 0)))
(.seq (.block 1 (.seq (rg [oM 31 10,
 oM 32 11,
 oI 33 67 31 32,
 oF 34 65 33 0,
 oL 35 2 34,
 oM 36 1,
 oO 37 (.bin .eql 2 (.t 35) (.t 36))])
(.cond (.t 37) (.seq (rg [oM 39 0,
 oM 40 10,
 oM 41 11,
 oI 42 67 40 41,
 oL 43 65 42,
 oM 44 2,
 oO 45 (.call 0 (.f 319) [(.t 39),(.t 43),(.t 44)]),
 oM 38 45,
 oO 46 (.extract (.t 38) 0),
 oO 47 (.extract (.t 38) 1),
 oA 12 46,
 oA 13 47])
(rg [oM 48 9,
 oM 49 10,
 oM 50 11,
 oI 51 67 49 50,
 oL 52 65 51,
 oM 53 12,
 oO 54 (.build 72 [(0,(.t 52)),(1,(.t 53))]),
 oO 55 (.bslice false 66 1 [(0,(.t 54))]),
 oO 56 (.append 0 66 66 (.t 48) (.t 55)),
 oA 9 56])) (.skip))))
(rg [oM 29 11,
 oO 30 (.bin .add 2 (.t 29) (u9I 1)),
 oA 11 30]))))))
(.seq (rg [oM 57 9,
 oA 6 57,
 oO 7 (.assign (u9I 0))])
(.ret))))))))⟩

def f431:DFn := ⟨49,[.tmp 2,.tmp 3],
 .seq (rg [oO 2 (.assign (u9B false)),
 oO 3 (.assign (u9I 0))])
(.seq (rg [oM 11 0,
 oO 12 (.call 0 (.f 360) [(.t 11)]),
 oA 4 12])
(.seq (.seq (rg [oM 13 4,
 oO 14 (.bin .neq 3 (.t 13) (u9I 0))])
(.cond (.t 14) (.seq (rg [oM 15 4,
 oO 2 (.assign (u9B false)),
 oA 3 15])
(.ret)) (.skip)))
(.seq (rg [oM 16 0,
 oO 17 (.call 0 (.f 435) [(.t 16)]),
 oA 5 17])
(.seq (.seq (rg [oO 6 (.assign (u9I 0))])
(.block 0 (.loop (.seq (.seq (rg [oM 18 6,
 oM 19 0,
 oN 20 70 19,
 oO 21 (.bin .lss 2 (.t 18) (.t 20))])
(.cond (.t 21) (.skip) (.exit 0)))
(.seq (.block 1 (.seq (rg [oO 7 (.assign (u9I 0))])
(.seq (.seq (rg [oO 8 (.assign (u9I 0))])
(.block 2 (.loop (.seq (.seq (rg [oM 24 8,
 oM 25 5,
 oN 26 67 25,
 oO 27 (.bin .lss 2 (.t 24) (.t 26))])
(.cond (.t 27) (.skip) (.exit 2)))
(.seq (.block 3 (.seq (.region true [] [
 oM 31 0,
 oM 32 5,
 oM 33 8,
 oI 34 67 32 33,
 oL 35 65 34,
 oM 36 0,
 oM 37 6,
 oI 38 70 36 37,
 oF 39 71 38 1,
 oL 40 2 39,
 oO 41 (.call 0 (.f 319) [(.t 31),(.t 35),(.t 40)]),
 oM 30 41,
 oO 42 (.extract (.t 30) 0),
 oO 43 (.extract (.t 30) 1),
 oA 9 42,
 oA 10 43])
(rg [oM 44 7,
 oM 45 9,
 oO 46 (.bin .add 2 (.t 44) (.t 45)),
 oA 7 46])))
(rg [oM 28 8,
 oO 29 (.bin .add 2 (.t 28) (u9I 1)),
 oA 8 29]))))))
(.seq (rg [oM 47 7,
 oO 48 (.bin .neq 2 (.t 47) (u9I 0))])
(.cond (.t 48) (.seq (rg [oO 2 (.assign (u9B false)),
 oO 3 (.assign (u9I 0))])
(.ret)) (.skip))))))
(rg [oM 22 6,
 oO 23 (.bin .add 2 (.t 22) (u9I 1)),
 oA 6 23]))))))
(.seq (rg [oO 2 (.assign (u9B true)),
 oO 3 (.assign (u9I 0))])
(.ret))))))⟩

def f433:DFn := ⟨58,[.tmp 2],
 .seq (rg [oO 2 (.assign (u9B false))])
(.seq (.seq (rg [oO 3 (.assign (u9I 0))])
(.block 0 (.loop (.seq (.seq (rg [oM 5 3,
 oM 6 0,
 oN 7 66 6,
 oO 8 (.bin .lss 2 (.t 5) (.t 7))])
(.cond (.t 8) (.skip) (.exit 0)))
(.seq (.block 1 (.seq (rg [oM 11 0,
 oM 12 3,
 oI 13 66 11 12,
 oF 14 72 13 0,
 oL 15 65 14,
 oO 4 (.alloc 65),
 oE (.store 65 (.t 4) (.t 15))])
(.seq (.region true [] [
 oF 16 65 4 0,
 oL 17 2 16,
 oO 18 (.call 0 (.f 371) [(.t 17),(u9I 1),(u9I 4)]),
 oO 19 (.un .not (.t 18)),
 oM 20 19,
 u9G 21 (.faddr 65 (.t 4) 1) 20,
 u9G 22 (.load 2 (.t 21)) 20,
 u9G 23 (.call 0 (.f 371) [(.t 22),(.c (.int .i64 (-1))),(u9I 4095)]) 20,
 u9G 24 (.un .not (.t 23)) 20,
 oO 25 (.pick (.t 20) (u9B true) (.t 24)),
 oM 26 25,
 u9G 27 (.move (.t 0)) 26,
 u9G 28 (.move (.t 3)) 26,
 u9G 29 (.iaddr 66 (.t 27) (.t 28)) 26,
 u9G 30 (.faddr 72 (.t 29) 1) 26,
 u9G 31 (.load 2 (.t 30)) 26,
 u9G 32 (.call 0 (.f 371) [(.t 31),(.c (.int .i64 (-1099511627776))),(u9I 1099511627776)]) 26,
 u9G 33 (.un .not (.t 32)) 26,
 oO 34 (.pick (.t 26) (u9B true) (.t 33)),
 oM 35 34,
 u9G 36 (.move (.t 0)) 35,
 u9G 37 (.move (.t 3)) 35,
 u9G 38 (.iaddr 66 (.t 36) (.t 37)) 35,
 u9G 39 (.faddr 72 (.t 38) 1) 35,
 u9G 40 (.load 2 (.t 39)) 35,
 u9G 41 (.bin .eql 2 (.t 40) (u9I 0)) 35,
 oO 42 (.pick (.t 35) (u9B true) (.t 41)),
 oM 43 42,
 u9G 44 (.move (.t 3)) 43,
 u9G 45 (.bin .gtr 2 (.t 44) (u9I 0)) 43,
 u9G 46 (.move (.t 45)) 43,
⟨(some 47),.move (.t 0),(some (46,true))⟩,
⟨(some 48),.move (.t 3),(some (46,true))⟩,
⟨(some 49),.bin .sub 2 (.t 48) (u9I 1),(some (46,true))⟩,
⟨(some 50),.iaddr 66 (.t 47) (.t 49),(some (46,true))⟩,
⟨(some 51),.faddr 72 (.t 50) 0,(some (46,true))⟩,
⟨(some 52),.load 65 (.t 51),(some (46,true))⟩,
⟨(some 53),.load 65 (.t 4),(some (46,true))⟩,
⟨(some 54),.call 0 (.f 389) [(.t 52),(.t 53)],(some (46,true))⟩,
⟨(some 55),.un .not (.t 54),(some (46,true))⟩,
 u9G 56 (.pick (.t 46) (.t 55) (u9B false)) 43,
 oO 57 (.pick (.t 43) (u9B true) (.t 56))])
(.cond (.t 57) (.seq (rg [oO 2 (.assign (u9B false))])
(.ret)) (.skip)))))
(rg [oM 9 3,
 oO 10 (.bin .add 2 (.t 9) (u9I 1)),
 oA 3 10]))))))
(.seq (rg [oO 2 (.assign (u9B true))])
(.ret)))⟩

def f434:DFn := ⟨49,[.tmp 4],
 .seq (rg [oO 4 (.assign (.c (.imm .exact [])))])
(.seq (rg [oO 9 (.bslice false 66 0 []),
 oM 10 1,
 oO 11 (.append 0 66 66 (.t 9) (.t 10)),
 oA 5 11])
(.seq (.seq (rg [oO 6 (.assign (u9I 0))])
(.block 0 (.loop (.seq (.seq (rg [oM 12 6,
 oM 13 0,
 oN 14 70 13,
 oO 15 (.bin .lss 2 (.t 12) (.t 14))])
(.cond (.t 15) (.skip) (.exit 0)))
(.seq (.block 1 (.seq (rg [oO 7 (.assign (u9I 0))])
(.block 2 (.loop (.seq (.seq (rg [oM 18 7,
 oM 19 0,
 oM 20 6,
 oI 21 70 19 20,
 oF 22 71 21 3,
 oL 23 66 22,
 oN 24 66 23,
 oO 25 (.bin .lss 2 (.t 18) (.t 24))])
(.cond (.t 25) (.skip) (.exit 2)))
(.seq (.block 3 (.seq (rg [oM 28 0,
 oM 29 6,
 oI 30 70 28 29,
 oF 31 71 30 3,
 oL 32 66 31,
 oM 33 7,
 oI 34 66 32 33,
 oL 35 72 34,
 oO 8 (.alloc 72),
 oE (.store 72 (.t 8) (.t 35))])
(.seq (rg [oF 36 72 8 0,
 oF 37 65 36 0,
 oL 38 2 37,
 oO 39 (.bin .leq 2 (.t 38) (u9I 4))])
(.cond (.t 39) (rg [oM 40 5,
 oF 41 72 8 0,
 oL 42 65 41,
 oF 43 72 8 1,
 oL 44 2 43,
 oO 45 (.un .neg (.t 44)),
 oO 46 (.call 0 (.f 373) [(.t 40),(.t 42),(.t 45)]),
 oA 5 46]) (.skip)))))
(rg [oM 26 7,
 oO 27 (.bin .add 2 (.t 26) (u9I 1)),
 oA 7 27])))))))
(rg [oM 16 6,
 oO 17 (.bin .add 2 (.t 16) (u9I 1)),
 oA 6 17]))))))
(.seq (rg [oM 47 5,
 oO 48 (.call 0 (.f 374) [(.t 47)]),
 oA 4 48])
(.ret))))⟩

def f435:DFn := ⟨35,[.tmp 2],
 .seq (rg [oO 2 (.assign (.c (.imm .exact [])))])
(.seq (rg [oO 6 (.bslice false 67 0 []),
 oA 3 6])
(.seq (.seq (rg [oO 4 (.assign (u9I 0))])
(.block 0 (.loop (.seq (.seq (rg [oM 7 4,
 oM 8 0,
 oN 9 70 8,
 oO 10 (.bin .lss 2 (.t 7) (.t 9))])
(.cond (.t 10) (.skip) (.exit 0)))
(.seq (.block 1 (.seq (rg [oO 5 (.assign (u9I 0))])
(.block 2 (.loop (.seq (.seq (rg [oM 13 5,
 oM 14 0,
 oM 15 4,
 oI 16 70 14 15,
 oF 17 71 16 3,
 oL 18 66 17,
 oN 19 66 18,
 oO 20 (.bin .lss 2 (.t 13) (.t 19))])
(.cond (.t 20) (.skip) (.exit 2)))
(.seq (.block 3 (rg [oM 23 3,
 oM 24 0,
 oM 25 4,
 oI 26 70 24 25,
 oF 27 71 26 3,
 oL 28 66 27,
 oM 29 5,
 oI 30 66 28 29,
 oF 31 72 30 0,
 oL 32 65 31,
 oO 33 (.call 0 (.f 436) [(.t 23),(.t 32)]),
 oA 3 33]))
(rg [oM 21 5,
 oO 22 (.bin .add 2 (.t 21) (u9I 1)),
 oA 5 22])))))))
(rg [oM 11 4,
 oO 12 (.bin .add 2 (.t 11) (u9I 1)),
 oA 4 12]))))))
(.seq (rg [oM 34 3,
 oA 2 34])
(.ret))))⟩

def f436:DFn := ⟨48,[.tmp 4],
 .seq (rg [oO 3 (.ibox 65 (.t 1)),
 oO 4 (.assign (.c (.imm .exact [])))])
(.seq (rg [oO 5 (.assign (u9I 0))])
(.seq (.block 0 (.loop (.seq (.seq (.region true [] [
 oM 7 5,
 oM 8 0,
 oN 9 67 8,
 oO 10 (.bin .lss 2 (.t 7) (.t 9)),
 oM 11 10,
⟨(some 12),.move (.t 0),(some (11,true))⟩,
⟨(some 13),.move (.t 5),(some (11,true))⟩,
⟨(some 14),.iaddr 67 (.t 12) (.t 13),(some (11,true))⟩,
⟨(some 15),.load 65 (.t 14),(some (11,true))⟩,
⟨(some 16),.iload 65 (.t 3),(some (11,true))⟩,
⟨(some 17),.call 0 (.f 393) [(.t 15),(.t 16)],(some (11,true))⟩,
 oO 18 (.pick (.t 11) (.t 17) (u9B false))])
(.cond (.t 18) (.skip) (.exit 0)))
(.block 1 (rg [oM 19 5,
 oO 20 (.bin .add 2 (.t 19) (u9I 1)),
 oA 5 20])))))
(.seq (.seq (.region true [] [
 oM 21 5,
 oM 22 0,
 oN 23 67 22,
 oO 24 (.bin .lss 2 (.t 21) (.t 23)),
 oM 25 24,
⟨(some 26),.move (.t 0),(some (25,true))⟩,
⟨(some 27),.move (.t 5),(some (25,true))⟩,
⟨(some 28),.iaddr 67 (.t 26) (.t 27),(some (25,true))⟩,
⟨(some 29),.load 65 (.t 28),(some (25,true))⟩,
⟨(some 30),.iload 65 (.t 3),(some (25,true))⟩,
⟨(some 31),.bin .eql 65 (.t 29) (.t 30),(some (25,true))⟩,
 oO 32 (.pick (.t 25) (.t 31) (u9B false))])
(.cond (.t 32) (.seq (rg [oM 33 0,
 oA 4 33])
(.ret)) (.skip)))
(.seq (rg [oO 34 (.bslice false 67 0 []),
 oM 35 0,
 oM 36 5,
 oO 37 (.slice 67 (.t 35) none (some (.t 36)) none),
 oO 38 (.append 0 67 67 (.t 34) (.t 37)),
 oA 6 38])
(.seq (rg [oM 39 6,
 oO 40 (.iload 65 (.t 3)),
 oO 41 (.bslice false 67 1 [(0,(.t 40))]),
 oO 42 (.append 0 67 67 (.t 39) (.t 41)),
 oA 6 42])
(.seq (rg [oM 43 6,
 oM 44 0,
 oM 45 5,
 oO 46 (.slice 67 (.t 44) (some (.t 45)) none none),
 oO 47 (.append 0 67 67 (.t 43) (.t 46)),
 oA 4 47])
(.ret)))))))⟩

def ya3:Nat->TI
 | 0 => ⟨.struct [(0,10),(1,9),(2,14)],3,72,[(.imm .exact []),(.imm .exact []),(.imm .exact [])],false⟩
 | 1 => ⟨.slice 2,1,24,[(.imm .exact [])],false⟩
 | 2 => ⟨.int .i64,1,8,[(.int .i64 0)],false⟩
 | 3 => ⟨.int .i64,1,8,[(.int .i64 0)],false⟩
 | 4 => ⟨.slice 1,1,24,[(.imm .exact [])],false⟩
 | 6 => ⟨.slice 2,1,24,[(.imm .exact [])],false⟩
 | 7 => ⟨.bool,1,1,[(.bool false)],false⟩
 | 9 => ⟨.slice 6,1,24,[(.imm .exact [])],false⟩
 | 10 => ⟨.slice 20,1,24,[(.imm .exact [])],false⟩
 | 11 => ⟨.struct [(0,2),(1,2)],2,16,[(.int .i64 0),(.int .i64 0)],true⟩
 | 12 => ⟨.int .u64,1,8,[(.int .u64 0)],false⟩
 | 13 => ⟨.int .u8,1,1,[(.int .u8 0)],false⟩
 | 14 => ⟨.slice 15,1,24,[(.imm .exact [])],false⟩
 | 15 => ⟨.struct [(0,2),(1,2),(2,6),(3,16)],4,64,[(.int .i64 0),(.int .i64 0),(.imm .exact []),(.imm .exact [])],false⟩
 | 16 => ⟨.slice 17,1,24,[(.imm .exact [])],false⟩
 | 17 => ⟨.struct [(0,2),(1,2),(2,2),(3,18)],4,48,[(.int .i64 0),(.int .i64 0),(.int .i64 0),(.imm .exact [])],false⟩
 | 18 => ⟨.slice 19,1,24,[(.imm .exact [])],false⟩
 | 19 => ⟨.struct [(0,20),(3,2)],4,32,[(.bool false),(.int .i64 0),(.int .i64 0),(.int .i64 0)],true⟩
 | 20 => ⟨.struct [(0,7),(1,2),(2,2)],3,24,[(.bool false),(.int .i64 0),(.int .i64 0)],true⟩
 | 21 => ⟨.map 20 7,1,8,[(.map none)],false⟩
 | 22 => ⟨.arr 4 2,4,32,[(.int .i64 0),(.int .i64 0),(.int .i64 0),(.int .i64 0)],true⟩
 | 26 => ⟨.map 20 2,1,8,[(.map none)],false⟩
 | 28 => ⟨.struct [(0,4),(1,6),(2,6),(3,31)],4,96,[(.imm .exact []),(.imm .exact []),(.imm .exact []),(.imm .exact [])],false⟩
 | 29 => ⟨.struct [(0,6),(1,6),(2,31)],3,72,[(.imm .exact []),(.imm .exact []),(.imm .exact [])],false⟩
 | 30 => ⟨.slice 13,1,24,[(.imm .exact [])],false⟩
 | 31 => ⟨.slice 32,1,24,[(.imm .exact [])],false⟩
 | 32 => ⟨.struct [(0,1),(1,2),(2,9)],3,56,[(.imm .exact []),(.int .i64 0),(.imm .exact [])],false⟩
 | 33 => ⟨.func,1,8,[.nilfn],false⟩
 | 35 => ⟨.slice 1,1,24,[(.imm .exact [])],false⟩
 | 36 => ⟨.slice 37,1,24,[(.imm .exact [])],false⟩
 | 37 => ⟨.struct [(0,2),(1,2),(2,2)],3,24,[(.int .i64 0),(.int .i64 0),(.int .i64 0)],true⟩
 | 38 => ⟨.slice 39,1,24,[(.imm .exact [])],false⟩
 | 39 => ⟨.struct [(0,2),(1,9)],2,32,[(.int .i64 0),(.imm .exact [])],false⟩
 | 40 => ⟨.func,1,8,[.nilfn],false⟩
 | 53 => ⟨.str,1,16,[(.str [])],false⟩
 | 55 => ⟨.struct [(0,2),(1,2),(2,53),(3,56)],4,56,[(.int .i64 0),(.int .i64 0),(.str []),(.imm .exact [])],false⟩
 | 56 => ⟨.slice 55,1,24,[(.imm .exact [])],false⟩
 | 57 => ⟨.arr 4 58,4,32,[.nilfn,.nilfn,.nilfn,.nilfn],false⟩
 | 58 => ⟨.struct [(0,59)],1,8,[.nilfn],false⟩
 | 59 => ⟨.func,1,8,[.nilfn],false⟩
 | 62 => ⟨.ptr 57,1,8,[.nilp],false⟩
 | 63 => ⟨.int .u64,1,8,[(.int .u64 0)],false⟩
 | 64 => ⟨.arr 4 7,4,4,[(.bool false),(.bool false),(.bool false),(.bool false)],true⟩
 | 65 => ⟨.struct [(0,2),(1,2)],2,16,[(.int .i64 0),(.int .i64 0)],true⟩
 | 66 => ⟨.slice 72,1,24,[(.imm .exact [])],false⟩
 | 67 => ⟨.slice 65,1,24,[(.imm .exact [])],false⟩
 | 70 => ⟨.slice 71,1,24,[(.imm .exact [])],false⟩
 | 71 => ⟨.struct [(0,2),(1,2),(2,2),(3,66),(4,73)],36,80,[(.int .i64 0),(.int .i64 0),(.int .i64 0),(.imm .exact []),(.int .u8 0),(.int .u8 0),(.int .u8 0),(.int .u8 0),(.int .u8 0),(.int .u8 0),(.int .u8 0),(.int .u8 0),(.int .u8 0),(.int .u8 0),(.int .u8 0),(.int .u8 0),(.int .u8 0),(.int .u8 0),(.int .u8 0),(.int .u8 0),(.int .u8 0),(.int .u8 0),(.int .u8 0),(.int .u8 0),(.int .u8 0),(.int .u8 0),(.int .u8 0),(.int .u8 0),(.int .u8 0),(.int .u8 0),(.int .u8 0),(.int .u8 0),(.int .u8 0),(.int .u8 0),(.int .u8 0),(.int .u8 0)],false⟩
 | 72 => ⟨.struct [(0,65),(2,2)],3,24,[(.int .i64 0),(.int .i64 0),(.int .i64 0)],true⟩
 | 73 => ⟨.arr 32 13,32,32,[(.int .u8 0),(.int .u8 0),(.int .u8 0),(.int .u8 0),(.int .u8 0),(.int .u8 0),(.int .u8 0),(.int .u8 0),(.int .u8 0),(.int .u8 0),(.int .u8 0),(.int .u8 0),(.int .u8 0),(.int .u8 0),(.int .u8 0),(.int .u8 0),(.int .u8 0),(.int .u8 0),(.int .u8 0),(.int .u8 0),(.int .u8 0),(.int .u8 0),(.int .u8 0),(.int .u8 0),(.int .u8 0),(.int .u8 0),(.int .u8 0),(.int .u8 0),(.int .u8 0),(.int .u8 0),(.int .u8 0),(.int .u8 0)],true⟩
 | 74 => ⟨.slice 30,1,24,[(.imm .exact [])],false⟩
 | 75 => ⟨.map 65 2,1,8,[(.map none)],false⟩
 | 76 => ⟨.arr 8 78,8,32,[(.int .u32 0),(.int .u32 0),(.int .u32 0),(.int .u32 0),(.int .u32 0),(.int .u32 0),(.int .u32 0),(.int .u32 0)],true⟩
 | 77 => ⟨.arr 8 78,8,32,[(.int .u32 0),(.int .u32 0),(.int .u32 0),(.int .u32 0),(.int .u32 0),(.int .u32 0),(.int .u32 0),(.int .u32 0)],true⟩
 | 78 => ⟨.int .u32,1,4,[(.int .u32 0)],false⟩
 | 79 => ⟨.int .i64,1,8,[(.int .i64 0)],false⟩
 | 80 => ⟨.arr 64 78,64,256,[(.int .u32 0),(.int .u32 0),(.int .u32 0),(.int .u32 0),(.int .u32 0),(.int .u32 0),(.int .u32 0),(.int .u32 0),(.int .u32 0),(.int .u32 0),(.int .u32 0),(.int .u32 0),(.int .u32 0),(.int .u32 0),(.int .u32 0),(.int .u32 0),(.int .u32 0),(.int .u32 0),(.int .u32 0),(.int .u32 0),(.int .u32 0),(.int .u32 0),(.int .u32 0),(.int .u32 0),(.int .u32 0),(.int .u32 0),(.int .u32 0),(.int .u32 0),(.int .u32 0),(.int .u32 0),(.int .u32 0),(.int .u32 0),(.int .u32 0),(.int .u32 0),(.int .u32 0),(.int .u32 0),(.int .u32 0),(.int .u32 0),(.int .u32 0),(.int .u32 0),(.int .u32 0),(.int .u32 0),(.int .u32 0),(.int .u32 0),(.int .u32 0),(.int .u32 0),(.int .u32 0),(.int .u32 0),(.int .u32 0),(.int .u32 0),(.int .u32 0),(.int .u32 0),(.int .u32 0),(.int .u32 0),(.int .u32 0),(.int .u32 0),(.int .u32 0),(.int .u32 0),(.int .u32 0),(.int .u32 0),(.int .u32 0),(.int .u32 0),(.int .u32 0),(.int .u32 0)],true⟩
 | 81 => ⟨.slice 78,1,24,[(.imm .exact [])],false⟩
 | 82 => ⟨.int .u64,1,8,[(.int .u64 0)],false⟩
 |_ => ⟨.other,0,0,[],false⟩

def yfx:Nat->Option DFn
 | 15 => some f15
 | 67 => some f67
 | 69 => some f69
 | 70 => some f70
 | 71 => some f71
 | 72 => some f72
 | 73 => some f73
 | 74 => some f74
 | 75 => some f75
 | 76 => some f76
 | 105 => some f105
 | 106 => some f106
 | 107 => some f107
 | 264 => some f264
 | 270 => some f270
 | 281 => some f281
 | 282 => some f282
 | 286 => some f286
 | 287 => some f287
 | 297 => some f297
 | 298 => some f298
 | 299 => some f299
 | 300 => some f300
 | 301 => some f301
 | 302 => some f302
 | 303 => some f303
 | 304 => some f304
 | 311 => some f311
 | 312 => some f312
 | 316 => some f316
 | 317 => some f317
 | 318 => some f318
 | 319 => some f319
 | 324 => some f324
 | 325 => some f325
 | 331 => some f331
 | 334 => some f334
 | 335 => some f335
 | 339 => some f339
 | 340 => some f340
 | 342 => some f342
 | 344 => some f344
 | 345 => some f345
 | 346 => some f346
 | 350 => some f350
 | 352 => some f352
 | 354 => some f354
 | 355 => some f355
 | 356 => some f356
 | 357 => some f357
 | 358 => some f358
 | 359 => some f359
 | 360 => some f360
 | 361 => some f361
 | 362 => some f362
 | 363 => some f363
 | 364 => some f364
 | 365 => some f365
 | 366 => some f366
 | 367 => some f367
 | 368 => some f368
 | 369 => some f369
 | 370 => some f370
 | 371 => some f371
 | 373 => some f373
 | 374 => some f374
 | 375 => some f375
 | 376 => some f376
 | 377 => some f377
 | 378 => some f378
 | 379 => some f379
 | 380 => some f380
 | 383 => some f383
 | 384 => some f384
 | 385 => some f385
 | 386 => some f386
 | 387 => some f387
 | 388 => some f388
 | 389 => some f389
 | 390 => some f390
 | 391 => some f391
 | 392 => some f392
 | 393 => some f393
 | 404 => some f404
 | 405 => some f405
 | 406 => some f406
 | 407 => some f407
 | 409 => some f409
 | 410 => some f410
 | 411 => some f411
 | 418 => some f418
 | 419 => some f419
 | 421 => some f421
 | 422 => some f422
 | 423 => some f423
 | 427 => some f427
 | 428 => some f428
 | 429 => some f429
 | 430 => some f430
 | 431 => some f431
 | 433 => some f433
 | 434 => some f434
 | 435 => some f435
 | 436 => some f436
 |_ => none

def yb6:Nat->Bool
 | 166 => true
 | 168 => true
 | 175 => true
 |_ => false

def yfk:Nat->Bool
 |_ => false

def E:Env := ⟨ya3,yfx,yb6,yfk,yb1⟩

end Dv
