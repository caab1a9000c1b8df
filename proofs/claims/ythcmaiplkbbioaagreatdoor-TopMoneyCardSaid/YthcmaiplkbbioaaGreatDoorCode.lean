/- Texts that a proof of this claim uses, joined: Dv.Code. -/
import Derived.Test.YthcmaiplkbbioaaGreatDoorDva
set_option linter.all false
namespace Dv
open Go (IntKind BinOp UnOp)
abbrev oO(n:Nat)(x:DOp):y1g := ⟨some n,x,none⟩
abbrev oE(x:DOp):y1g := ⟨none,x,none⟩
abbrev oM(n k:Nat):y1g := ⟨some n,.move (.t k),none⟩
abbrev u9I(k:Int):Opd := .c (.int .i64 k)
abbrev u9B(k:Bool):Opd := .c (.bool k)
abbrev u9G(n:Nat)(x:DOp)(k:Nat):y1g := ⟨some n,x,some (k,false)⟩
abbrev oL(n t a:Nat):y1g := ⟨some n,.load t (.t a),none⟩
abbrev oF(n t a k:Nat):y1g := ⟨some n,.faddr t (.t a) k,none⟩
abbrev oI(n t a b:Nat):y1g := ⟨some n,.iaddr t (.t a) (.t b),none⟩
abbrev oN(n t a:Nat):y1g := ⟨some n,.len t (.t a),none⟩
abbrev oA(n a:Nat):y1g := ⟨some n,.assign (.t a),none⟩
abbrev rg(l:List y1g):DC := .region false [] l
def fg:List DC->DC
 |[]=>.skip
 |[a]=>a
 |a::b::l=>.seq a (fg (b::l))
abbrev gw(a:Nat)(x y:DC):DC := .cond (.t a) x y
abbrev gB(n:Nat)(p:BinOp)(t a b:Nat):y1g := ⟨some n,.bin p t (.t a) (.t b),none⟩
abbrev g8(n:Nat)(p:BinOp)(t a:Nat)(k:Int):y1g := ⟨some n,.bin p t (.t a) (.c (.int .i64 k)),none⟩
abbrev iE(n:Nat)(p:BinOp)(t a b g:Nat):y1g := ⟨some n,.bin p t (.t a) (.t b),some (g,false)⟩
abbrev iM(n:Nat)(p:BinOp)(t a:Nat)(k:Int)(g:Nat):y1g := ⟨some n,.bin p t (.t a) (.c (.int .i64 k)),some (g,false)⟩
abbrev i8(n:Nat)(k:Int):y1g := ⟨some n,.assign (.c (.int .i64 k)),none⟩
abbrev jh(n k:Nat)(l:List Opd):y1g := ⟨some n,.call 0 (.f k) l,none⟩
abbrev jx(n k:Nat)(l:List Opd)(g:Nat):y1g := ⟨some n,.call 0 (.f k) l,some (g,false)⟩
abbrev jP(n a k:Nat):y1g := ⟨some n,.extract (.t a) k,none⟩
abbrev jS(t a b:Nat):y1g := ⟨none,.store t (.t a) (.t b),none⟩
abbrev jV(n t:Nat):y1g := ⟨some n,.alloc t,none⟩
abbrev jY(n a:Nat):y1g := ⟨some n,.un .not (.t a),none⟩
abbrev kj(n a g:Nat):y1g := ⟨some n,.un .not (.t a),some (g,false)⟩
abbrev kI(n t a g:Nat):y1g := ⟨some n,.load t (.t a),some (g,false)⟩
abbrev kV(n t a k g:Nat):y1g := ⟨some n,.faddr t (.t a) k,some (g,false)⟩
abbrev la(n t a b g:Nat):y1g := ⟨some n,.iaddr t (.t a) (.t b),some (g,false)⟩
abbrev lc(n t a g:Nat):y1g := ⟨some n,.len t (.t a),some (g,false)⟩
abbrev li(n a b:Nat):y1g := ⟨some n,.pick (.t a) (.c (.bool true)) (.t b),none⟩
abbrev lj(n a b:Nat):y1g := ⟨some n,.pick (.t a) (.t b) (.c (.bool false)),none⟩
abbrev lm(n a k:Nat):y1g := ⟨some n,.call 0 (.f k) [.t a],none⟩
abbrev ly(n t a:Nat):y1g := ⟨some n,.iload t (.t a),none⟩
def f2:DFn := ⟨77,[.tmp 2],
 .seq (rg [oO 1 (.box 0 (.t 0)),
 oO 2 (.assign (u9B false))])
 (.seq (.seq (rg [oF 7 0 1 0,
 oL 8 10 7,
 oN 9 10 8,
 oO 10 (.bin .gtr 2 (.t 9) (u9I 12)),
 oM 11 10,
 u9G 12 (.faddr 0 (.t 1) 1) 11,
 u9G 13 (.load 9 (.t 12)) 11,
 u9G 14 (.len 9 (.t 13)) 11,
 u9G 15 (.bin .gtr 2 (.t 14) (u9I 4)) 11,
 oO 16 (.pick (.t 11) (u9B true) (.t 15)),
 oM 17 16,
 u9G 18 (.faddr 0 (.t 1) 2) 17,
 u9G 19 (.load 14 (.t 18)) 17,
 u9G 20 (.len 14 (.t 19)) 17,
 u9G 21 (.bin .gtr 2 (.t 20) (u9I 6)) 17,
 oO 22 (.pick (.t 17) (u9B true) (.t 21))])
 (.cond (.t 22) (.seq (rg [oO 2 (.assign (u9B false))])
 (.ret)) (.skip)))
 (.seq (.seq (rg [oO 3 (.assign (u9I 0))])
 (.block 0 (.loop (.seq (.seq (rg [oM 23 3,
 oF 24 0 1 1,
 oL 25 9 24,
 oN 26 9 25,
 oO 27 (.bin .lss 2 (.t 23) (.t 26))])
 (.cond (.t 27) (.skip) (.exit 0)))
 (.seq (.block 1 (.seq (rg [oF 30 0 1 1,
 oL 31 9 30,
 oM 32 3,
 oI 33 9 31 32,
 oL 34 6 33,
 oN 35 6 34,
 oO 36 (.bin .gtr 2 (.t 35) (u9I 16))])
 (.cond (.t 36) (.seq (rg [oO 2 (.assign (u9B false))])
 (.ret)) (.skip))))
 (rg [oM 28 3,
 oO 29 (.bin .add 2 (.t 28) (u9I 1)),
 oA 3 29]))))))
 (.seq (.seq (rg [oO 4 (.assign (u9I 0))])
 (.block 2 (.loop (.seq (.seq (rg [oM 37 4,
 oF 38 0 1 2,
 oL 39 14 38,
 oN 40 14 39,
 oO 41 (.bin .lss 2 (.t 37) (.t 40))])
 (.cond (.t 41) (.skip) (.exit 2)))
 (.seq (.block 3 (.seq (rg [oF 44 0 1 2,
 oL 45 14 44,
 oM 46 4,
 oI 47 14 45 46,
 oL 48 15 47,
 oO 5 (.alloc 15),
 oE (.store 15 (.t 5) (.t 48))])
 (.seq (.seq (rg [oF 49 15 5 2,
 oL 50 6 49,
 oN 51 6 50,
 oO 52 (.bin .gtr 2 (.t 51) (u9I 8)),
 oM 53 52,
 u9G 54 (.faddr 15 (.t 5) 3) 53,
 u9G 55 (.load 16 (.t 54)) 53,
 u9G 56 (.len 16 (.t 55)) 53,
 u9G 57 (.bin .gtr 2 (.t 56) (u9I 8)) 53,
 oO 58 (.pick (.t 53) (u9B true) (.t 57))])
 (.cond (.t 58) (.seq (rg [oO 2 (.assign (u9B false))])
 (.ret)) (.skip)))
 (.seq (rg [oO 6 (.assign (u9I 0))])
 (.block 4 (.loop (.seq (.seq (rg [oM 59 6,
 oF 60 15 5 3,
 oL 61 16 60,
 oN 62 16 61,
 oO 63 (.bin .lss 2 (.t 59) (.t 62))])
 (.cond (.t 63) (.skip) (.exit 4)))
 (.seq (.block 5 (.seq (rg [oF 66 15 5 3,
 oL 67 16 66,
 oM 68 6,
 oI 69 16 67 68,
 oF 70 17 69 3,
 oL 71 18 70,
 oN 72 18 71,
 oO 73 (.bin .gtr 2 (.t 72) (u9I 12))])
 (.cond (.t 73) (.seq (rg [oO 2 (.assign (u9B false))])
 (.ret)) (.skip))))
 (rg [oM 64 6,
 oO 65 (.bin .add 2 (.t 64) (u9I 1)),
 oA 6 65])))))))))
 (rg [oM 42 4,
 oO 43 (.bin .add 2 (.t 42) (u9I 1)),
 oA 4 43]))))))
 (.seq (rg [oL 74 0 1,
 oO 75 (.call 0 (.f 61) [(.t 74),(u9I 2000)]),
 oO 76 (.bin .lss 2 (.t 75) (u9I 2000)),
 oA 2 76])
 (.ret)))))⟩
def f3:DFn := ⟨89,[.cell 4 6,.tmp 5],
 .seq (rg [oO 2 (.box 0 (.t 0)),
 oO 4 (.alloc 6),
 oO 5 (.assign (u9I 0))])
 (.seq (.seq (rg [oL 14 0 2,
 oM 15 1,
 oO 16 (.call 0 (.f 62) [(.t 14),(.t 15)]),
 oA 5 16])
 (.seq (rg [oM 17 5,
 oO 18 (.bin .neq 3 (.t 17) (u9I 0))])
 (.cond (.t 18) (.seq (rg [oM 19 5,
 oE (.store 6 (.t 4) (.c (.imm .exact []))),
 oA 5 19])
 (.ret)) (.skip))))
 (.seq (rg [oO 20 (.mkslice true 6 (u9I 4) (u9I 4)),
 oE (.store 6 (.t 4) (.t 20))])
 (.seq (.seq (rg [oF 21 0 2 1,
 oL 22 9 21,
 oN 23 9 22,
 oO 24 (.move (u9I 0))])
 (.block 0 (.loop (.seq (rg [oO 25 (.bin .lss 2 (.t 24) (.t 23))])
 (.seq (.cond (.t 25) (.skip) (.exit 0))
 (.seq (.block 1 (.seq (rg [oM 26 24,
 oI 27 9 22 24,
 oL 28 6 27,
 oA 6 26,
 oA 7 28])
 (.seq (rg [oL 30 0 2,
 oM 31 1,
 oM 32 6,
 oO 33 (.call 0 (.f 14) [(.t 30),(.t 31),(.t 32)]),
 oM 29 33,
 oO 34 (.extract (.t 29) 0),
 oO 35 (.extract (.t 29) 1),
 oA 8 34,
 oA 9 35])
 (.seq (rg [oM 36 8,
 oN 37 6 36,
 oO 38 (.move (u9I 0))])
 (.block 2 (.loop (.seq (rg [oO 39 (.bin .lss 2 (.t 38) (.t 37))])
 (.seq (.cond (.t 39) (.skip) (.exit 2))
 (.seq (.block 3 (.seq (rg [oM 40 38,
 oI 41 6 36 38,
 oL 42 2 41,
 oA 10 40,
 oA 11 42])
 (.region true [] [
 oL 43 6 4,
 oO 44 (.iaddr 6 (.t 43) (u9I 0)),
 oL 45 2 44,
 oM 46 11,
 oM 47 7,
 oM 48 10,
 oI 49 6 47 48,
 oL 50 2 49,
 oO 51 (.bin .sub 2 (.t 46) (.t 50)),
 oO 52 (.maxi [(.t 51),(u9I 0)]),
 oO 53 (.bin .add 2 (.t 45) (.t 52)),
 oO 54 (.iaddr 6 (.t 43) (u9I 0)),
 oE (.store 2 (.t 54) (.t 53))])))
 (rg [oO 55 (.bin .add 2 (.t 38) (u9I 1)),
 oM 38 55]))))))))))
 (rg [oO 56 (.bin .add 2 (.t 24) (u9I 1)),
 oM 24 56])))))))
 (.seq (.seq (rg [oL 57 0 2,
 oM 58 1,
 oO 59 (.call 0 (.f 63) [(.t 57),(.t 58)])])
 (.block 4 (.rfunc (.t 59) [60,61] (.seq (rg [oA 12 60])
 (rg [oO 13 (.alloc 17),
 oE (.store 17 (.t 13) (.t 61))])) (.block 5 (.seq (.region true [] [
 oL 62 6 4,
 oL 63 6 4,
 oO 64 (.iaddr 6 (.t 63) (u9I 1)),
 oL 65 2 64,
 oF 66 17 13 0,
 oL 67 2 66,
 oO 68 (.maxi [(.t 65),(.t 67)]),
 oO 69 (.iaddr 6 (.t 62) (u9I 1)),
 oE (.store 2 (.t 69) (.t 68))])
 (.seq (.region true [] [
 oL 70 6 4,
 oO 71 (.iaddr 6 (.t 70) (u9I 2)),
 oL 72 2 71,
 oF 73 17 13 1,
 oL 74 2 73,
 oM 75 12,
 oO 76 (.bin .mul 2 (.t 74) (.t 75)),
 oO 77 (.bin .add 2 (.t 72) (.t 76)),
 oO 78 (.iaddr 6 (.t 70) (u9I 2)),
 oE (.store 2 (.t 78) (.t 77))])
 (.region true [] [
 oL 79 6 4,
 oO 80 (.iaddr 6 (.t 79) (u9I 3)),
 oL 81 2 80,
 oF 82 17 13 2,
 oL 83 2 82,
 oM 84 12,
 oO 85 (.bin .mul 2 (.t 83) (.t 84)),
 oO 86 (.bin .add 2 (.t 81) (.t 85)),
 oO 87 (.iaddr 6 (.t 79) (u9I 3)),
 oE (.store 2 (.t 87) (.t 86))])))))))
 (.seq (rg [oL 88 6 4,
 oE (.store 6 (.t 4) (.t 88)),
 oO 5 (.assign (u9I 0))])
 (.ret))))))⟩
def f7:DFn := ⟨43,[.tmp 4,.tmp 5],
 fg [rg [oO 2 (.box 0 (.t 0)),oO 4 (.assign (.c (.imm .exact []))),i8 5 0],fg [rg [oL 8 0 2,oM 9 1,jh 10 62 [.t 8,.t 9],oA 5 10],rg [oM 11 5,g8 12 .neq 3 11 0],gw 12 (fg [rg [oM 13 5,oO 4 (.assign (.c (.imm .exact []))),oA 5 13],.ret]) .skip],rg [oM 14 1,oN 15 1 14,oA 6 15],fg [rg [oM 16 6,oF 17 0 2 2,oL 18 14 17,oN 19 14 18,gB 20 .eql 2 16 19],gw 20 (fg [rg [oO 4 (.assign (.c (.imm .exact []))),i8 5 280],.ret]) .skip],fg [rg [oF 21 0 2 2,oL 22 14 21,oM 23 6,oI 24 14 22 23,oF 25 15 24 3,oL 26 16 25,oN 27 16 26,oO 28 (.move (u9I 0))],.block 0 (.loop (fg [rg [gB 29 .lss 2 28 27],gw 29 .skip (.exit 0),.block 1 (fg [rg [oM 30 28,oA 7 30],rg [oM 31 4,oM 32 1,oM 33 6,oM 34 6,oO 35 (.slice 1 (.t 32) none (some (.t 33)) (some (.t 34))),oM 36 7,oO 37 (.bslice false 1 1 [(0,.t 36)]),oO 38 (.append 0 1 1 (.t 35) (.t 37)),oO 39 (.bslice false 4 1 [(0,.t 38)]),oO 40 (.append 0 4 4 (.t 31) (.t 39)),oA 4 40]]),rg [g8 41 .add 2 28 1,oM 28 41]]))],rg [oM 42 4,oA 4 42,i8 5 0],.ret]⟩
def f14:DFn := ⟨27,[.tmp 6,.tmp 7],
 fg [rg [oO 3 (.box 0 (.t 0)),oO 6 (.assign (.c (.imm .exact []))),i8 7 0],fg [rg [oL 8 0 3,oM 9 1,jh 10 66 [.t 8,.t 9],oA 7 10],rg [oM 11 7,g8 12 .neq 3 11 0],gw 12 (fg [rg [oM 13 7,oO 6 (.assign (.c (.imm .exact []))),oA 7 13],.ret]) .skip],fg [rg [oM 14 2,oF 15 0 3 1,oL 16 9 15,oN 17 9 16,g8 18 .sub 2 17 1,jh 19 67 [.t 14,u9I 0,.t 18],jY 20 19],gw 20 (fg [rg [oO 6 (.assign (.c (.imm .exact []))),i8 7 270],.ret]) .skip],rg [oL 21 0 3,oM 22 1,jh 23 68 [.t 21,.t 22],oM 24 2,oI 25 9 23 24,oL 26 6 25,oA 6 26,i8 7 0],.ret]⟩
def f15:DFn := ⟨173,[.tmp 2],
 fg [rg [oO 1 (.box 0 (.t 0)),i8 2 0],fg [rg [oF 15 0 1 0,oL 16 10 15,oN 17 10 16,g8 18 .gtr 2 17 4096,oM 19 18,kV 20 0 1 1 19,kI 21 9 20 19,lc 22 9 21 19,jx 23 67 [.t 22,u9I 1,u9I 32] 19,kj 24 23 19,li 25 19 24,oM 26 25,kV 27 0 1 2 26,kI 28 14 27 26,lc 29 14 28 26,iM 30 .gtr 2 29 64 26,li 31 26 30,oM 32 31,kV 33 0 1 0 32,kI 34 10 33 32,jx 35 69 [.t 34,.f 70] 32,kj 36 35 32,li 37 32 36],gw 37 (fg [rg [i8 2 270],.ret]) .skip],rg [oO 38 (.mkmap 21),oA 3 38],fg [rg [oF 39 0 1 0,oL 40 10 39,oN 41 10 40,oO 42 (.move (u9I 0))],.block 0 (.loop (fg [rg [gB 43 .lss 2 42 41],gw 43 .skip (.exit 0),.block 1 (fg [rg [oI 44 10 40 42,oL 45 20 44,jV 5 20,jS 20 5 45],fg [rg [oF 46 20 5 1,oL 47 2 46,g8 48 .lss 2 47 0,oM 49 48,kV 50 20 5 2 49,kI 51 2 50 49,iM 52 .lss 2 51 0 49,li 53 49 52],gw 53 (fg [rg [i8 2 270],.ret]) .skip],rg [oM 54 3,oL 55 20 5,oE (.mapset 21 (.t 54) (.t 55) (u9B true))]]),rg [g8 56 .add 2 42 1,oM 42 56]]))],fg [rg [oF 57 0 1 1,oL 58 9 57,oN 59 9 58,oO 60 (.move (u9I 0))],.block 2 (.loop (fg [rg [gB 61 .lss 2 60 59],gw 61 .skip (.exit 2),.block 3 (fg [rg [oI 62 9 58 60,oL 63 6 62,oA 7 63],rg [oM 64 7,oN 65 6 64,oF 66 0 1 0,oL 67 10 66,oN 68 10 67,gB 69 .neq 2 65 68,oM 70 69,u9G 71 (.move (.t 7)) 70,jx 72 71 [.t 71,.f 72] 70,li 73 70 72],gw 73 (fg [rg [i8 2 270],.ret]) .skip]),rg [g8 74 .add 2 60 1,oM 60 74]]))],fg [rg [oF 75 0 1 2,oL 76 14 75,oN 77 14 76,oO 78 (.move (u9I 0))],.block 4 (.loop (fg [rg [gB 79 .lss 2 78 77],gw 79 .skip (.exit 4),.block 5 (fg [rg [oI 80 14 76 78,oL 81 15 80,jV 9 15,jS 15 9 81],fg [.region true [] [oF 82 15 9 2,oL 83 6 82,oN 84 6 83,g8 85 .eql 2 84 0,oM 86 85,kV 87 15 9 3 86,kI 88 16 87 86,lc 89 16 88 86,jx 90 67 [.t 89,u9I 1,u9I 96] 86,kj 91 90 86,li 92 86 91,oM 93 92,kV 94 15 9 2 93,kI 95 6 94 93,jx 96 73 [.t 95,.f 74] 93,kj 97 96 93,li 98 93 97,oM 99 98,kV 100 15 9 2 99,kI 101 6 100 99,u9G 102 (.iaddr 6 (.t 101) (u9I 0)) 99,kI 103 2 102 99,iM 104 .lss 2 103 0 99,li 105 99 104,oM 106 105,kV 107 15 9 2 106,kI 108 6 107 106,kV 109 15 9 2 106,kI 110 6 109 106,lc 111 6 110 106,iM 112 .sub 2 111 1 106,la 113 6 108 112 106,kI 114 2 113 106,kV 115 0 1 1 106,kI 116 9 115 106,lc 117 9 116 106,iE 118 .geq 2 114 117 106,li 119 106 118],gw 119 (fg [rg [i8 2 270],.ret]) .skip],rg [oF 120 15 9 3,oL 121 16 120,oN 122 16 121,oO 123 (.move (u9I 0))],.block 6 (.loop (fg [rg [gB 124 .lss 2 123 122],gw 124 .skip (.exit 6),.block 7 (fg [rg [oI 125 16 121 123,oL 126 17 125,jV 11 17,jS 17 11 126],rg [i8 12 1048576],fg [rg [oF 127 17 11 0,oL 128 2 127,oM 129 12,jh 130 67 [.t 128,u9I 0,.t 129],jY 131 130,oM 132 131,kV 133 17 11 1 132,kI 134 2 133 132,u9G 135 (.move (.t 12)) 132,jx 136 67 [.t 134,u9I 0,.t 135] 132,kj 137 136 132,li 138 132 137,oM 139 138,kV 140 17 11 2 139,kI 141 2 140 139,u9G 142 (.move (.t 12)) 139,jx 143 67 [.t 141,u9I 0,.t 142] 139,kj 144 143 139,li 145 139 144,oM 146 145,kV 147 17 11 3 146,kI 148 18 147 146,jx 149 75 [.t 148,.f 76] 146,kj 150 149 146,li 151 146 150],gw 151 (fg [rg [i8 2 270],.ret]) .skip],rg [oF 152 17 11 3,oL 153 18 152,oN 154 18 153,oO 155 (.move (u9I 0))],.block 8 (.loop (fg [rg [gB 156 .lss 2 155 154],gw 156 .skip (.exit 8),.block 9 (fg [rg [oI 157 18 153 155,oL 158 19 157,jV 14 19,jS 19 14 158],rg [oM 159 3,oF 160 19 14 0,oL 161 20 160,oO 162 (.lookup 21 (.t 159) (.t 161) false),jY 163 162,oM 164 163,kV 165 19 14 1 164,kI 166 2 165 164,jx 167 67 [.t 166,u9I 1,u9I 8] 164,kj 168 167 164,li 169 164 168],gw 169 (fg [rg [i8 2 270],.ret]) .skip]),rg [g8 170 .add 2 155 1,oM 155 170]]))]),rg [g8 171 .add 2 123 1,oM 123 171]]))]),rg [g8 172 .add 2 78 1,oM 78 172]]))],rg [i8 2 0],.ret]⟩
def f22:DFn := ⟨76,[.tmp 4,.tmp 5],
 fg [rg [oO 2 (.box 0 (.t 0)),oO 4 (.assign (.c (.imm .exact []))),i8 5 0],fg [rg [oL 13 0 2,oM 14 1,jh 15 83 [.t 13,.t 14],oA 5 15],rg [oM 16 5,g8 17 .neq 3 16 0],gw 17 (fg [rg [oM 18 5,oO 4 (.assign (.c (.imm .exact []))),oA 5 18],.ret]) .skip],rg [jV 6 22],fg [rg [oL 19 0 2,oM 20 1,jh 21 84 [.t 19,.t 20]],.block 0 (.rfunc (.t 21) [22,23] (rg [oA 8 23]) (.block 1 (rg [oO 24 (.iaddr 22 (.t 6) (u9I 0)),oL 25 2 24,oM 26 8,gB 27 .add 2 25 26,oO 28 (.iaddr 22 (.t 6) (u9I 0)),jS 2 28 27])))],fg [rg [oM 29 1,oN 30 6 29,oO 31 (.move (u9I 0))],.block 2 (.loop (fg [rg [gB 32 .lss 2 31 30],gw 32 .skip (.exit 2),.block 3 (fg [rg [oM 33 31,oI 34 6 29 31,oL 35 2 34,oA 9 33,oA 10 35],.region true [(10,17),(14,17),(15,17)] [oF 36 0 2 2,oL 37 14 36,oM 38 9,oI 39 14 37 38,oF 40 15 39 3,oL 41 16 40,oM 42 10,oI 43 16 41 42,oL 44 17 43,oF 45 0 2 2,oL 46 14 45,oM 47 9,oI 48 14 46 47,oF 49 15 48 2,oL 50 6 49,oN 51 6 50,jV 11 17,jS 17 11 44,oA 12 51],rg [oO 52 (.iaddr 22 (.t 6) (u9I 1)),oL 53 2 52,oF 54 17 11 0,oL 55 2 54,oO 56 (.maxi [.t 53,.t 55]),oO 57 (.iaddr 22 (.t 6) (u9I 1)),jS 2 57 56],rg [oO 58 (.iaddr 22 (.t 6) (u9I 2)),oL 59 2 58,oF 60 17 11 1,oL 61 2 60,oM 62 12,gB 63 .mul 2 61 62,gB 64 .add 2 59 63,oO 65 (.iaddr 22 (.t 6) (u9I 2)),jS 2 65 64],rg [oO 66 (.iaddr 22 (.t 6) (u9I 3)),oL 67 2 66,oF 68 17 11 2,oL 69 2 68,oM 70 12,gB 71 .mul 2 69 70,gB 72 .add 2 67 71,oO 73 (.iaddr 22 (.t 6) (u9I 3)),jS 2 73 72]]),rg [g8 74 .add 2 31 1,oM 31 74]]))],rg [oO 75 (.slice 22 (.t 6) none none none),oA 4 75,i8 5 0],.ret]⟩
def f61:DFn := ⟨32,[.tmp 4],
 fg [rg [oO 2 (.box 0 (.t 0)),i8 4 0],rg [i8 5 1],fg [rg [i8 6 0],.block 0 (.loop (fg [fg [rg [oM 7 6,oF 8 0 2 2,oL 9 14 8,oN 10 14 9,gB 11 .lss 2 7 10,oM 12 11,⟨some 13,.move (.t 5),some (12,true)⟩,⟨some 14,.move (.t 1),some (12,true)⟩,⟨some 15,.bin .lss 2 (.t 13) (.t 14),some (12,true)⟩,lj 16 12 15],gw 16 .skip (.exit 0)],.block 1 (rg [oM 19 5,oF 20 0 2 2,oL 21 14 20,oM 22 6,oI 23 14 21 22,oF 24 15 23 3,oL 25 16 24,oN 26 16 25,oO 27 (.maxi [u9I 1,.t 26]),gB 28 .mul 2 19 27,oA 5 28]),rg [oM 17 6,g8 18 .add 2 17 1,oA 6 18]]))],rg [oM 29 5,oM 30 1,oO 31 (.mini [.t 29,.t 30]),oA 4 31],.ret]⟩
def f62:DFn := ⟨39,[.tmp 4],
 fg [rg [oO 2 (.box 0 (.t 0)),i8 4 0],fg [rg [oL 7 0 2,jh 8 15 [.t 7],oA 4 8],rg [oM 9 4,g8 10 .neq 3 9 0],gw 10 (fg [rg [oM 11 4,oA 4 11],.ret]) .skip],fg [rg [oM 12 1,oN 13 1 12,oF 14 0 2 2,oL 15 14 14,oN 16 14 15,gB 17 .gtr 2 13 16],gw 17 (fg [rg [i8 4 280],.ret]) .skip],fg [rg [oM 18 1,oN 19 1 18,oO 20 (.move (u9I 0))],.block 0 (.loop (fg [rg [gB 21 .lss 2 20 19],gw 21 .skip (.exit 0),.block 1 (fg [rg [oM 22 20,oI 23 1 18 20,oL 24 2 23,oA 5 22,oA 6 24],rg [oM 25 6,g8 26 .lss 2 25 0,oM 27 26,u9G 28 (.move (.t 6)) 27,kV 29 0 2 2 27,kI 30 14 29 27,u9G 31 (.move (.t 5)) 27,la 32 14 30 31 27,kV 33 15 32 3 27,kI 34 16 33 27,lc 35 16 34 27,iE 36 .geq 2 28 35 27,li 37 27 36],gw 37 (fg [rg [i8 4 280],.ret]) .skip]),rg [g8 38 .add 2 20 1,oM 20 38]]))],rg [i8 4 0],.ret]⟩
def f63:DFn := ⟨6,[.tmp 4],
 fg [rg [oO 2 (.box 0 (.t 0)),oO 3 (.box 1 (.t 1)),oO 4 (.assign (.c .nilfn))],rg [oO 5 (.mkfn 102 [.t 2,.t 3]),oA 4 5],.ret]⟩
def f66:DFn := ⟨38,[.tmp 4],
 fg [rg [oO 2 (.box 0 (.t 0)),i8 4 0],fg [rg [oL 8 0 2,jh 9 15 [.t 8],oA 5 9],rg [oM 10 5,g8 11 .neq 3 10 0],gw 11 (fg [rg [oM 12 5,oA 4 12],.ret]) .skip],fg [rg [oM 13 1,oN 14 6 13,oF 15 0 2 2,oL 16 14 15,oN 17 14 16,gB 18 .gtr 2 14 17],gw 18 (fg [rg [i8 4 270],.ret]) .skip],fg [rg [oM 19 1,oN 20 6 19,oO 21 (.move (u9I 0))],.block 0 (.loop (fg [rg [gB 22 .lss 2 21 20],gw 22 .skip (.exit 0),.block 1 (fg [rg [oM 23 21,oI 24 6 19 21,oL 25 2 24,oA 6 23,oA 7 25],rg [oM 26 7,oF 27 0 2 2,oL 28 14 27,oM 29 6,oI 30 14 28 29,oF 31 15 30 3,oL 32 16 31,oN 33 16 32,g8 34 .sub 2 33 1,jh 35 67 [.t 26,u9I 0,.t 34],jY 36 35],gw 36 (fg [rg [i8 4 270],.ret]) .skip]),rg [g8 37 .add 2 21 1,oM 21 37]]))],rg [i8 4 0],.ret]⟩
def f67:DFn := ⟨15,[.tmp 6],
 fg [rg [oO 6 (.assign (u9B false))],rg [oM 7 1,oM 8 0,gB 9 .leq 2 7 8,oM 10 9,⟨some 11,.move (.t 0),some (10,true)⟩,⟨some 12,.move (.t 2),some (10,true)⟩,⟨some 13,.bin .leq 2 (.t 11) (.t 12),some (10,true)⟩,lj 14 10 13,oA 6 14],.ret]⟩
def f68:DFn := ⟨62,[.tmp 4],
 fg [rg [oO 2 (.box 0 (.t 0)),oO 4 (.assign (.c (.imm .exact [])))],rg [oO 12 (.mkmap 26),jV 5 26,jS 26 5 12],fg [rg [oF 13 0 2 0,oL 14 10 13,oN 15 10 14,oO 16 (.move (u9I 0))],.block 0 (.loop (fg [rg [gB 17 .lss 2 16 15],gw 17 .skip (.exit 0),.block 1 (fg [rg [oM 18 16,oI 19 10 14 16,oL 20 20 19,jV 7 20,oA 6 18,jS 20 7 20],rg [oL 21 26 5,oL 22 20 7,oM 23 6,oE (.mapset 26 (.t 21) (.t 22) (.t 23))]]),rg [g8 24 .add 2 16 1,oM 16 24]]))],rg [oF 25 0 2 1,oL 26 9 25,oN 27 9 26,oO 28 (.mkslice true 9 (.t 27) (.t 27)),jV 8 9,jS 9 8 28],fg [rg [oL 29 9 8,oN 30 9 29,oO 31 (.move (u9I 0))],.block 2 (.loop (fg [rg [gB 32 .lss 2 31 30],gw 32 .skip (.exit 2),.block 3 (fg [rg [oM 33 31,oA 9 33],.region true [] [oL 34 9 8,oM 35 9,oF 36 0 2 0,oL 37 10 36,oN 38 10 37,oO 39 (.mkslice true 6 (.t 38) (.t 38)),oI 40 9 34 35,jS 6 40 39]]),rg [g8 41 .add 2 31 1,oM 31 41]]))],fg [rg [oL 42 0 2,oM 43 1,jh 44 104 [.t 42,.t 43]],.block 4 (.rfunc (.t 44) [45,46] (fg [rg [oA 10 45],rg [jV 11 19,jS 19 11 46]]) (.block 5 (.region true [] [oL 47 9 8,oM 48 10,oI 49 9 47 48,oL 50 6 49,oL 51 26 5,oF 52 19 11 0,oL 53 20 52,oO 54 (.lookup 26 (.t 51) (.t 53) false),oI 55 6 50 54,oL 56 2 55,oF 57 19 11 1,oL 58 2 57,gB 59 .add 2 56 58,oI 60 6 50 54,jS 2 60 59])))],rg [oL 61 9 8,oA 4 61],.ret]⟩
def f69:DFn := ⟨24,[.tmp 4],
 fg [rg [oO 4 (.assign (u9B false))],fg [rg [i8 5 1],.block 0 (.loop (fg [fg [rg [oM 6 5,oM 7 0,oN 8 10 7,gB 9 .lss 2 6 8],gw 9 .skip (.exit 0)],.block 1 (fg [.region true [] [oM 12 1,oM 13 0,oM 14 5,g8 15 .sub 2 14 1,oI 16 10 13 15,oL 17 20 16,oM 18 0,oM 19 5,oI 20 10 18 19,oL 21 20 20,oO 22 (.call 0 (.t 12) [.t 17,.t 21]),g8 23 .geq 2 22 0],gw 23 (fg [rg [oO 4 (.assign (u9B false))],.ret]) .skip]),rg [oM 10 5,g8 11 .add 2 10 1,oA 5 11]]))],rg [oO 4 (.assign (u9B true))],.ret]⟩
def f70:DFn := ⟨24,[.tmp 4],
 fg [rg [oO 2 (.box 20 (.t 0)),oO 3 (.box 20 (.t 1)),i8 4 0],fg [rg [oF 5 20 2 0,oL 6 7 5,oF 7 20 3 0,oL 8 7 7,gB 9 .neq 7 6 8],gw 9 (fg [fg [rg [oF 10 20 3 0,oL 11 7 10],gw 11 (fg [rg [oO 4 (.assign (.c (.int .i64 (-1))))],.ret]) .skip],rg [i8 4 1],.ret]) .skip],.region true [] [oF 12 20 2 1,oL 13 2 12,oF 14 20 3 1,oL 15 2 14,jh 16 74 [.t 13,.t 15],oF 17 20 2 2,oL 18 2 17,oF 19 20 3 2,oL 20 2 19,jh 21 74 [.t 18,.t 20],oO 22 (.bslice false 6 2 [(0,.t 16),(1,.t 21)]),jh 23 105 [.t 22],oA 4 23],.ret]⟩
def f71:DFn := ⟨9,[.tmp 4],
 fg [rg [oO 4 (.assign (u9B false))],rg [oM 5 0,oM 6 1,jh 7 106 [.t 5,.t 6],g8 8 .geq 2 7 0,oA 4 8],.ret]⟩
def f72:DFn := ⟨6,[.tmp 2],
 fg [rg [oO 2 (.assign (u9B false))],rg [oM 3 0,jh 4 67 [.t 3,u9I 0,u9I 4096],jY 5 4,oA 2 5],.ret]⟩
def f73:DFn := ⟨24,[.tmp 4],
 fg [rg [oO 4 (.assign (u9B false))],fg [rg [i8 5 1],.block 0 (.loop (fg [fg [rg [oM 6 5,oM 7 0,oN 8 6 7,gB 9 .lss 2 6 8],gw 9 .skip (.exit 0)],.block 1 (fg [.region true [] [oM 12 1,oM 13 0,oM 14 5,g8 15 .sub 2 14 1,oI 16 6 13 15,oL 17 2 16,oM 18 0,oM 19 5,oI 20 6 18 19,oL 21 2 20,oO 22 (.call 0 (.t 12) [.t 17,.t 21]),g8 23 .geq 2 22 0],gw 23 (fg [rg [oO 4 (.assign (u9B false))],.ret]) .skip]),rg [oM 10 5,g8 11 .add 2 10 1,oA 5 11]]))],rg [oO 4 (.assign (u9B true))],.ret]⟩
def f74:DFn := ⟨20,[.tmp 4],
 fg [rg [i8 4 0],rg [oM 7 0,jh 8 107 [.t 7],oA 5 8],rg [oM 9 1,jh 10 107 [.t 9],oA 6 10],fg [rg [oM 11 5],gw 11 (fg [fg [rg [oM 12 6],gw 12 (fg [rg [i8 4 0],.ret]) .skip],rg [oO 4 (.assign (.c (.int .i64 (-1))))],.ret]) .skip],fg [rg [oM 13 6],gw 13 (fg [rg [i8 4 1],.ret]) .skip],fg [rg [oM 14 0,oM 15 1,gB 16 .lss 2 14 15],gw 16 (fg [rg [oO 4 (.assign (.c (.int .i64 (-1))))],.ret]) .skip],fg [rg [oM 17 0,oM 18 1,gB 19 .gtr 2 17 18],gw 19 (fg [rg [i8 4 1],.ret]) .skip],rg [i8 4 0],.ret]⟩
def f75:DFn := ⟨24,[.tmp 4],
 fg [rg [oO 4 (.assign (u9B false))],fg [rg [i8 5 1],.block 0 (.loop (fg [fg [rg [oM 6 5,oM 7 0,oN 8 18 7,gB 9 .lss 2 6 8],gw 9 .skip (.exit 0)],.block 1 (fg [.region true [] [oM 12 1,oM 13 0,oM 14 5,g8 15 .sub 2 14 1,oI 16 18 13 15,oL 17 19 16,oM 18 0,oM 19 5,oI 20 18 18 19,oL 21 19 20,oO 22 (.call 0 (.t 12) [.t 17,.t 21]),g8 23 .geq 2 22 0],gw 23 (fg [rg [oO 4 (.assign (u9B false))],.ret]) .skip]),rg [oM 10 5,g8 11 .add 2 10 1,oA 5 11]]))],rg [oO 4 (.assign (u9B true))],.ret]⟩
def f76:DFn := ⟨10,[.tmp 4],
 fg [rg [oO 2 (.box 19 (.t 0)),oO 3 (.box 19 (.t 1)),i8 4 0],rg [oF 5 19 2 0,oL 6 20 5,oF 7 19 3 0,oL 8 20 7,jh 9 70 [.t 6,.t 8],oA 4 9],.ret]⟩
def f83:DFn := ⟨18,[.tmp 4],
 fg [rg [oO 2 (.box 0 (.t 0)),i8 4 0],fg [rg [oL 6 0 2,oM 7 1,jh 8 66 [.t 6,.t 7],oA 5 8],rg [oM 9 5,g8 10 .neq 3 9 0],gw 10 (fg [rg [oM 11 5,oA 4 11],.ret]) .skip],fg [rg [oM 12 1,oN 13 6 12,oF 14 0 2 2,oL 15 14 14,oN 16 14 15,gB 17 .neq 2 13 16],gw 17 (fg [rg [i8 4 270],.ret]) .skip],rg [i8 4 0],.ret]⟩
def f84:DFn := ⟨6,[.tmp 4],
 fg [rg [oO 2 (.box 0 (.t 0)),oO 3 (.box 6 (.t 1)),oO 4 (.assign (.c .nilfn))],rg [oO 5 (.mkfn 110 [.t 2,.t 3]),oA 4 5],.ret]⟩
def f87:DFn := ⟨36,[.tmp 4],
 fg [rg [i8 4 0],fg [rg [oM 9 0,oN 10 6 9,oO 11 (.move (u9I 0))],.block 0 (.loop (fg [rg [gB 12 .lss 2 11 10],gw 12 .skip (.exit 0),.block 1 (fg [rg [oM 13 11,oI 14 6 9 11,oL 15 2 14,oA 5 13,oA 6 15],fg [rg [oM 16 5,oM 17 1,oN 18 6 17,gB 19 .geq 2 16 18],gw 19 (fg [rg [i8 4 1],.ret]) .skip],rg [oM 20 1,oM 21 5,oI 22 6 20 21,oL 23 2 22,oA 7 23],rg [oM 24 6,oM 25 7,jh 26 74 [.t 24,.t 25],oA 8 26],rg [oM 27 8,g8 28 .neq 2 27 0],gw 28 (fg [rg [oM 29 8,oA 4 29],.ret]) .skip]),rg [g8 30 .add 2 11 1,oM 11 30]]))],fg [rg [oM 31 0,oN 32 6 31,oM 33 1,oN 34 6 33,gB 35 .lss 2 32 34],gw 35 (fg [rg [oO 4 (.assign (.c (.int .i64 (-1))))],.ret]) .skip],rg [i8 4 0],.ret]⟩
def f94:DFn := ⟨9,[.tmp 4],
 fg [rg [oO 4 (.assign (u9B false))],rg [oM 5 0,oM 6 1,jh 7 113 [.t 5,.t 6],g8 8 .geq 2 7 0,oA 4 8],.ret]⟩
def f96:DFn := ⟨8,[.tmp 2],
 fg [rg [oO 2 (.assign (.c (.imm .exact [])))],rg [oO 5 (.bslice false 6 0 []),oM 6 0,oO 7 (.append 1 6 6 (.t 5) (.t 6)),oA 2 7],.ret]⟩
def f102:DFn := ⟨43,[],
 fg [rg [oF 7 0 1 2,oL 8 14 7,oN 9 14 8,oO 10 (.move (u9I 0))],.block 0 (.loop (fg [rg [gB 11 .lss 2 10 9],gw 11 .skip (.exit 0),.block 1 (fg [rg [oM 12 10,oI 13 14 8 10,oL 14 15 13,jV 5 15,oA 4 12,jS 15 5 14],.region true [] [oF 15 15 5 3,oL 16 16 15,oO 17 (.iaddr 16 (.t 16) (u9I 0)),oL 18 17 17,oF 19 15 5 3,oL 20 16 19,oO 21 (.slice 16 (.t 20) (some (u9I 1)) none none),jh 22 122 [.t 18,.t 21],jV 6 17,jS 17 6 22],fg [rg [oM 23 4,oL 24 1 2,oN 25 1 24,gB 26 .lss 2 23 25],gw 26 (.region true [] [oF 27 15 5 3,oL 28 16 27,oL 29 1 2,oM 30 4,oI 31 1 29 30,oL 32 2 31,oI 33 16 28 32,oL 34 17 33,jS 17 6 34]) .skip],rg [oM 35 0,oF 36 15 5 2,oL 37 6 36,oN 38 6 37,oL 39 17 6,oO 40 (.call 2 (.t 35) [.t 38,.t 39]),jY 41 40],gw 41 .ret .skip]),rg [g8 42 .add 2 10 1,oM 10 42]]))]⟩
def f104:DFn := ⟨6,[.tmp 4],
 fg [rg [oO 2 (.box 0 (.t 0)),oO 3 (.box 6 (.t 1)),oO 4 (.assign (.c .nilfn))],rg [oO 5 (.mkfn 123 [.t 3,.t 2]),oA 4 5],.ret]⟩
def f105:DFn := ⟨18,[.tmp 2],
 fg [rg [i8 2 0],rg [i8 3 0],fg [rg [oM 6 0,oN 7 6 6,oO 8 (.move (u9I 0))],.block 0 (.loop (fg [rg [gB 9 .lss 2 8 7],gw 9 .skip (.exit 0),.block 1 (fg [rg [oI 10 6 6 8,oL 11 2 10,oA 5 11],rg [oM 12 5,oM 13 3,gB 14 .neq 2 12 13],gw 14 (fg [rg [oM 15 5,oA 2 15],.ret]) .skip]),rg [g8 16 .add 2 8 1,oM 8 16]]))],rg [oM 17 3,oA 2 17],.ret]⟩
def f106:DFn := ⟨19,[.tmp 4],
 fg [rg [i8 4 0],fg [rg [oM 6 0,oN 7 6 6,oO 8 (.move (u9I 0))],.block 0 (.loop (fg [rg [gB 9 .lss 2 8 7],gw 9 .skip (.exit 0),.block 1 (fg [rg [oM 10 8,oA 5 10],rg [oM 11 1,oM 12 0,oM 13 5,oI 14 6 12 13,oL 15 2 14,oO 16 (.call 0 (.t 11) [.t 15])],gw 16 (fg [rg [oM 17 5,oA 4 17],.ret]) .skip]),rg [g8 18 .add 2 8 1,oM 8 18]]))],rg [oO 4 (.assign (.c (.int .i64 (-1))))],.ret]⟩
def f107:DFn := ⟨6,[.tmp 2],
 fg [rg [oO 2 (.assign (u9B false))],rg [oM 3 0,oM 4 0,gB 5 .neq 2 3 4,oA 2 5],.ret]⟩
def f110:DFn := ⟨48,[],
 fg [rg [oL 9 0 1,oL 10 6 2,jh 11 68 [.t 9,.t 10],oN 12 9 11,oO 13 (.move (u9I 0))],.block 0 (.loop (fg [rg [gB 14 .lss 2 13 12],gw 14 .skip (.exit 0),.block 1 (fg [rg [oM 15 13,oI 16 9 11 13,oL 17 6 16,oA 4 15,oA 5 17],rg [oM 18 5,oN 19 6 18,oO 20 (.move (u9I 0))],.block 2 (.loop (fg [rg [gB 21 .lss 2 20 19],gw 21 .skip (.exit 2),.block 3 (fg [rg [oM 22 20,oI 23 6 18 20,oL 24 2 23,oA 6 22,oA 7 24],rg [oM 25 7,oF 26 0 1 1,oL 27 9 26,oM 28 4,oI 29 9 27 28,oL 30 6 29,oM 31 6,oI 32 6 30 31,oL 33 2 32,gB 34 .sub 2 25 33,oA 8 34],rg [oM 35 8,g8 36 .gtr 2 35 0,oM 37 36,⟨some 38,.move (.t 0),some (37,true)⟩,⟨some 39,.move (.t 4),some (37,true)⟩,⟨some 40,.move (.t 6),some (37,true)⟩,⟨some 41,.build 11 [(0,.t 39),(1,.t 40)],some (37,true)⟩,⟨some 42,.move (.t 8),some (37,true)⟩,⟨some 43,.call 2 (.t 38) [.t 41,.t 42],some (37,true)⟩,⟨some 44,.un .not (.t 43),some (37,true)⟩,lj 45 37 44],gw 45 .ret .skip]),rg [g8 46 .add 2 20 1,oM 20 46]]))]),rg [g8 47 .add 2 13 1,oM 13 47]]))]⟩
def f113:DFn := ⟨19,[.tmp 4],
 fg [rg [i8 4 0],fg [rg [oM 6 0,oN 7 9 6,oO 8 (.move (u9I 0))],.block 0 (.loop (fg [rg [gB 9 .lss 2 8 7],gw 9 .skip (.exit 0),.block 1 (fg [rg [oM 10 8,oA 5 10],rg [oM 11 1,oM 12 0,oM 13 5,oI 14 9 12 13,oL 15 6 14,oO 16 (.call 0 (.t 11) [.t 15])],gw 16 (fg [rg [oM 17 5,oA 4 17],.ret]) .skip]),rg [g8 18 .add 2 8 1,oM 8 18]]))],rg [oO 4 (.assign (.c (.int .i64 (-1))))],.ret]⟩
def f122:DFn := ⟨33,[.cell 4 17],
 fg [rg [oO 2 (.box 17 (.t 0)),jV 4 17],fg [rg [oM 7 1,oN 8 16 7,oO 9 (.move (u9I 0))],.block 0 (.loop (fg [rg [gB 10 .lss 2 9 8],gw 10 .skip (.exit 0),.block 1 (fg [rg [oI 11 16 7 9,oL 12 17 11,jV 6 17,jS 17 6 12],rg [oF 13 17 2 0,oL 14 2 13,oF 15 17 6 0,oL 16 2 15,oO 17 (.mini [.t 14,.t 16]),oF 18 17 2 0,jS 2 18 17],rg [oF 19 17 2 1,oL 20 2 19,oF 21 17 6 1,oL 22 2 21,oO 23 (.mini [.t 20,.t 22]),oF 24 17 2 1,jS 2 24 23],rg [oF 25 17 2 2,oL 26 2 25,oF 27 17 6 2,oL 28 2 27,oO 29 (.mini [.t 26,.t 28]),oF 30 17 2 2,jS 2 30 29]]),rg [g8 31 .add 2 9 1,oM 9 31]]))],rg [oL 32 17 2,jS 17 4 32],.ret]⟩
def f123:DFn := ⟨51,[],
 fg [rg [oL 10 6 1,oN 11 6 10,oO 12 (.move (u9I 0))],.block 0 (.loop (fg [rg [gB 13 .lss 2 12 11],gw 13 .skip (.exit 0),.block 1 (fg [rg [oM 14 12,oI 15 6 10 12,oL 16 2 15,oA 4 14,oA 5 16],rg [oF 17 0 2 2,oL 18 14 17,oM 19 4,oI 20 14 18 19,oF 21 15 20 2,oL 22 6 21,oN 23 6 22,oO 24 (.move (u9I 0))],.block 2 (.loop (fg [rg [gB 25 .lss 2 24 23],gw 25 .skip (.exit 2),.block 3 (fg [rg [oI 26 6 22 24,oL 27 2 26,oA 7 27],rg [oF 28 0 2 2,oL 29 14 28,oM 30 4,oI 31 14 29 30,oF 32 15 31 3,oL 33 16 32,oM 34 5,oI 35 16 33 34,oF 36 17 35 3,oL 37 18 36,oN 38 18 37,oO 39 (.move (u9I 0))],.block 4 (.loop (fg [rg [gB 40 .lss 2 39 38],gw 40 .skip (.exit 4),.block 5 (fg [rg [oI 41 18 37 39,oL 42 19 41,jV 9 19,jS 19 9 42],rg [oM 43 0,oM 44 7,oL 45 19 9,oO 46 (.call 2 (.t 43) [.t 44,.t 45]),jY 47 46],gw 47 .ret .skip]),rg [g8 48 .add 2 39 1,oM 39 48]]))]),rg [g8 49 .add 2 24 1,oM 24 49]]))]),rg [g8 50 .add 2 12 1,oM 12 50]]))]⟩
def f129:DFn := ⟨10,[.tmp 2],
 fg [rg [oO 1 (.box 0 (.t 0)),oO 2 (.assign (u9B false))],rg [oL 3 0 1,jh 4 2 [.t 3],oM 5 4,⟨some 6,.load 0 (.t 1),some (5,true)⟩,⟨some 7,.call 0 (.f 61) [.t 6,u9I 400],some (5,true)⟩,⟨some 8,.bin .leq 2 (.t 7) (u9I 300),some (5,true)⟩,lj 9 5 8,oA 2 9],.ret]⟩
def f131:DFn := ⟨21,[.cell 2 29,.tmp 3],
 fg [rg [oO 1 (.box 0 (.t 0)),jV 2 29,i8 3 0],rg [oL 6 0 1,jh 7 139 [.t 6],oM 5 7,jP 8 5 0,jP 9 5 1,jV 4 28,jS 28 4 8,oA 3 9],fg [rg [oM 10 3,g8 11 .neq 3 10 0],gw 11 (fg [rg [oL 12 29 2,oM 13 3,jS 29 2 12,oA 3 13],.ret]) .skip],.region true [] [oL 14 0 1,oL 15 0 1,oL 16 28 4,jh 17 150 [.t 15,.t 16,.f 151],jh 18 133 [.t 14,.t 17],jP 19 18 0,jP 20 18 1,jS 29 2 19,oA 3 20],.ret]⟩
def f133:DFn := ⟨31,[.cell 4 29,.tmp 5],
 fg [rg [oO 2 (.box 0 (.t 0)),oO 3 (.box 28 (.t 1)),jV 4 29,i8 5 0],fg [rg [oL 7 0 2,oL 8 28 3,jh 9 142 [.t 7,.t 8],oA 6 9],rg [oM 10 6,g8 11 .neq 3 10 0],gw 11 (fg [rg [oL 12 29 4,oM 13 6,jS 29 4 12,oA 5 13],.ret]) .skip],fg [rg [oL 14 28 3,jh 15 140 [.t 14],jY 16 15,oM 17 16,kV 18 28 3 2 17,kI 19 6 18 17,lc 20 6 19 17,iM 21 .eql 2 20 0 17,li 22 17 21],gw 22 (fg [rg [oL 23 29 4,jS 29 4 23,i8 5 300],.ret]) .skip],rg [oF 24 28 3 1,oL 25 6 24,oF 26 28 3 2,oL 27 6 26,oF 28 28 3 3,oL 29 31 28,oO 30 (.build 29 [(0,.t 25),(1,.t 27),(2,.t 29)]),jS 29 4 30,i8 5 0],.ret]⟩
def f139:DFn := ⟨14,[.cell 2 28,.tmp 3],
 fg [rg [oO 1 (.box 0 (.t 0)),jV 2 28,i8 3 0],fg [rg [oL 5 0 1,jh 6 15 [.t 5],oA 4 6],rg [oM 7 4,g8 8 .neq 3 7 0],gw 8 (fg [rg [oL 9 28 2,oM 10 4,jS 28 2 9,oA 3 10],.ret]) .skip],rg [oO 11 (.bslice false 1 0 []),oO 12 (.bslice false 4 1 [(0,.t 11)]),oO 13 (.build 28 [(0,.t 12)]),jS 28 2 13,i8 3 0],.ret]⟩
def f140:DFn := ⟨7,[.tmp 2],
 fg [rg [oO 1 (.box 28 (.t 0)),oO 2 (.assign (u9B false))],rg [oF 3 28 1 0,oL 4 4 3,oN 5 4 4,g8 6 .eql 2 5 0,oA 2 6],.ret]⟩
def f142:DFn := ⟨51,[.tmp 4],
 fg [rg [oO 2 (.box 0 (.t 0)),oO 3 (.box 28 (.t 1)),i8 4 0],fg [rg [oL 9 0 2,jh 10 15 [.t 9],oA 5 10],rg [oM 11 5,g8 12 .neq 3 11 0],gw 12 (fg [rg [oM 13 5,oA 4 13],.ret]) .skip],rg [oO 14 (.mkfn 157 [.t 2]),jV 6 33,jS 33 6 14],fg [rg [oF 15 28 3 0,oL 16 4 15,oO 17 (.mkfn 158 [.t 2]),oO 18 (.call 3 (.f 159) [.t 16,.t 17]),oM 19 18,kV 20 28 3 3 19,kI 21 31 20 19,u9G 22 (.mkfn 160 [.t 6]) 19,u9G 23 (.call 3 (.f 161) [.t 21,.t 22]) 19,li 24 19 23],gw 24 (fg [rg [i8 4 300],.ret]) .skip],fg [rg [oF 25 28 3 2,oL 26 6 25,oN 27 6 26,g8 28 .eql 2 27 0,oM 29 28,⟨some 30,.faddr 28 (.t 3) 1,some (29,true)⟩,⟨some 31,.load 6 (.t 30),some (29,true)⟩,⟨some 32,.len 6 (.t 31),some (29,true)⟩,⟨some 33,.bin .eql 2 (.t 32) (u9I 0),some (29,true)⟩,lj 34 29 33],gw 34 (fg [rg [i8 4 0],.ret]) .skip],fg [rg [oL 36 0 2,oF 37 28 3 1,oL 38 6 37,jh 39 22 [.t 36,.t 38],oM 35 39,jP 40 35 0,jP 41 35 1,oA 7 40,oA 8 41],rg [oM 42 8,g8 43 .neq 3 42 0,oM 44 43,u9G 45 (.move (.t 7)) 44,kV 46 28 3 2 44,kI 47 6 46 44,jx 48 162 [.t 45,.t 47] 44,kj 49 48 44,li 50 44 49],gw 50 (fg [rg [i8 4 300],.ret]) .skip],rg [i8 4 0],.ret]⟩
def f150:DFn := ⟨103,[.cell 6 28],
 fg [rg [oO 3 (.box 0 (.t 0)),oO 4 (.box 28 (.t 1)),jV 6 28],rg [oF 17 28 4 0,oL 18 4 17,jh 19 165 [.t 18],jV 7 35,jS 35 7 19],rg [oF 20 28 4 3,oL 21 31 20,jh 22 166 [.t 21],oF 23 28 4 3,jS 31 23 22],rg [oO 24 (.mkfn 167 [.t 4]),oA 8 24],.block 0 (.loop (fg [fg [rg [oL 25 35 7,oN 26 35 25,g8 27 .gtr 2 26 0,oM 28 27,⟨some 29,.move (.t 2),some (28,true)⟩,⟨some 30,.call 2 (.t 29) [],some (28,true)⟩,lj 31 28 30],gw 31 .skip (.exit 0)],.block 1 (fg [rg [oO 9 (.assign (.c (.imm .exact [])))],rg [oL 33 35 7,jh 34 168 [.t 33],oM 32 34,jP 35 32 0,jP 36 32 1,oA 9 35,jS 35 7 36],fg [rg [oM 37 9,oN 38 1 37,oF 39 0 3 2,oL 40 14 39,oN 41 14 40,gB 42 .eql 2 38 41],gw 42 (fg [rg [oL 44 0 3,oM 45 9,jh 46 22 [.t 44,.t 45],oM 43 46,jP 47 43 0,jP 48 43 1,oA 10 47,oA 11 48],fg [rg [oF 49 28 4 2,oL 50 6 49,oN 51 6 50,g8 52 .eql 2 51 0,oM 53 52,u9G 54 (.move (.t 10)) 53,kV 55 28 4 2 53,kI 56 6 55 53,jx 57 87 [.t 54,.t 56] 53,iM 58 .lss 2 57 0 53,li 59 53 58],gw 59 (rg [oM 60 9,oM 61 10,oF 62 28 4 1,jS 6 62 60,oF 63 28 4 2,jS 6 63 61]) .skip],rg [oM 64 8,oM 65 9,oO 66 (.call 2 (.t 64) [.t 65,u9I 1])],.exit 1]) .skip],fg [rg [oL 68 0 3,oM 69 9,jh 70 3 [.t 68,.t 69],oM 67 70,jP 71 67 0,jP 72 67 1,oA 12 71,oA 13 72],rg [oF 73 28 4 2,oL 74 6 73,oN 75 6 74,g8 76 .gtr 2 75 0,oM 77 76,⟨some 78,.move (.t 12),some (77,true)⟩,⟨some 79,.faddr 28 (.t 4) 2,some (77,true)⟩,⟨some 80,.load 6 (.t 79),some (77,true)⟩,⟨some 81,.call 0 (.f 87) [.t 78,.t 80],some (77,true)⟩,⟨some 82,.bin .geq 2 (.t 81) (u9I 0),some (77,true)⟩,lj 83 77 82],gw 83 (fg [rg [oM 84 8,oM 85 9,oO 86 (.call 2 (.t 84) [.t 85,u9I 2])],.exit 1]) .skip],rg [oL 88 0 3,oM 89 9,jh 90 7 [.t 88,.t 89],oM 87 90,jP 91 87 0,jP 92 87 1,oA 14 91,oA 15 92],rg [oM 93 14,jh 94 169 [.t 93]],.block 2 (.rfunc (.t 94) [95] (rg [oA 16 95]) (.block 3 (rg [oL 96 35 7,oM 97 16,oO 98 (.bslice false 35 1 [(0,.t 97)]),oO 99 (.append 0 35 35 (.t 96) (.t 98)),jS 35 7 99])))])])),rg [oL 100 35 7,oF 101 28 4 0,jS 4 101 100],rg [oL 102 28 4,jS 28 6 102],.ret]⟩
def f151:DFn := ⟨1,[.tmp 0],
 fg [rg [oO 0 (.assign (u9B false))],rg [oO 0 (.assign (u9B true))],.ret]⟩
def f157:DFn := ⟨35,[.tmp 3],
 fg [rg [oO 2 (.box 32 (.t 0)),oO 3 (.assign (u9B false))],rg [oF 5 32 2 1,oL 6 2 5,g8 7 .eql 2 6 1,oM 8 7,⟨some 9,.faddr 32 (.t 2) 0,some (8,true)⟩,⟨some 10,.load 1 (.t 9),some (8,true)⟩,⟨some 11,.len 1 (.t 10),some (8,true)⟩,⟨some 12,.faddr 0 (.t 1) 2,some (8,true)⟩,⟨some 13,.load 14 (.t 12),some (8,true)⟩,⟨some 14,.len 14 (.t 13),some (8,true)⟩,⟨some 15,.bin .eql 2 (.t 11) (.t 14),some (8,true)⟩,lj 16 8 15,oA 4 16],rg [oL 17 0 1,oF 18 32 2 0,oL 19 1 18,jh 20 172 [.t 17,.t 19],oM 21 20,⟨some 22,.faddr 32 (.t 2) 2,some (21,true)⟩,⟨some 23,.load 9 (.t 22),some (21,true)⟩,⟨some 24,.len 9 (.t 23),some (21,true)⟩,⟨some 25,.bin .eql 2 (.t 24) (u9I 0),some (21,true)⟩,lj 26 21 25,oM 27 26,⟨some 28,.move (.t 4),some (27,true)⟩,⟨some 29,.move (.t 28),some (27,true)⟩,kV 30 32 2 1 29,kI 31 2 30 29,iM 32 .eql 2 31 2 29,⟨some 33,.pick (.t 29) (u9B true) (.t 32),some (27,true)⟩,lj 34 27 33,oA 3 34],.ret]⟩
def f158:DFn := ⟨8,[.tmp 3],
 fg [rg [oO 3 (.assign (u9B false))],rg [oL 4 0 1,oM 5 0,jh 6 172 [.t 4,.t 5],jY 7 6,oA 3 7],.ret]⟩
def f159:DFn := ⟨9,[.tmp 4],
 fg [rg [oO 4 (.assign (u9B false))],rg [oM 5 0,oM 6 1,jh 7 173 [.t 5,.t 6],g8 8 .geq 2 7 0,oA 4 8],.ret]⟩
def f160:DFn := ⟨8,[.tmp 3],
 fg [rg [oO 2 (.box 32 (.t 0)),oO 3 (.assign (u9B false))],rg [oL 4 33 1,oL 5 32 2,oO 6 (.call 0 (.t 4) [.t 5]),jY 7 6,oA 3 7],.ret]⟩
def f161:DFn := ⟨9,[.tmp 4],
 fg [rg [oO 4 (.assign (u9B false))],rg [oM 5 0,oM 6 1,jh 7 174 [.t 5,.t 6],g8 8 .geq 2 7 0,oA 4 8],.ret]⟩
def f162:DFn := ⟨26,[.tmp 4],
 fg [rg [oO 4 (.assign (u9B false))],fg [rg [oM 6 0,oN 7 6 6,oM 8 1,oN 9 6 8,gB 10 .neq 2 7 9],gw 10 (fg [rg [oO 4 (.assign (u9B false))],.ret]) .skip],fg [rg [oM 11 0,oN 12 6 11,oO 13 (.move (u9I 0))],.block 0 (.loop (fg [rg [gB 14 .lss 2 13 12],gw 14 .skip (.exit 0),.block 1 (fg [rg [oM 15 13,oA 5 15],.region true [] [oM 16 0,oM 17 5,oI 18 6 16 17,oL 19 2 18,oM 20 1,oM 21 5,oI 22 6 20 21,oL 23 2 22,gB 24 .neq 2 19 23],gw 24 (fg [rg [oO 4 (.assign (u9B false))],.ret]) .skip]),rg [g8 25 .add 2 13 1,oM 13 25]]))],rg [oO 4 (.assign (u9B true))],.ret]⟩
def f165:DFn := ⟨8,[.tmp 2],
 fg [rg [oO 2 (.assign (.c (.imm .exact [])))],rg [oO 5 (.bslice false 4 0 []),oM 6 0,oO 7 (.append 1 4 4 (.t 5) (.t 6)),oA 2 7],.ret]⟩
def f166:DFn := ⟨9,[.tmp 2],
 fg [rg [oO 2 (.assign (.c (.imm .exact [])))],rg [oM 3 0,oM 4 0,oN 5 31 4,oM 6 0,oN 7 31 6,oO 8 (.slice 31 (.t 3) none (some (.t 5)) (some (.t 7))),oA 2 8],.ret]⟩
def f167:DFn := ⟨13,[],
 .region false [] [oF 5 28 2 3,oL 6 31 5,oM 7 0,oM 8 1,oO 9 (.build 32 [(0,.t 7),(1,.t 8)]),oO 10 (.bslice false 31 1 [(0,.t 9)]),oO 11 (.append 0 31 31 (.t 6) (.t 10)),oF 12 28 2 3,jS 31 12 11]⟩
def f168:DFn := ⟨16,[.tmp 2,.tmp 3],
 fg [rg [oO 2 (.assign (.c (.imm .exact []))),oO 3 (.assign (.c (.imm .exact [])))],rg [oM 5 0,oN 6 35 5,g8 7 .sub 2 6 1,oA 4 7],.region true [] [oM 8 0,oM 9 4,oI 10 35 8 9,oL 11 1 10,oM 12 0,oM 13 4,oO 14 (.slice 35 (.t 12) none (some (.t 13)) none),jh 15 175 [.t 14],oA 2 11,oA 3 15],.ret]⟩
def f169:DFn := ⟨4,[.tmp 2],
 fg [rg [oO 1 (.box 4 (.t 0)),oO 2 (.assign (.c .nilfn))],rg [oO 3 (.mkfn 176 [.t 1]),oA 2 3],.ret]⟩
def f172:DFn := ⟨34,[.tmp 4],
 fg [rg [oO 2 (.box 0 (.t 0)),oO 4 (.assign (u9B false))],fg [rg [oM 7 1,oN 8 1 7,oF 9 0 2 2,oL 10 14 9,oN 11 14 10,gB 12 .gtr 2 8 11],gw 12 (fg [rg [oO 4 (.assign (u9B false))],.ret]) .skip],fg [rg [oM 13 1,oN 14 1 13,oO 15 (.move (u9I 0))],.block 0 (.loop (fg [rg [gB 16 .lss 2 15 14],gw 16 .skip (.exit 0),.block 1 (fg [rg [oM 17 15,oI 18 1 13 15,oL 19 2 18,oA 5 17,oA 6 19],rg [oM 20 6,g8 21 .lss 2 20 0,oM 22 21,u9G 23 (.move (.t 6)) 22,kV 24 0 2 2 22,kI 25 14 24 22,u9G 26 (.move (.t 5)) 22,la 27 14 25 26 22,kV 28 15 27 3 22,kI 29 16 28 22,lc 30 16 29 22,iE 31 .geq 2 23 30 22,li 32 22 31],gw 32 (fg [rg [oO 4 (.assign (u9B false))],.ret]) .skip]),rg [g8 33 .add 2 15 1,oM 15 33]]))],rg [oO 4 (.assign (u9B true))],.ret]⟩
def f173:DFn := ⟨19,[.tmp 4],
 fg [rg [i8 4 0],fg [rg [oM 6 0,oN 7 4 6,oO 8 (.move (u9I 0))],.block 0 (.loop (fg [rg [gB 9 .lss 2 8 7],gw 9 .skip (.exit 0),.block 1 (fg [rg [oM 10 8,oA 5 10],rg [oM 11 1,oM 12 0,oM 13 5,oI 14 4 12 13,oL 15 1 14,oO 16 (.call 0 (.t 11) [.t 15])],gw 16 (fg [rg [oM 17 5,oA 4 17],.ret]) .skip]),rg [g8 18 .add 2 8 1,oM 8 18]]))],rg [oO 4 (.assign (.c (.int .i64 (-1))))],.ret]⟩
def f174:DFn := ⟨19,[.tmp 4],
 fg [rg [i8 4 0],fg [rg [oM 6 0,oN 7 31 6,oO 8 (.move (u9I 0))],.block 0 (.loop (fg [rg [gB 9 .lss 2 8 7],gw 9 .skip (.exit 0),.block 1 (fg [rg [oM 10 8,oA 5 10],rg [oM 11 1,oM 12 0,oM 13 5,oI 14 31 12 13,oL 15 32 14,oO 16 (.call 0 (.t 11) [.t 15])],gw 16 (fg [rg [oM 17 5,oA 4 17],.ret]) .skip]),rg [g8 18 .add 2 8 1,oM 8 18]]))],rg [oO 4 (.assign (.c (.int .i64 (-1))))],.ret]⟩
def f175:DFn := ⟨9,[.tmp 2],
 fg [rg [oO 2 (.assign (.c (.imm .exact [])))],rg [oM 3 0,oM 4 0,oN 5 35 4,oM 6 0,oN 7 35 6,oO 8 (.slice 35 (.t 3) none (some (.t 5)) (some (.t 7))),oA 2 8],.ret]⟩
def f176:DFn := ⟨18,[],
 fg [rg [oL 4 4 1,oN 5 4 4,g8 6 .sub 2 5 1,oA 3 6],.block 0 (.loop (fg [fg [rg [oM 7 3,g8 8 .geq 2 7 0],gw 8 .skip (.exit 0)],.block 1 (fg [rg [oM 11 0,oL 12 4 1,oM 13 3,oI 14 4 12 13,oL 15 1 14,oO 16 (.call 2 (.t 11) [.t 15]),jY 17 16],gw 17 .ret .skip]),rg [oM 9 3,g8 10 .sub 2 9 1,oA 3 10]]))]⟩
def f179:DFn := ⟨44,[.tmp 4],
 fg [rg [oO 2 (.box 0 (.t 0)),oO 4 (.assign (u9B false))],fg [rg [i8 5 0],.block 0 (.loop (fg [fg [rg [oM 7 5,oM 8 1,oN 9 38 8,gB 10 .lss 2 7 9],gw 10 .skip (.exit 0)],.block 1 (fg [rg [i8 6 0],.block 2 (.loop (fg [fg [rg [oM 13 6,oM 14 1,oM 15 5,oI 16 38 14 15,oF 17 39 16 1,oL 18 9 17,oN 19 9 18,gB 20 .lss 2 13 19],gw 20 .skip (.exit 2)],.block 3 (fg [rg [oM 23 6,g8 24 .geq 2 23 8,oM 25 24,u9G 26 (.move (.t 1)) 25,u9G 27 (.move (.t 5)) 25,la 28 38 26 27 25,kV 29 39 28 1 25,kI 30 9 29 25,u9G 31 (.move (.t 6)) 25,la 32 9 30 31 25,kI 33 6 32 25,lc 34 6 33 25,iM 35 .gtr 2 34 20 25,li 36 25 35],gw 36 (fg [rg [oO 4 (.assign (u9B false))],.ret]) .skip]),rg [oM 21 6,g8 22 .add 2 21 1,oA 6 22]]))]),rg [oM 11 5,g8 12 .add 2 11 1,oA 5 12]]))],rg [oL 37 0 2,jh 38 129 [.t 37],oM 39 38,⟨some 40,.move (.t 1),some (39,true)⟩,⟨some 41,.len 38 (.t 40),some (39,true)⟩,⟨some 42,.bin .leq 2 (.t 41) (u9I 4),some (39,true)⟩,lj 43 39 42,oA 4 43],.ret]⟩
def f180:DFn := ⟨42,[.cell 4 36,.cell 5 3],
 fg [rg [oO 2 (.box 0 (.t 0)),jV 4 36,jV 5 3],fg [rg [oL 13 0 2,oM 14 1,jh 15 181 [.t 13,.t 14],oA 6 15],rg [oM 16 6,g8 17 .neq 3 16 0],gw 17 (fg [rg [oM 18 6,oE (.store 36 (.t 4) (.c (.imm .exact []))),jS 3 5 18],.ret]) .skip],rg [oF 19 0 2 2,oL 20 14 19,oN 21 14 20,oO 22 (.mkslice false 6 (.t 21) (.t 21)),jV 7 6,jS 6 7 22],rg [oO 23 (.mkfn 191 [.t 7,.t 4]),jV 8 40,jS 40 8 23],fg [rg [oL 24 0 2,oM 25 1,jh 26 192 [.t 24,.t 25]],.block 0 (.rfunc (.t 26) [27,28] (fg [rg [oA 9 27],rg [jV 10 0,jS 0 10 28]]) (.block 1 (fg [rg [oL 30 0 10,jh 31 184 [.t 30],oM 29 31,jP 32 29 0,jP 33 29 1,oA 11 32,oA 12 33],fg [rg [oM 34 12,g8 35 .neq 3 34 0],gw 35 (fg [rg [oM 36 12,oE (.store 36 (.t 4) (.c (.imm .exact []))),jS 3 5 36],.ret]) .skip],rg [oL 37 40 8,oM 38 9,oM 39 11,oO 40 (.call 2 (.t 37) [.t 38,.t 39])]])))],rg [oL 41 36 4,jS 36 4 41,oE (.store 3 (.t 5) (u9I 0))],.ret]⟩
def f181:DFn := ⟨21,[.tmp 4],
 fg [rg [oO 2 (.box 0 (.t 0)),i8 4 0],fg [rg [oL 7 0 2,jh 8 15 [.t 7],oA 5 8],rg [oM 9 5,g8 10 .neq 3 9 0],gw 10 (fg [rg [oM 11 5,oA 4 11],.ret]) .skip],rg [oO 12 (.mkfn 193 [.t 2]),oA 6 12],fg [rg [oM 13 1,oN 14 38 13,g8 15 .gtr 2 14 8,oM 16 15,u9G 17 (.move (.t 1)) 16,u9G 18 (.move (.t 6)) 16,u9G 19 (.call 3 (.f 194) [.t 17,.t 18]) 16,li 20 16 19],gw 20 (fg [rg [i8 4 420],.ret]) .skip],rg [i8 4 0],.ret]⟩
def f184:DFn := ⟨38,[.tmp 2,.tmp 3],
 fg [rg [oO 1 (.box 0 (.t 0)),oO 2 (.assign (.c (.imm .exact []))),i8 3 0],rg [oL 8 0 1,jh 9 131 [.t 8],oM 7 9,jP 10 7 0,jP 11 7 1,jV 4 29,jS 29 4 10,oA 3 11],fg [rg [oM 12 3,g8 13 .neq 3 12 0],gw 13 (fg [rg [oM 14 3,oO 2 (.assign (.c (.imm .exact []))),oA 3 14],.ret]) .skip],fg [rg [oF 15 29 4 0,oL 16 6 15,oN 17 6 16,oO 18 (.move (u9I 0))],.block 0 (.loop (fg [rg [gB 19 .lss 2 18 17],gw 19 .skip (.exit 0),.block 1 (fg [rg [oM 20 18,oI 21 6 16 18,oL 22 2 21,oA 5 20,oA 6 22],rg [oM 23 2,oF 24 0 1 2,oL 25 14 24,oM 26 5,oI 27 14 25 26,oF 28 15 27 3,oL 29 16 28,oM 30 6,oI 31 16 29 30,oF 32 17 31 0,oL 33 2 32,oO 34 (.bslice false 6 1 [(0,.t 33)]),oO 35 (.append 0 6 6 (.t 23) (.t 34)),oA 2 35]]),rg [g8 36 .add 2 18 1,oM 18 36]]))],rg [oM 37 2,oA 2 37,i8 3 0],.ret]⟩
def f191:DFn := ⟨35,[],
 fg [fg [rg [oM 8 1,oN 9 6 8,oO 10 (.move (u9I 0))],.block 0 (.loop (fg [rg [gB 11 .lss 2 10 9],gw 11 .skip (.exit 0),.block 1 (fg [rg [oM 12 10,oI 13 6 8 10,oL 14 2 13,oA 6 12,oA 7 14],rg [oM 15 7,oL 16 6 2,oM 17 6,oI 18 6 16 17,oL 19 2 18,gB 20 .neq 2 15 19],gw 20 (.region true [] [oL 21 36 3,oM 22 0,oM 23 6,oM 24 7,oL 25 6 2,oM 26 6,oI 27 6 25 26,oL 28 2 27,gB 29 .sub 2 24 28,oO 30 (.build 37 [(0,.t 22),(1,.t 23),(2,.t 29)]),oO 31 (.bslice false 36 1 [(0,.t 30)]),oO 32 (.append 0 36 36 (.t 21) (.t 31)),jS 36 3 32]) .skip]),rg [g8 33 .add 2 10 1,oM 10 33]]))],rg [oM 34 1,jS 6 2 34]]⟩
def f192:DFn := ⟨6,[.tmp 4],
 fg [rg [oO 2 (.box 0 (.t 0)),oO 3 (.box 38 (.t 1)),oO 4 (.assign (.c .nilfn))],rg [oO 5 (.mkfn 198 [.t 3,.t 2]),oA 4 5],.ret]⟩
def f193:DFn := ⟨27,[.tmp 3],
 fg [rg [oO 2 (.box 39 (.t 0)),oO 3 (.assign (u9B false))],rg [oF 4 39 2 0,oL 5 2 4,g8 6 .lss 2 5 0,oM 7 6,kV 8 39 2 0 7,kI 9 2 8 7,iM 10 .gtr 2 9 1048576 7,li 11 7 10,oM 12 11,kV 13 39 2 1 12,kI 14 9 13 12,lc 15 9 14 12,kV 16 0 1 1 12,kI 17 9 16 12,lc 18 9 17 12,iE 19 .neq 2 15 18 12,li 20 12 19,oM 21 20,kV 22 39 2 1 21,kI 23 9 22 21,u9G 24 (.mkfn 199 [.t 1]) 21,jx 25 94 [.t 23,.t 24] 21,li 26 21 25,oA 3 26],.ret]⟩
def f194:DFn := ⟨9,[.tmp 4],
 fg [rg [oO 4 (.assign (u9B false))],rg [oM 5 0,oM 6 1,jh 7 201 [.t 5,.t 6],g8 8 .geq 2 7 0,oA 4 8],.ret]⟩
def f195:DFn := ⟨54,[.cell 6 0],
 fg [rg [oO 3 (.box 0 (.t 0)),jV 6 0],rg [oF 13 0 3 0,oL 14 10 13,oF 15 0 3 2,oL 16 14 15,oO 17 (.build 0 [(0,.t 14),(2,.t 16)]),jV 7 0,jS 0 7 17],fg [rg [oF 18 0 3 1,oL 19 9 18,oN 20 9 19,oO 21 (.move (u9I 0))],.block 0 (.loop (fg [rg [gB 22 .lss 2 21 20],gw 22 .skip (.exit 0),.block 1 (fg [rg [oM 23 21,oI 24 9 19 21,oL 25 6 24,oA 8 23,oA 9 25],rg [oM 26 9,oO 27 (.bslice false 9 1 [(0,.t 26)]),oA 10 27],fg [rg [oM 28 1,oM 29 2,oO 30 (.slice 38 (.t 28) (some (.t 29)) none none),oN 31 38 30,oO 32 (.move (u9I 0))],.block 2 (.loop (fg [rg [gB 33 .lss 2 32 31],gw 33 .skip (.exit 2),.block 3 (fg [rg [oI 34 38 30 32,oL 35 39 34,jV 12 39,jS 39 12 35],rg [oM 36 10,oF 37 39 12 1,oL 38 9 37,oM 39 8,oI 40 9 38 39,oL 41 6 40,oO 42 (.bslice false 9 1 [(0,.t 41)]),oO 43 (.append 0 9 9 (.t 36) (.t 42)),oA 10 43]]),rg [g8 44 .add 2 32 1,oM 32 44]]))],.region true [] [oF 45 0 7 1,oL 46 9 45,oM 47 10,jh 48 202 [.t 47],oO 49 (.bslice false 9 1 [(0,.t 48)]),oO 50 (.append 0 9 9 (.t 46) (.t 49)),oF 51 0 7 1,jS 9 51 50]]),rg [g8 52 .add 2 21 1,oM 21 52]]))],rg [oL 53 0 7,jS 0 6 53],.ret]⟩
def f198:DFn := ⟨21,[],
 fg [rg [oL 5 38 1,oN 6 38 5,g8 7 .add 2 6 1,oO 8 (.move (u9I 0))],.block 0 (.loop (fg [rg [gB 9 .lss 2 8 7],gw 9 .skip (.exit 0),.block 1 (fg [rg [oM 10 8,oA 4 10],rg [oM 11 0,oM 12 4,g8 13 .sub 2 12 1,oL 14 0 2,oL 15 38 1,oM 16 4,jh 17 195 [.t 14,.t 15,.t 16],oO 18 (.call 2 (.t 11) [.t 13,.t 17]),jY 19 18],gw 19 .ret .skip]),rg [g8 20 .add 2 8 1,oM 8 20]]))]⟩
def f199:DFn := ⟨14,[.tmp 3],
 fg [rg [oO 3 (.assign (u9B false))],rg [oM 4 0,oN 5 6 4,oF 6 0 1 0,oL 7 10 6,oN 8 10 7,gB 9 .neq 2 5 8,oM 10 9,u9G 11 (.move (.t 0)) 10,jx 12 71 [.t 11,.f 200] 10,li 13 10 12,oA 3 13],.ret]⟩
def f200:DFn := ⟨9,[.tmp 2],
 fg [rg [oO 2 (.assign (u9B false))],rg [oM 3 0,g8 4 .lss 2 3 0,oM 5 4,u9G 6 (.move (.t 0)) 5,iM 7 .gtr 2 6 4096 5,li 8 5 7,oA 2 8],.ret]⟩
def f201:DFn := ⟨19,[.tmp 4],
 fg [rg [i8 4 0],fg [rg [oM 6 0,oN 7 38 6,oO 8 (.move (u9I 0))],.block 0 (.loop (fg [rg [gB 9 .lss 2 8 7],gw 9 .skip (.exit 0),.block 1 (fg [rg [oM 10 8,oA 5 10],rg [oM 11 1,oM 12 0,oM 13 5,oI 14 38 12 13,oL 15 39 14,oO 16 (.call 0 (.t 11) [.t 15])],gw 16 (fg [rg [oM 17 5,oA 4 17],.ret]) .skip]),rg [g8 18 .add 2 8 1,oM 8 18]]))],rg [oO 4 (.assign (.c (.int .i64 (-1))))],.ret]⟩
def f202:DFn := ⟨39,[.tmp 2],
 fg [rg [oO 2 (.assign (.c (.imm .exact [])))],rg [oM 8 0,oO 9 (.iaddr 9 (.t 8) (u9I 0)),oL 10 6 9,oO 11 (.call 2 (.f 96) [.t 10]),oA 3 11],fg [rg [oM 12 0,oO 13 (.slice 9 (.t 12) (some (u9I 1)) none none),oN 14 9 13,oO 15 (.move (u9I 0))],.block 0 (.loop (fg [rg [gB 16 .lss 2 15 14],gw 16 .skip (.exit 0),.block 1 (fg [rg [oI 17 9 13 15,oL 18 6 17,oA 5 18],rg [oM 19 5,oN 20 6 19,oO 21 (.move (u9I 0))],.block 2 (.loop (fg [rg [gB 22 .lss 2 21 20],gw 22 .skip (.exit 2),.block 3 (fg [rg [oM 23 21,oI 24 6 19 21,oL 25 2 24,oA 6 23,oA 7 25],rg [oM 26 3,oM 27 6,oM 28 3,oM 29 6,oI 30 6 28 29,oL 31 2 30,oM 32 7,gB 33 .add 2 31 32,oO 34 (.mini [.t 33,u9I 4096]),oI 35 6 26 27,jS 2 35 34]]),rg [g8 36 .add 2 21 1,oM 21 36]]))]),rg [g8 37 .add 2 15 1,oM 15 37]]))],rg [oM 38 3,oA 2 38],.ret]⟩
def f264:DFn := ⟨19,[.tmp 2,.tmp 3],
 fg [rg [oO 1 (.ibox 55 (.t 0)),oO 2 (.assign (.c (.imm .exact []))),i8 3 0],fg [rg [ly 5 55 1,jh 6 281 [.t 5],oA 4 6],rg [oM 7 4,g8 8 .neq 3 7 0],gw 8 (fg [rg [oM 9 4,oO 2 (.assign (.c (.imm .exact []))),oA 3 9],.ret]) .skip],.region true [] [oO 10 (.call 4 (.f 282) []),oF 11 55 1 0,ly 12 2 11,oO 13 (.nilc (.t 10)),oI 14 57 13 12,oF 15 58 14 0,oL 16 59 15,ly 17 55 1,oO 18 (.call 2 (.t 16) [.c (.imm .exact []),.t 17]),oA 2 18,i8 3 0],.ret]⟩
def f281:DFn := ⟨16,[.tmp 2],
 fg [rg [oO 1 (.ibox 55 (.t 0)),i8 2 0],rg [ly 6 55 1,jh 7 297 [.t 6],oM 5 7,jP 8 5 0,jP 9 5 1,oA 3 8,oA 4 9],.block 0 (fg [rg [oM 11 4,jY 12 11,oA 10 12],gw 10 (fg [rg [i8 2 1],.ret]) (fg [rg [oM 14 3,g8 15 .gtr 2 14 16,oA 13 15],gw 13 (fg [rg [i8 2 2],.ret]) .skip])]),rg [i8 2 0],.ret]⟩
def f282:DFn := ⟨18,[.tmp 0],
 fg [rg [oO 0 (.assign (.c .nilp))],rg [oO 2 (.build 57 []),oO 3 (.box 57 (.t 2)),jV 1 62,jS 62 1 3],rg [oL 4 62 1,oO 5 (.nilc (.t 4)),oO 6 (.iaddr 57 (.t 5) (u9I 1)),oF 7 58 6 0,oE (.store 59 (.t 7) (.f 298))],rg [oL 8 62 1,oO 9 (.nilc (.t 8)),oO 10 (.iaddr 57 (.t 9) (u9I 2)),oF 11 58 10 0,oE (.store 59 (.t 11) (.f 299))],rg [oL 12 62 1,oO 13 (.mkfn 300 [.t 1]),oO 14 (.nilc (.t 12)),oO 15 (.iaddr 57 (.t 14) (u9I 3)),oF 16 58 15 0,jS 59 16 13],rg [oL 17 62 1,oA 0 17],.ret]⟩
def f297:DFn := ⟨74,[.tmp 2,.tmp 3],
 fg [rg [oO 1 (.ibox 55 (.t 0)),i8 2 0,oO 3 (.assign (u9B false))],rg [oF 9 55 1 2,ly 10 53 9,oO 11 (.bin .eql 53 (.t 10) (.c (.str []))),oM 12 11,⟨some 13,.faddr 55 (.t 1) 3,some (12,true)⟩,⟨some 14,.iload 56 (.t 13),some (12,true)⟩,⟨some 15,.len 56 (.t 14),some (12,true)⟩,⟨some 16,.bin .eql 2 (.t 15) (u9I 0),some (12,true)⟩,lj 17 12 16,oF 18 55 1 1,ly 19 2 18,g8 20 .eql 2 19 0,oM 21 20,⟨some 22,.faddr 55 (.t 1) 3,some (21,true)⟩,⟨some 23,.iload 56 (.t 22),some (21,true)⟩,⟨some 24,.len 56 (.t 23),some (21,true)⟩,⟨some 25,.bin .eql 2 (.t 24) (u9I 0),some (21,true)⟩,lj 26 21 25,oF 27 55 1 1,ly 28 2 27,g8 29 .eql 2 28 0,oM 30 29,⟨some 31,.faddr 55 (.t 1) 2,some (30,true)⟩,⟨some 32,.iload 53 (.t 31),some (30,true)⟩,⟨some 33,.bin .eql 53 (.t 32) (.c (.str [])),some (30,true)⟩,lj 34 30 33,oO 35 (.build 64 [(1,.t 17),(2,.t 26),(3,.t 34)]),jV 4 64,jS 64 4 35],fg [rg [oF 36 55 1 0,ly 37 2 36,g8 38 .lss 2 37 1,oM 39 38,kV 40 55 1 0 39,u9G 41 (.iload 2 (.t 40)) 39,iM 42 .gtr 2 41 3 39,li 43 39 42,oM 44 43,kV 45 55 1 0 44,u9G 46 (.iload 2 (.t 45)) 44,la 47 64 4 46 44,kI 48 7 47 44,kj 49 48 44,li 50 44 49],gw 50 (fg [rg [i8 2 0,oO 3 (.assign (u9B false))],.ret]) .skip],fg [rg [oF 51 55 1 0,ly 52 2 51,g8 53 .lss 2 52 3],gw 53 (fg [rg [i8 2 0,oO 3 (.assign (u9B true))],.ret]) .skip],fg [rg [oF 54 55 1 3,ly 55 56 54,oN 56 56 55,oO 57 (.move (u9I 0))],.block 0 (.loop (fg [rg [gB 58 .lss 2 57 56],gw 58 .skip (.exit 0),.block 1 (fg [rg [oI 59 56 55 57,oL 60 55 59,jV 6 55,jS 55 6 60],rg [oL 62 55 6,jh 63 297 [.t 62],oM 61 63,jP 64 61 0,jP 65 61 1,oA 7 64,oA 8 65],fg [rg [oM 66 8,jY 67 66],gw 67 (fg [rg [i8 2 0,oO 3 (.assign (u9B false))],.ret]) .skip],rg [oM 68 2,oM 69 7,oO 70 (.maxi [.t 68,.t 69]),oA 2 70]]),rg [g8 71 .add 2 57 1,oM 57 71]]))],rg [oM 72 2,g8 73 .add 2 72 1,oA 2 73,oO 3 (.assign (u9B true))],.ret]⟩
def f298:DFn := ⟨12,[.tmp 4],
 fg [rg [oO 3 (.ibox 55 (.t 1)),oO 4 (.assign (.c (.imm .exact [])))],.region true [] [oM 5 0,oO 6 (.bslice false 30 1 [(0,.c (.int .u8 1))]),oO 7 (.append 0 30 30 (.t 5) (.t 6)),oF 8 55 3 1,ly 9 2 8,jh 10 311 [.t 9],oO 11 (.call 2 (.f 312) [.t 7,.t 10]),oA 4 11],.ret]⟩
def f299:DFn := ⟨16,[.tmp 4],
 fg [rg [oO 3 (.ibox 55 (.t 1)),oO 4 (.assign (.c (.imm .exact [])))],.region true [] [oM 5 0,oO 6 (.bslice false 30 1 [(0,.c (.int .u8 2))]),oO 7 (.append 0 30 30 (.t 5) (.t 6)),oF 8 55 3 2,ly 9 53 8,oN 10 53 9,oO 11 (.conv 2 63 (.t 10)),oO 12 (.call 2 (.f 312) [.t 7,.t 11]),oF 13 55 3 2,ly 14 53 13,oO 15 (.append 0 30 53 (.t 12) (.t 14)),oA 4 15],.ret]⟩
def f300:DFn := ⟨35,[.tmp 5],
 fg [rg [oO 4 (.ibox 55 (.t 1)),oO 5 (.assign (.c (.imm .exact [])))],.region true [] [oM 8 0,oO 9 (.bslice false 30 1 [(0,.c (.int .u8 3))]),oO 10 (.append 0 30 30 (.t 8) (.t 9)),oF 11 55 4 3,ly 12 56 11,oN 13 56 12,oO 14 (.conv 2 63 (.t 13)),oO 15 (.call 2 (.f 312) [.t 10,.t 14]),oA 0 15],fg [rg [oF 16 55 4 3,ly 17 56 16,oN 18 56 17,oO 19 (.move (u9I 0))],.block 0 (.loop (fg [rg [gB 20 .lss 2 19 18],gw 20 .skip (.exit 0),.block 1 (fg [rg [oI 21 56 17 19,oL 22 55 21,jV 7 55,jS 55 7 22],.region true [] [oL 23 62 2,oF 24 55 7 0,oL 25 2 24,oO 26 (.nilc (.t 23)),oI 27 57 26 25,oF 28 58 27 0,oL 29 59 28,oM 30 0,oL 31 55 7,oO 32 (.call 2 (.t 29) [.t 30,.t 31]),oA 0 32]]),rg [g8 33 .add 2 19 1,oM 19 33]]))],rg [oM 34 0,oA 5 34],.ret]⟩
def f311:DFn := ⟨10,[.tmp 2],
 fg [rg [oO 2 (.assign (.c (.int .u64 0)))],rg [oM 3 0,oO 4 (.conv 2 63 (.t 3)),oO 5 (.bin .shl 63 (.t 4) (.c (.int .u64 1))),oM 6 0,oO 7 (.bin .shr 2 (.t 6) (.c (.int .u64 63))),oO 8 (.conv 2 63 (.t 7)),gB 9 .xor 63 5 8,oA 2 9],.ret]⟩
def f312:DFn := ⟨20,[.tmp 4],
 fg [rg [oO 4 (.assign (.c (.imm .exact [])))],.block 0 (.loop (fg [fg [rg [oM 5 1,oO 6 (.bin .geq 63 (.t 5) (.c (.int .u64 128)))],gw 6 .skip (.exit 0)],.block 1 (rg [oM 9 0,oM 10 1,oO 11 (.conv 63 13 (.t 10)),oO 12 (.bin .or 13 (.t 11) (.c (.int .u8 128))),oO 13 (.bslice false 30 1 [(0,.t 12)]),oO 14 (.append 0 30 30 (.t 9) (.t 13)),oA 0 14]),rg [oM 7 1,oO 8 (.bin .shr 63 (.t 7) (.c (.int .u64 7))),oA 1 8]])),rg [oM 15 0,oM 16 1,oO 17 (.conv 63 13 (.t 16)),oO 18 (.bslice false 30 1 [(0,.t 17)]),oO 19 (.append 0 30 30 (.t 15) (.t 18)),oA 4 19],.ret]⟩
def f316:DFn := ⟨56,[.tmp 8,.tmp 9],
 fg [rg [oO 8 (.assign (.c (.imm .exact []))),i8 9 0],rg [oM 15 0,jh 16 354 [.t 15],oM 14 16,jP 17 14 0,jP 18 14 1,jV 10 73,jS 73 10 17,oA 9 18],fg [rg [oM 19 9,g8 20 .neq 3 19 0],gw 20 (fg [rg [oM 21 9,oO 8 (.assign (.c (.imm .exact []))),oA 9 21],.ret]) .skip],fg [rg [oM 22 0,oN 23 70 22,g8 24 .eql 2 23 65536],gw 24 (fg [rg [oO 8 (.assign (.c (.imm .exact []))),i8 9 2],.ret]) .skip],fg [rg [oM 25 0,oN 26 70 25,oA 11 26],rg [oM 27 11,g8 28 .gtr 2 27 0,oM 29 28,⟨some 30,.move (.t 0),some (29,true)⟩,⟨some 31,.move (.t 11),some (29,true)⟩,⟨some 32,.bin .sub 2 (.t 31) (u9I 1),some (29,true)⟩,⟨some 33,.iaddr 70 (.t 30) (.t 32),some (29,true)⟩,⟨some 34,.faddr 71 (.t 33) 1,some (29,true)⟩,⟨some 35,.load 2 (.t 34),some (29,true)⟩,⟨some 36,.move (.t 1),some (29,true)⟩,⟨some 37,.bin .gtr 2 (.t 35) (.t 36),some (29,true)⟩,lj 38 29 37],gw 38 (fg [rg [oO 8 (.assign (.c (.imm .exact []))),i8 9 410],.ret]) .skip],rg [oM 39 0,oN 40 70 39,oM 41 1,oM 42 2,oM 43 3,oL 44 73 10,oO 45 (.build 71 [(0,.t 40),(1,.t 41),(2,.t 42),(3,.t 43),(4,.t 44)]),jV 12 71,jS 71 12 45],fg [rg [oL 46 71 12,jh 47 355 [.t 46],oA 13 47],rg [oM 48 13,g8 49 .neq 3 48 0],gw 49 (fg [rg [oM 50 13,oO 8 (.assign (.c (.imm .exact []))),oA 9 50],.ret]) .skip],.region true [] [oM 51 0,oO 52 (.mkcall (.f 356) [.t 51]),oL 53 71 12,oO 54 (.bslice false 70 1 [(0,.t 53)]),oO 55 (.append 2 70 70 (.t 52) (.t 54)),oA 8 55,i8 9 0],.ret]⟩
def f318:DFn := ⟨34,[.cell 6 2,.tmp 7],
 fg [rg [oO 4 (.ibox 65 (.t 1)),oO 5 (.ibox 2 (.t 2)),jV 6 2,i8 7 0],fg [rg [oM 11 0,jh 12 324 [.t 11],oA 8 12],rg [oM 13 8,g8 14 .neq 3 13 0],gw 14 (fg [rg [oM 15 8,oE (.store 2 (.t 6) (u9I 0)),oA 7 15],.ret]) .skip],fg [rg [oM 16 0,jh 17 359 [.t 16]],.block 0 (.rfunc (.t 17) [18,19] (fg [rg [oA 9 18],rg [jV 10 72,jS 72 10 19]]) (.block 1 (fg [rg [oM 20 9,ly 21 2 5,gB 22 .leq 2 20 21,oM 23 22,⟨some 24,.faddr 72 (.t 10) 0,some (23,true)⟩,⟨some 25,.load 65 (.t 24),some (23,true)⟩,⟨some 26,.iload 65 (.t 4),some (23,true)⟩,⟨some 27,.bin .eql 65 (.t 25) (.t 26),some (23,true)⟩,lj 28 23 27],gw 28 (rg [oL 29 2 6,oF 30 72 10 1,oL 31 2 30,gB 32 .add 2 29 31,jS 2 6 32]) .skip])))],rg [oL 33 2 6,jS 2 6 33,i8 7 0],.ret]⟩
def f324:DFn := ⟨9,[.tmp 2],
 fg [rg [i8 2 0],rg [oM 4 0,jh 5 354 [.t 4],oM 3 5,jP 6 3 0,jP 7 3 1,oA 2 7],rg [oM 8 2,oA 2 8],.ret]⟩
def f325:DFn := ⟨18,[.cell 2 67],
 fg [rg [jV 2 67],fg [rg [oM 5 0,jh 6 359 [.t 5]],.block 0 (.rfunc (.t 6) [7,8] (rg [jV 4 72,jS 72 4 8]) (.block 1 (rg [oL 9 67 2,oF 10 72 4 0,oL 11 65 10,oO 12 (.bslice false 67 1 [(0,.t 11)]),oO 13 (.append 2 67 67 (.t 9) (.t 12)),jS 67 2 13])))],rg [oL 14 67 2,oO 15 (.call 2 (.f 361) [.t 14,.f 362])],rg [oL 16 67 2,oO 17 (.call 2 (.f 363) [.t 16]),jS 67 2 17],.ret]⟩
def f331:DFn := ⟨14,[.cell 4 73],
 fg [rg [jV 4 73],rg [oM 6 0,oO 7 (.s2b 53 30 (.t 6)),jh 8 364 [.t 7],jV 5 73,jS 73 5 8],rg [oO 9 (.slice 73 (.t 5) none none none),oM 10 1,oO 11 (.bslice false 74 2 [(0,.t 9),(1,.t 10)]),oO 12 (.call 1 (.f 365) [.t 11]),jh 13 364 [.t 12],jS 73 4 13],.ret]⟩
def f334:DFn := ⟨60,[.tmp 2,.tmp 3],
 fg [rg [oO 1 (.ibox 71 (.t 0)),oO 2 (.assign (.c (.imm .exact []))),i8 3 0],fg [rg [ly 9 71 1,jh 10 355 [.t 9],oA 4 10],rg [oM 11 4,g8 12 .neq 3 11 0],gw 12 (fg [rg [oM 13 4,oO 2 (.assign (.c (.imm .exact []))),oA 3 13],.ret]) .skip],rg [oF 14 71 1 0,ly 15 2 14,oF 16 71 1 1,ly 17 2 16,oF 18 71 1 2,ly 19 2 18,oO 20 (.bslice false 6 3 [(0,.t 15),(1,.t 17),(2,.t 19)]),oO 21 (.mkcall (.f 366) [.t 20]),oO 22 (.mkcall (.f 366) [.c (.imm .exact [])]),jV 5 55,jV 6 55,jS 55 5 21,jS 55 6 22],fg [rg [oF 23 71 1 3,ly 24 66 23,oN 25 66 24,oO 26 (.move (u9I 0))],.block 0 (.loop (fg [rg [gB 27 .lss 2 26 25],gw 27 .skip (.exit 0),.block 1 (fg [rg [oI 28 66 24 26,oL 29 72 28,jV 8 72,jS 72 8 29],.region true [] [oF 30 55 6 3,oL 31 56 30,oF 32 72 8 0,oF 33 65 32 0,oL 34 2 33,oF 35 72 8 0,oF 36 65 35 1,oL 37 2 36,oF 38 72 8 1,oL 39 2 38,oO 40 (.bslice false 6 3 [(0,.t 34),(1,.t 37),(2,.t 39)]),jh 41 366 [.t 40],oO 42 (.bslice false 56 1 [(0,.t 41)]),oO 43 (.append 0 56 56 (.t 31) (.t 42)),oF 44 55 6 3,jS 56 44 43]]),rg [g8 45 .add 2 26 1,oM 26 45]]))],.region true [] [oF 46 55 5 3,oL 47 56 46,oL 48 55 6,oF 49 71 1 4,oO 50 (.slice 73 (.t 49) none none none),oO 51 (.b2s 30 53 (.t 50)),oO 52 (.build 55 [(0,u9I 2),(2,.t 51)]),oO 53 (.bslice false 56 2 [(0,.t 48),(1,.t 52)]),oO 54 (.append 0 56 56 (.t 47) (.t 53)),oF 55 55 5 3,jS 56 55 54],rg [oL 56 55 5,jh 57 264 [.t 56],jP 58 57 0,jP 59 57 1,oA 2 58,oA 3 59],.ret]⟩
def f335:DFn := ⟨10,[.cell 4 73],
 fg [rg [oO 2 (.ibox 73 (.t 0)),oO 3 (.ibox 73 (.t 1)),jV 4 73],.region true [] [oO 5 (.slice 73 (.t 2) none none none),oO 6 (.slice 73 (.t 3) none none none),oO 7 (.bslice false 74 2 [(0,.t 5),(1,.t 6)]),jh 8 365 [.t 7],jh 9 331 [.c (.str [99,104,97,105,110]),.t 8],jS 73 4 9],.ret]⟩
def f340:DFn := ⟨107,[.tmp 8,.tmp 9],
 fg [rg [oO 4 (.ibox 0 (.t 0)),oO 8 (.assign (.c (.imm .exact []))),i8 9 0],fg [rg [ly 16 0 4,jh 17 15 [.t 16],oA 9 17],rg [oM 18 9,g8 19 .neq 3 18 0],gw 19 (fg [rg [oM 20 9,oO 8 (.assign (.c (.imm .exact []))),oA 9 20],.ret]) .skip],rg [oO 10 (.assign (.f 367))],fg [rg [oM 21 1,oN 22 6 21,oF 23 0 4 2,ly 24 14 23,oN 25 14 24,gB 26 .neq 2 22 25,oM 27 26,u9G 28 (.move (.t 1)) 27,u9G 29 (.move (.t 10)) 27,jx 30 71 [.t 28,.t 29] 27,li 31 27 30,oM 32 31,u9G 33 (.move (.t 2)) 32,jx 34 368 [.t 33,u9I 0,u9I 3] 32,kj 35 34 32,li 36 32 35,oM 37 36,u9G 38 (.move (.t 3)) 37,lc 39 36 38 37,iM 40 .gtr 2 39 1024 37,li 41 37 40],gw 41 (fg [rg [oO 8 (.assign (.c (.imm .exact []))),i8 9 430],.ret]) .skip],rg [oO 42 (.mkmap 75),jV 11 75,jS 75 11 42],fg [rg [oM 43 3,oN 44 36 43,oO 45 (.move (u9I 0))],.block 0 (.loop (fg [rg [gB 46 .lss 2 45 44],gw 46 .skip (.exit 0),.block 1 (fg [rg [oI 47 36 43 45,oL 48 37 47,jV 13 37,jS 37 13 48],fg [rg [oF 49 37 13 1,oL 50 2 49,oF 51 0 4 2,ly 52 14 51,oN 53 14 52,g8 54 .sub 2 53 1,jh 55 368 [.t 50,u9I 0,.t 54],jY 56 55,oM 57 56,kV 58 0 4 2 57,u9G 59 (.iload 14 (.t 58)) 57,kV 60 37 13 1 57,kI 61 2 60 57,la 62 14 59 61 57,kV 63 15 62 0 57,kI 64 2 63 57,jx 65 368 [.t 64,u9I 0,u9I 4095] 57,kj 66 65 57,li 67 57 66,oM 68 67,kV 69 37 13 0 68,kI 70 2 69 68,jx 71 368 [.t 70,.c (.int .i64 (-1)),u9I 7] 68,kj 72 71 68,li 73 68 72,oM 74 73,kV 75 37 13 2 74,kI 76 2 75 74,jx 77 368 [.t 76,.c (.int .i64 (-1048576)),u9I 1048576] 74,kj 78 77 74,li 79 74 78],gw 79 (fg [rg [oO 8 (.assign (.c (.imm .exact []))),i8 9 430],.ret]) .skip],.region true [] [oL 80 37 13,oM 81 1,oF 82 37 13 1,oL 83 2 82,oI 84 6 81 83,oL 85 2 84,oF 86 0 4 2,ly 87 14 86,oF 88 37 13 1,oL 89 2 88,oI 90 14 87 89,oF 91 15 90 0,oL 92 2 91,oM 93 2,jh 94 369 [.t 80,.t 85,.t 92,.t 93]],.block 2 (.rfunc (.t 94) [95,96] (fg [rg [jV 14 65,jS 65 14 95],rg [oA 15 96]]) (.block 3 (rg [oL 97 75 11,oL 98 65 14,oO 99 (.lookup 75 (.t 97) (.t 98) false),oM 100 15,gB 101 .add 2 99 100,oO 103 (.move (u9B true)),oO 102 (.pick (.t 103) (u9B true) (u9B true)),oO 103 (.pick (.t 102) (.c .undef) (.c .undef)),oO 102 (.move (.c .undef)),oE (.mapset 75 (.t 97) (.t 98) (.t 101))])))]),rg [g8 104 .add 2 45 1,oM 45 104]]))],rg [oL 105 75 11,oO 106 (.call 2 (.f 370) [.t 105]),oA 8 106,i8 9 0],.ret]⟩
def f345:DFn := ⟨84,[.tmp 6,.tmp 7],
 fg [rg [oO 6 (.assign (.c (.imm .exact []))),i8 7 0],fg [rg [oM 16 0,jh 17 324 [.t 16],oA 7 17],rg [oM 18 7,g8 19 .neq 3 18 0],gw 19 (fg [rg [oM 20 7,oO 6 (.assign (.c (.imm .exact []))),oA 7 20],.ret]) .skip],fg [rg [oM 21 2,jh 22 375 [.t 21],jY 23 22],gw 23 (fg [rg [oO 6 (.assign (.c (.imm .exact []))),i8 7 430],.ret]) .skip],rg [oO 24 (.mkmap 75),oA 8 24],fg [rg [oM 25 2,oN 26 66 25,oO 27 (.move (u9I 0))],.block 0 (.loop (fg [rg [gB 28 .lss 2 27 26],gw 28 .skip (.exit 0),.block 1 (fg [rg [oI 29 66 25 27,oL 30 72 29,jV 10 72,jS 72 10 30],rg [oM 31 8,oF 32 72 10 0,oL 33 65 32,oO 34 (.lookup 75 (.t 31) (.t 33) false),oF 35 72 10 1,oL 36 2 35,gB 37 .add 2 34 36,oO 39 (.move (u9B true)),oO 38 (.pick (.t 39) (u9B true) (u9B true)),oO 39 (.pick (.t 38) (.c .undef) (.c .undef)),oO 38 (.move (.c .undef)),oE (.mapset 75 (.t 31) (.t 33) (.t 37))]]),rg [g8 40 .add 2 27 1,oM 27 40]]))],fg [rg [oM 41 0,oN 42 70 41,oO 43 (.move (u9I 0))],.block 2 (.loop (fg [rg [gB 44 .lss 2 43 42],gw 44 .skip (.exit 2),.block 3 (fg [rg [oI 45 70 41 43,oL 46 71 45,jV 12 71,jS 71 12 46],rg [oF 47 71 12 3,oL 48 66 47,oN 49 66 48,oO 50 (.move (u9I 0))],.block 4 (.loop (fg [rg [gB 51 .lss 2 50 49],gw 51 .skip (.exit 4),.block 5 (fg [rg [oI 52 66 48 50,oL 53 72 52,jV 14 72,jS 72 14 53],rg [oF 54 72 14 0,oF 55 65 54 0,oL 56 2 55,g8 57 .leq 2 56 4],gw 57 (rg [oM 58 8,oF 59 72 14 0,oL 60 65 59,oO 61 (.lookup 75 (.t 58) (.t 60) false),oF 62 72 14 1,oL 63 2 62,gB 64 .sub 2 61 63,oO 66 (.move (u9B true)),oO 65 (.pick (.t 66) (u9B true) (u9B true)),oO 66 (.pick (.t 65) (.c .undef) (.c .undef)),oO 65 (.move (.c .undef)),oE (.mapset 75 (.t 58) (.t 60) (.t 64))]) .skip]),rg [g8 67 .add 2 50 1,oM 50 67]]))]),rg [g8 68 .add 2 43 1,oM 43 68]]))],rg [oM 69 8,oO 70 (.call 2 (.f 370) [.t 69]),oA 15 70],fg [rg [oM 71 15,oN 72 66 71,g8 73 .eql 2 72 0],gw 73 (fg [rg [oM 74 0,oA 6 74,i8 7 0],.ret]) .skip],rg [oM 75 0,oM 76 1,oM 77 0,oN 78 70 77,g8 79 .sub 2 78 1,oM 80 15,jh 81 316 [.t 75,.t 76,.t 79,.t 80],jP 82 81 0,jP 83 81 1,oA 6 82,oA 7 83],.ret]⟩
def f350:DFn := ⟨50,[.tmp 2,.tmp 3],
 fg [rg [oO 2 (.assign (u9B false)),i8 3 0],fg [rg [oM 10 0,jh 11 324 [.t 10],oA 3 11],rg [oM 12 3,g8 13 .neq 3 12 0],gw 13 (fg [rg [oM 14 3,oO 2 (.assign (u9B false)),oA 3 14],.ret]) .skip],fg [rg [oM 15 0,oN 16 70 15,oO 17 (.move (u9I 0))],.block 0 (.loop (fg [rg [gB 18 .lss 2 17 16],gw 18 .skip (.exit 0),.block 1 (fg [rg [oM 19 17,oA 4 19],rg [i8 5 0],fg [rg [oM 20 0,oN 21 70 20,oO 22 (.move (u9I 0))],.block 2 (.loop (fg [rg [gB 23 .lss 2 22 21],gw 23 .skip (.exit 2),.block 3 (fg [rg [oI 24 70 20 22,oL 25 71 24,jV 7 71,jS 71 7 25],.region true [] [oF 26 71 7 1,oL 27 2 26,oM 28 0,oM 29 4,oI 30 70 28 29,oF 31 71 30 1,oL 32 2 31,gB 33 .leq 2 27 32],gw 33 (fg [rg [oF 34 71 7 3,oL 35 66 34,oN 36 66 35,oO 37 (.move (u9I 0))],.block 4 (.loop (fg [rg [gB 38 .lss 2 37 36],gw 38 .skip (.exit 4),.block 5 (fg [rg [oI 39 66 35 37,oL 40 72 39,jV 9 72,jS 72 9 40],rg [oM 41 5,oF 42 72 9 1,oL 43 2 42,gB 44 .add 2 41 43,oA 5 44]]),rg [g8 45 .add 2 37 1,oM 37 45]]))]) .skip]),rg [g8 46 .add 2 22 1,oM 22 46]]))],rg [oM 47 5,g8 48 .neq 2 47 0],gw 48 (fg [rg [oO 2 (.assign (u9B false)),i8 3 0],.ret]) .skip]),rg [g8 49 .add 2 17 1,oM 17 49]]))],rg [oO 2 (.assign (u9B true)),i8 3 0],.ret]⟩
def f352:DFn := ⟨49,[.tmp 6,.tmp 7],
 fg [rg [oO 6 (.assign (.c (.imm .exact []))),i8 7 0],fg [rg [oM 12 0,jh 13 324 [.t 12],oA 7 13],rg [oM 14 7,g8 15 .neq 3 14 0],gw 15 (fg [rg [oM 16 7,oO 6 (.assign (.c (.imm .exact []))),oA 7 16],.ret]) .skip],fg [rg [oM 17 1,jh 18 368 [.t 17,u9I 1,u9I 5],jY 19 18],gw 19 (fg [rg [oO 6 (.assign (.c (.imm .exact []))),i8 7 430],.ret]) .skip],fg [rg [oM 20 0,jh 21 325 [.t 20],oN 22 67 21,oO 23 (.move (u9I 0))],.block 0 (.loop (fg [rg [gB 24 .lss 2 23 22],gw 24 .skip (.exit 0),.block 1 (fg [rg [oI 25 67 21 23,oL 26 65 25,jV 9 65,jS 65 9 26],rg [oF 27 65 9 0,oL 28 2 27,oM 29 1,gB 30 .eql 2 28 29],gw 30 (fg [rg [oM 32 0,oL 33 65 9,oM 34 2,jh 35 318 [.t 32,.t 33,.t 34],oM 31 35,jP 36 31 0,jP 37 31 1,oA 10 36,oA 11 37],fg [rg [oM 38 11,g8 39 .neq 3 38 0],gw 39 (fg [rg [oM 40 11,oO 6 (.assign (.c (.imm .exact []))),oA 7 40],.ret]) .skip],rg [oM 41 6,oL 42 65 9,oM 43 10,oO 44 (.build 72 [(0,.t 42),(1,.t 43)]),oO 45 (.bslice false 66 1 [(0,.t 44)]),oO 46 (.append 0 66 66 (.t 41) (.t 45)),oA 6 46]]) .skip]),rg [g8 47 .add 2 23 1,oM 23 47]]))],rg [oM 48 6,oA 6 48,i8 7 0],.ret]⟩
def f354:DFn := ⟨74,[.cell 2 73,.tmp 3],
 fg [rg [jV 2 73,i8 3 0],fg [rg [oM 12 0,oN 13 70 12,g8 14 .gtr 2 13 65536],gw 14 (fg [rg [oL 15 73 2,jS 73 2 15,i8 3 2],.ret]) .skip],fg [rg [oM 16 0,oN 17 70 16,oO 18 (.move (u9I 0))],.block 0 (.loop (fg [rg [gB 19 .lss 2 18 17],gw 19 .skip (.exit 0),.block 1 (fg [rg [oI 20 70 16 18,oL 21 71 20,jV 5 71,jS 71 5 21],rg [oL 22 71 5,jh 23 355 [.t 22],oA 6 23],rg [oM 24 6,g8 25 .neq 3 24 0],gw 25 (fg [rg [oL 26 73 2,oM 27 6,jS 73 2 26,oA 3 27],.ret]) .skip]),rg [g8 28 .add 2 18 1,oM 18 28]]))],rg [jh 29 331 [.c (.str [112,111,115,116,105,110,103,115]),.c (.imm .exact [])],jV 7 73,jS 73 7 29],fg [rg [oM 30 0,oN 31 70 30,oO 32 (.move (u9I 0))],.block 2 (.loop (fg [rg [gB 33 .lss 2 32 31],gw 33 .skip (.exit 2),.block 3 (fg [rg [oM 34 32,oI 35 70 30 32,oL 36 71 35,jV 9 71,oA 8 34,jS 71 9 36],fg [.region true [] [oF 37 71 9 0,oL 38 2 37,oM 39 8,gB 40 .neq 2 38 39,oM 41 40,u9G 42 (.move (.t 8)) 41,iM 43 .gtr 2 42 0 41,u9G 44 (.move (.t 43)) 41,⟨some 45,.move (.t 0),some (44,true)⟩,⟨some 46,.move (.t 8),some (44,true)⟩,⟨some 47,.bin .sub 2 (.t 46) (u9I 1),some (44,true)⟩,⟨some 48,.iaddr 70 (.t 45) (.t 47),some (44,true)⟩,⟨some 49,.faddr 71 (.t 48) 1,some (44,true)⟩,⟨some 50,.load 2 (.t 49),some (44,true)⟩,⟨some 51,.faddr 71 (.t 9) 1,some (44,true)⟩,⟨some 52,.load 2 (.t 51),some (44,true)⟩,⟨some 53,.bin .gtr 2 (.t 50) (.t 52),some (44,true)⟩,u9G 54 (.pick (.t 44) (.t 53) (u9B false)) 41,li 55 41 54,oM 56 55,kV 57 71 9 4 56,kI 58 73 57 56,kI 59 73 7 56,iE 60 .neq 73 58 59 56,li 61 56 60],gw 61 (fg [rg [oL 62 73 2,jS 73 2 62,i8 3 410],.ret]) .skip],rg [oL 64 71 9,jh 65 334 [.t 64],oM 63 65,jP 66 63 0,jP 67 63 1,oA 10 66,oA 11 67],.region true [] [oL 68 73 7,oM 69 10,jh 70 331 [.c (.str [112,111,115,116,105,110,103]),.t 69],jh 71 335 [.t 68,.t 70],jS 73 7 71]]),rg [g8 72 .add 2 32 1,oM 32 72]]))],rg [oL 73 73 7,jS 73 2 73,i8 3 0],.ret]⟩
def f355:DFn := ⟨115,[.tmp 2],
 fg [rg [oO 1 (.ibox 71 (.t 0)),i8 2 0],fg [rg [oF 6 71 1 0,ly 7 2 6,g8 8 .lss 2 7 0,oM 9 8,kV 10 71 1 0 9,u9G 11 (.iload 2 (.t 10)) 9,iM 12 .geq 2 11 65536 9,li 13 9 12,oM 14 13,kV 15 71 1 1 14,u9G 16 (.iload 2 (.t 15)) 14,iM 17 .lss 2 16 0 14,li 18 14 17,oM 19 18,kV 20 71 1 1 19,u9G 21 (.iload 2 (.t 20)) 19,iM 22 .geq 2 21 1440 19,li 23 19 22,oM 24 23,kV 25 71 1 2 24,u9G 26 (.iload 2 (.t 25)) 24,u9G 27 (.bin .lss 2 (.t 26) (.c (.int .i64 (-1)))) 24,li 28 24 27,oM 29 28,kV 30 71 1 2 29,u9G 31 (.iload 2 (.t 30)) 29,kV 32 71 1 0 29,u9G 33 (.iload 2 (.t 32)) 29,iE 34 .geq 2 31 33 29,li 35 29 34,oM 36 35,kV 37 71 1 3 36,u9G 38 (.iload 66 (.t 37)) 36,lc 39 66 38 36,iM 40 .lss 2 39 2 36,li 41 36 40,oM 42 41,kV 43 71 1 3 42,u9G 44 (.iload 66 (.t 43)) 42,lc 45 66 44 42,iM 46 .gtr 2 45 4096 42,li 47 42 46],gw 47 (fg [rg [i8 2 410],.ret]) .skip],rg [i8 3 0],fg [rg [oF 48 71 1 3,ly 49 66 48,oN 50 66 49,oO 51 (.move (u9I 0))],.block 0 (.loop (fg [rg [gB 52 .lss 2 51 50],gw 52 .skip (.exit 0),.block 1 (fg [rg [oM 53 51,oI 54 66 49 51,oL 55 72 54,jV 5 72,oA 4 53,jS 72 5 55],fg [rg [oF 56 72 5 0,oF 57 65 56 0,oL 58 2 57,g8 59 .lss 2 58 1,oM 60 59,kV 61 72 5 0 60,kV 62 65 61 0 60,kI 63 2 62 60,iM 64 .gtr 2 63 5 60,li 65 60 64,oM 66 65,kV 67 72 5 0 66,kV 68 65 67 1 66,kI 69 2 68 66,u9G 70 (.bin .lss 2 (.t 69) (.c (.int .i64 (-1)))) 66,li 71 66 70,oM 72 71,kV 73 72 5 0 72,kV 74 65 73 1 72,kI 75 2 74 72,iM 76 .gtr 2 75 4095 72,li 77 72 76,oM 78 77,kV 79 72 5 1 78,kI 80 2 79 78,iM 81 .eql 2 80 0 78,li 82 78 81,oM 83 82,kV 84 72 5 1 83,kI 85 2 84 83,u9G 86 (.bin .lss 2 (.t 85) (.c (.int .i64 (-1099511627776)))) 83,li 87 83 86,oM 88 87,kV 89 72 5 1 88,kI 90 2 89 88,iM 91 .gtr 2 90 1099511627776 88,li 92 88 91],gw 92 (fg [rg [i8 2 410],.ret]) .skip],fg [.region true [] [oM 93 4,g8 94 .gtr 2 93 0,oM 95 94,⟨some 96,.faddr 71 (.t 1) 3,some (95,true)⟩,⟨some 97,.iload 66 (.t 96),some (95,true)⟩,⟨some 98,.move (.t 4),some (95,true)⟩,⟨some 99,.bin .sub 2 (.t 98) (u9I 1),some (95,true)⟩,⟨some 100,.iaddr 66 (.t 97) (.t 99),some (95,true)⟩,⟨some 101,.faddr 72 (.t 100) 0,some (95,true)⟩,⟨some 102,.load 65 (.t 101),some (95,true)⟩,⟨some 103,.faddr 72 (.t 5) 0,some (95,true)⟩,⟨some 104,.load 65 (.t 103),some (95,true)⟩,⟨some 105,.call 0 (.f 362) [.t 102,.t 104],some (95,true)⟩,⟨some 106,.bin .geq 2 (.t 105) (u9I 0),some (95,true)⟩,lj 107 95 106],gw 107 (fg [rg [i8 2 410],.ret]) .skip],rg [oM 108 3,oF 109 72 5 1,oL 110 2 109,gB 111 .add 2 108 110,oA 3 111]]),rg [g8 112 .add 2 51 1,oM 51 112]]))],fg [rg [oM 113 3,g8 114 .neq 2 113 0],gw 114 (fg [rg [i8 2 411],.ret]) .skip],rg [i8 2 0],.ret]⟩
def f356:DFn := ⟨8,[.tmp 2],
 fg [rg [oO 2 (.assign (.c (.imm .exact [])))],rg [oO 5 (.bslice false 70 0 []),oM 6 0,oO 7 (.append 1 70 70 (.t 5) (.t 6)),oA 2 7],.ret]⟩
def f359:DFn := ⟨4,[.tmp 2],
 fg [rg [oO 1 (.ibox 70 (.t 0)),oO 2 (.assign (.c .nilfn))],rg [oO 3 (.mkfn 380 [.t 1]),oA 2 3],.ret]⟩
def f361:DFn := ⟨2,[],
 .seq (rg [⟨some 2,.mark false (u9I 0),none⟩])
 (.ifp (.t 2) (.cond (.c .undef) .skip .skip) (.seq (rg [ oE (.prim 0 [(.t 0),(.t 1)])]) .ret))⟩
def f362:DFn := ⟨17,[.tmp 4],
 fg [rg [oO 2 (.ibox 65 (.t 0)),oO 3 (.ibox 65 (.t 1)),i8 4 0],.region true [] [oF 5 65 2 0,ly 6 2 5,oF 7 65 3 0,ly 8 2 7,jh 9 74 [.t 6,.t 8],oF 10 65 2 1,ly 11 2 10,oF 12 65 3 1,ly 13 2 12,jh 14 74 [.t 11,.t 13],oO 15 (.bslice false 6 2 [(0,.t 9),(1,.t 14)]),jh 16 105 [.t 15],oA 4 16],.ret]⟩
def f363:DFn := ⟨61,[.tmp 2],
 fg [rg [oO 2 (.assign (.c (.imm .exact [])))],fg [rg [oM 6 0,oN 7 67 6,g8 8 .lss 2 7 2],gw 8 (fg [rg [oM 9 0,oA 2 9],.ret]) .skip],fg [rg [i8 3 1],.block 0 (.loop (fg [fg [rg [oM 10 3,oM 11 0,oN 12 67 11,gB 13 .lss 2 10 12],gw 13 .skip (.exit 0)],.block 1 (fg [.region true [] [oM 16 0,oM 17 3,oI 18 67 16 17,oL 19 65 18,oM 20 0,oM 21 3,g8 22 .sub 2 21 1,oI 23 67 20 22,oL 24 65 23,gB 25 .eql 65 19 24],gw 25 (fg [rg [oM 26 0,oM 27 3,oO 28 (.slice 67 (.t 26) (some (.t 27)) none none),oA 4 28],fg [rg [i8 5 1],.block 2 (.loop (fg [fg [rg [oM 29 5,oM 30 4,oN 31 67 30,gB 32 .lss 2 29 31],gw 32 .skip (.exit 2)],.block 3 (fg [.region true [] [oM 35 4,oM 36 5,oI 37 67 35 36,oL 38 65 37,oM 39 4,oM 40 5,g8 41 .sub 2 40 1,oI 42 67 39 41,oL 43 65 42,gB 44 .neq 65 38 43],gw 44 (fg [rg [oM 45 0,oM 46 3,oM 47 4,oM 48 5,oI 49 67 47 48,oL 50 65 49,oI 51 67 45 46,jS 65 51 50],rg [oM 52 3,g8 53 .add 2 52 1,oA 3 53]]) .skip]),rg [oM 33 5,g8 34 .add 2 33 1,oA 5 34]]))],rg [oM 54 0,oM 55 3,oO 56 (.slice 67 (.t 54) (some (.t 55)) none none),oE (.clr 67 (.t 56))],rg [oM 57 0,oM 58 3,oO 59 (.reslice 67 (.t 57) (.t 58)),oA 2 59],.ret]) .skip]),rg [oM 14 3,g8 15 .add 2 14 1,oA 3 15]]))],rg [oM 60 0,oA 2 60],.ret]⟩
def f364:DFn := ⟨69,[.cell 2 73],
 fg [rg [jV 2 73],rg [oO 9 (.load 76 (.c (.iptr [.int .u32 1779033703,.int .u32 3144134277,.int .u32 1013904242,.int .u32 2773480762,.int .u32 1359893119,.int .u32 2600822924,.int .u32 528734635,.int .u32 1541459225]))),jV 3 77,jS 77 3 9],rg [oO 10 (.mkbfn 404 (.t 3)),oA 4 10],rg [oM 11 0,oA 5 11],.block 0 (.loop (fg [fg [rg [oM 12 5,oN 13 30 12,g8 14 .geq 2 13 64],gw 14 .skip (.exit 0)],.block 1 (rg [oM 17 4,oM 18 5,oO 19 (.slice 30 (.t 18) none (some (u9I 64)) none),oO 20 (.call 2 (.t 17) [.t 19])]),rg [oM 15 5,oO 16 (.slice 30 (.t 15) (some (u9I 64)) none none),oA 5 16]])),rg [oO 21 (.mkcap 30 (u9I 64) (u9I 128)),oA 6 21],rg [oM 22 6,oM 23 5,oO 24 (.copy 30 30 (.t 22) (.t 23))],rg [oM 25 6,oM 26 5,oN 27 30 26,oI 28 30 25 27,oE (.store 13 (.t 28) (.c (.int .u8 128)))],fg [rg [oM 29 5,oN 30 30 29,g8 31 .gtr 2 30 55],gw 31 (rg [oM 32 6,oO 33 (.reslice 30 (.t 32) (u9I 128)),oA 6 33]) .skip],rg [oM 34 6,oM 35 6,oN 36 30 35,g8 37 .sub 2 36 8,oO 38 (.slice 30 (.t 34) (some (.t 37)) none none),oM 39 0,oN 40 30 39,oO 41 (.conv 2 63 (.t 40)),oO 42 (.bin .mul 63 (.t 41) (.c (.int .u64 8))),oO 43 (.call 2 (.f 383) [.t 38,.t 42])],.block 2 (.loop (fg [fg [rg [oM 44 6,oN 45 30 44,g8 46 .gtr 2 45 0],gw 46 .skip (.exit 2)],.block 3 (rg [oM 49 4,oM 50 6,oO 51 (.slice 30 (.t 50) none (some (u9I 64)) none),oO 52 (.call 2 (.t 49) [.t 51])]),rg [oM 47 6,oO 48 (.slice 30 (.t 47) (some (u9I 64)) none none),oA 6 48]])),fg [rg [oL 53 77 3,oO 54 (.move (u9I 0))],.block 4 (.loop (fg [rg [g8 55 .lss 2 54 8],gw 55 .skip (.exit 4),.block 5 (fg [rg [oM 56 54,oO 57 (.index 77 (.t 53) (.t 54)),oA 7 56,oA 8 57],rg [oM 58 7,oO 59 (.bin .mul 2 (u9I 4) (.t 58)),oM 60 7,oO 61 (.bin .mul 2 (u9I 4) (.t 60)),g8 62 .add 2 61 4,oO 63 (.slice 73 (.t 2) (some (.t 59)) (some (.t 62)) none),oM 64 8,oO 65 (.conv 78 63 (.t 64)),oO 66 (.call 2 (.f 383) [.t 63,.t 65])]]),rg [g8 67 .add 2 54 1,oM 54 67]]))],rg [oL 68 73 2,jS 73 2 68],.ret]⟩
def f365:DFn := ⟨36,[.tmp 2],
 fg [rg [oO 2 (.assign (.c (.imm .exact [])))],rg [i8 3 0],fg [rg [oM 9 0,oN 10 74 9,oO 11 (.move (u9I 0))],.block 0 (.loop (fg [rg [gB 12 .lss 2 11 10],gw 12 .skip (.exit 0),.block 1 (fg [rg [oI 13 74 9 11,oL 14 30 13,oA 5 14],rg [oM 15 3,oM 16 5,oN 17 30 16,gB 18 .add 2 15 17,oA 3 18],rg [oM 19 3,g8 20 .lss 2 19 0],gw 20 (.cond (.c .undef) .skip .skip) .skip]),rg [g8 22 .add 2 11 1,oM 11 22]]))],rg [oM 23 3,oO 24 (.call 2 (.f 384) [.c (.imm .exact []),.t 23]),oA 6 24],fg [rg [oM 25 0,oN 26 74 25,oO 27 (.move (u9I 0))],.block 2 (.loop (fg [rg [gB 28 .lss 2 27 26],gw 28 .skip (.exit 2),.block 3 (fg [rg [oI 29 74 25 27,oL 30 30 29,oA 8 30],rg [oM 31 6,oM 32 8,oO 33 (.append 0 30 30 (.t 31) (.t 32)),oA 6 33]]),rg [g8 34 .add 2 27 1,oM 27 34]]))],rg [oM 35 6,oA 2 35],.ret]⟩
def f366:DFn := ⟨22,[.cell 2 55],
 fg [rg [jV 2 55],rg [oO 6 (.build 55 [(0,u9I 3)]),jV 3 55,jS 55 3 6],fg [rg [oM 7 0,oN 8 6 7,oO 9 (.move (u9I 0))],.block 0 (.loop (fg [rg [gB 10 .lss 2 9 8],gw 10 .skip (.exit 0),.block 1 (fg [rg [oI 11 6 7 9,oL 12 2 11,oA 5 12],rg [oF 13 55 3 3,oL 14 56 13,oM 15 5,oO 16 (.build 55 [(0,u9I 1),(1,.t 15)]),oO 17 (.bslice false 56 1 [(0,.t 16)]),oO 18 (.append 0 56 56 (.t 14) (.t 17)),oF 19 55 3 3,jS 56 19 18]]),rg [g8 20 .add 2 9 1,oM 9 20]]))],rg [oL 21 55 3,jS 55 2 21],.ret]⟩
def f367:DFn := ⟨6,[.tmp 2],
 fg [rg [oO 2 (.assign (u9B false))],rg [oM 3 0,jh 4 368 [.t 3,u9I 0,u9I 7],jY 5 4,oA 2 5],.ret]⟩
def f368:DFn := ⟨15,[.tmp 6],
 fg [rg [oO 6 (.assign (u9B false))],rg [oM 7 1,oM 8 0,gB 9 .leq 2 7 8,oM 10 9,⟨some 11,.move (.t 0),some (10,true)⟩,⟨some 12,.move (.t 2),some (10,true)⟩,⟨some 13,.bin .leq 2 (.t 11) (.t 12),some (10,true)⟩,lj 14 10 13,oA 6 14],.ret]⟩
def f369:DFn := ⟨10,[.tmp 8],
 fg [rg [oO 4 (.ibox 37 (.t 0)),oO 5 (.ibox 2 (.t 1)),oO 6 (.ibox 2 (.t 2)),oO 7 (.ibox 2 (.t 3)),oO 8 (.assign (.c .nilfn))],rg [oO 9 (.mkfn 385 [.t 5,.t 4,.t 6,.t 7]),oA 8 9],.ret]⟩
def f370:DFn := ⟨29,[.tmp 2],
 fg [rg [oO 2 (.assign (.c (.imm .exact [])))],rg [oO 3 (.assign (.f 386))],fg [rg [oM 6 0,oO 7 (.call 2 (.f 387) [.t 6]),oM 8 3,oO 9 (.call 2 (.f 388) [.t 7,.t 8]),oN 10 67 9,oO 11 (.move (u9I 0))],.block 0 (.loop (fg [rg [gB 12 .lss 2 11 10],gw 12 .skip (.exit 0),.block 1 (fg [rg [oI 13 67 9 11,oL 14 65 13,jV 5 65,jS 65 5 14],rg [oM 15 0,oL 16 65 5,oO 17 (.lookup 75 (.t 15) (.t 16) false),g8 18 .neq 2 17 0],gw 18 (.region true [] [oM 19 2,oL 20 65 5,oM 21 0,oL 22 65 5,oO 23 (.lookup 75 (.t 21) (.t 22) false),oO 24 (.build 72 [(0,.t 20),(1,.t 23)]),oO 25 (.bslice false 66 1 [(0,.t 24)]),oO 26 (.append 0 66 66 (.t 19) (.t 25)),oA 2 26]) .skip]),rg [g8 27 .add 2 11 1,oM 11 27]]))],rg [oM 28 2,oA 2 28],.ret]⟩
def f375:DFn := ⟨65,[.tmp 2],
 fg [rg [oO 2 (.assign (u9B false))],fg [rg [oM 7 0,oN 8 66 7,oO 9 (.move (u9I 0))],.block 0 (.loop (fg [rg [gB 10 .lss 2 9 8],gw 10 .skip (.exit 0),.block 1 (fg [rg [oM 11 9,oI 12 66 7 9,oL 13 72 12,jV 4 72,oA 3 11,jS 72 4 13],rg [oF 14 72 4 0,oL 15 65 14,jV 5 65,jS 65 5 15],fg [rg [oF 16 65 5 0,oL 17 2 16,jh 18 368 [.t 17,u9I 1,u9I 4],jY 19 18,oM 20 19,kV 21 65 5 1 20,kI 22 2 21 20,jx 23 368 [.t 22,.c (.int .i64 (-1)),u9I 4095] 20,kj 24 23 20,li 25 20 24,oM 26 25,kV 27 72 4 1 26,kI 28 2 27 26,jx 29 368 [.t 28,.c (.int .i64 (-1099511627776)),u9I 1099511627776] 26,kj 30 29 26,li 31 26 30,oM 32 31,kV 33 72 4 1 32,kI 34 2 33 32,iM 35 .eql 2 34 0 32,li 36 32 35],gw 36 (fg [rg [oO 2 (.assign (u9B false))],.ret]) .skip],rg [oM 37 3,g8 38 .gtr 2 37 0],gw 38 (fg [rg [oM 39 0,oM 40 3,g8 41 .sub 2 40 1,oI 42 66 39 41,oF 43 72 42 0,oL 44 65 43,jV 6 65,jS 65 6 44],rg [oF 45 65 6 0,oL 46 2 45,oF 47 65 5 0,oL 48 2 47,gB 49 .gtr 2 46 48,oM 50 49,kV 51 65 6 0 50,kI 52 2 51 50,kV 53 65 5 0 50,kI 54 2 53 50,iE 55 .eql 2 52 54 50,u9G 56 (.move (.t 55)) 50,⟨some 57,.faddr 65 (.t 6) 1,some (56,true)⟩,⟨some 58,.load 2 (.t 57),some (56,true)⟩,⟨some 59,.faddr 65 (.t 5) 1,some (56,true)⟩,⟨some 60,.load 2 (.t 59),some (56,true)⟩,⟨some 61,.bin .geq 2 (.t 58) (.t 60),some (56,true)⟩,u9G 62 (.pick (.t 56) (.t 61) (u9B false)) 50,li 63 50 62],gw 63 (fg [rg [oO 2 (.assign (u9B false))],.ret]) .skip]) .skip]),rg [g8 64 .add 2 9 1,oM 9 64]]))],rg [oO 2 (.assign (u9B true))],.ret]⟩
def f380:DFn := ⟨28,[],
 fg [rg [oL 7 70 1,oN 8 70 7,oO 9 (.move (u9I 0))],.block 0 (.loop (fg [rg [gB 10 .lss 2 9 8],gw 10 .skip (.exit 0),.block 1 (fg [rg [oI 11 70 7 9,oL 12 71 11,jV 4 71,jS 71 4 12],rg [oF 13 71 4 3,oL 14 66 13,oN 15 66 14,oO 16 (.move (u9I 0))],.block 2 (.loop (fg [rg [gB 17 .lss 2 16 15],gw 17 .skip (.exit 2),.block 3 (fg [rg [oI 18 66 14 16,oL 19 72 18,jV 6 72,jS 72 6 19],rg [oM 20 0,oF 21 71 4 1,oL 22 2 21,oL 23 72 6,oO 24 (.call 2 (.t 20) [.t 22,.t 23]),jY 25 24],gw 25 .ret .skip]),rg [g8 26 .add 2 16 1,oM 16 26]]))]),rg [g8 27 .add 2 9 1,oM 9 27]]))]⟩
def f383:DFn := ⟨23,[],
 fg [rg [oM 5 0,oN 6 30 5,oO 7 (.move (u9I 0))],.block 0 (.loop (fg [rg [gB 8 .lss 2 7 6],gw 8 .skip (.exit 0),.block 1 (fg [rg [oM 9 7,oA 4 9],rg [oM 10 0,oM 11 0,oN 12 30 11,g8 13 .sub 2 12 1,oM 14 4,gB 15 .sub 2 13 14,oM 16 1,oM 17 4,oO 18 (.bin .mul 2 (u9I 8) (.t 17)),gB 19 .shr 63 16 18,oO 20 (.conv 63 13 (.t 19)),oI 21 30 10 15,jS 13 21 20]]),rg [g8 22 .add 2 7 1,oM 7 22]]))]⟩
def f384:DFn := ⟨2,[.tmp 0],
 .seq (rg [⟨some 2,.mark false (u9I 0),none⟩])
 (.ifp (.t 2) (.cond (.c .undef) .skip .skip)
 (.seq (rg [⟨some 0,.append 1 30 30 (.t 0) (.c (.imm .exact [])),none⟩,⟨some 0,.len 30 (.t 0),none⟩,⟨some 0,.bin .eql 2 (.t 0) (u9I 0),none⟩, oE (.bin .lss 2 (.t 1) (u9I 0)), oE (.mkslice false 30 (.t 1) (.t 1))])
 (.cond (.t 0) (.seq (rg [⟨some 0,.append 0 30 30 (.c (.imm .exact [])) (.c (.imm .exact [])),none⟩]) .ret) (.cond (.c .undef) .skip .skip))))⟩
def f385:DFn := ⟨39,[],
 .region false [] [oM 6 0,oL 7 2 1,oO 8 (.build 65 [(0,u9I 1),(1,.t 7)]),oF 9 37 2 2,oL 10 2 9,oO 11 (.call 2 (.t 6) [.t 8,.t 10]),oM 12 11,⟨some 13,.move (.t 0),some (12,true)⟩,⟨some 14,.load 2 (.t 3),some (12,true)⟩,⟨some 15,.build 65 [(0,u9I 2),(1,.t 14)],some (12,true)⟩,⟨some 16,.faddr 37 (.t 2) 2,some (12,true)⟩,⟨some 17,.load 2 (.t 16),some (12,true)⟩,⟨some 18,.call 2 (.t 13) [.t 15,.t 17],some (12,true)⟩,lj 19 12 18,oM 20 19,⟨some 21,.move (.t 0),some (20,true)⟩,⟨some 22,.faddr 37 (.t 2) 0,some (20,true)⟩,⟨some 23,.load 2 (.t 22),some (20,true)⟩,⟨some 24,.build 65 [(0,u9I 3),(1,.t 23)],some (20,true)⟩,⟨some 25,.faddr 37 (.t 2) 2,some (20,true)⟩,⟨some 26,.load 2 (.t 25),some (20,true)⟩,⟨some 27,.un .neg (.t 26),some (20,true)⟩,⟨some 28,.call 2 (.t 21) [.t 24,.t 27],some (20,true)⟩,lj 29 20 28,oM 30 29,⟨some 31,.move (.t 0),some (30,true)⟩,⟨some 32,.load 2 (.t 4),some (30,true)⟩,⟨some 33,.build 65 [(0,u9I 4),(1,.t 32)],some (30,true)⟩,⟨some 34,.faddr 37 (.t 2) 2,some (30,true)⟩,⟨some 35,.load 2 (.t 34),some (30,true)⟩,⟨some 36,.un .neg (.t 35),some (30,true)⟩,⟨some 37,.call 2 (.t 31) [.t 33,.t 36],some (30,true)⟩,lj 38 30 37]⟩
def f386:DFn := ⟨17,[.tmp 4],
 fg [rg [oO 2 (.ibox 65 (.t 0)),oO 3 (.ibox 65 (.t 1)),i8 4 0],.region true [] [oF 5 65 2 0,ly 6 2 5,oF 7 65 3 0,ly 8 2 7,jh 9 74 [.t 6,.t 8],oF 10 65 2 1,ly 11 2 10,oF 12 65 3 1,ly 13 2 12,jh 14 74 [.t 11,.t 13],oO 15 (.bslice false 6 2 [(0,.t 9),(1,.t 14)]),jh 16 105 [.t 15],oA 4 16],.ret]⟩
def f387:DFn := ⟨4,[.tmp 2],
 fg [rg [oO 1 (.ibox 75 (.t 0)),oO 2 (.assign (.c .nilfn))],rg [oO 3 (.mkfn 409 [.t 1]),oA 2 3],.ret]⟩
def f388:DFn := ⟨2,[.tmp 1],
 .seq (rg [⟨some 2,.mark false (u9I 0),none⟩])
 (.ifp (.t 2) (.cond (.c .undef) .skip .skip) (.seq (rg [⟨some 1,.prim 1 [(.t 0),(.t 1)],none⟩]) .ret))⟩
def f404:DFn := ⟨144,[],
 fg [rg [jV 4 80],fg [rg [oO 14 (.move (u9I 0))],.block 0 (.loop (fg [rg [g8 15 .lss 2 14 16],gw 15 .skip (.exit 0),.block 1 (fg [rg [oM 16 14,oA 5 16],rg [oM 17 5,oM 18 1,oM 19 5,oO 20 (.bin .mul 2 (u9I 4) (.t 19)),oO 21 (.slice 30 (.t 18) (some (.t 20)) none none),oO 22 (.call 3 (.f 405) [.t 21]),oI 23 80 4 17,jS 78 23 22]]),rg [g8 24 .add 2 14 1,oM 14 24]]))],fg [rg [i8 6 16],.block 2 (.loop (fg [fg [rg [oM 25 6,g8 26 .lss 2 25 64],gw 26 .skip (.exit 2)],.block 3 (fg [.region true [] [oM 29 6,g8 30 .sub 2 29 15,oI 31 80 4 30,oL 32 78 31,oM 33 6,g8 34 .sub 2 33 2,oI 35 80 4 34,oL 36 78 35,oA 7 32,oA 8 36],.region true [] [oM 37 6,oM 38 6,g8 39 .sub 2 38 16,oI 40 80 4 39,oL 41 78 40,oM 42 7,jh 43 406 [.t 42,.c (.int .i64 (-7))],oM 44 7,jh 45 406 [.t 44,.c (.int .i64 (-18))],gB 46 .xor 78 43 45,oM 47 7,oO 48 (.bin .shr 78 (.t 47) (.c (.int .u64 3))),gB 49 .xor 78 46 48,gB 50 .add 78 41 49,oM 51 6,g8 52 .sub 2 51 7,oI 53 80 4 52,oL 54 78 53,gB 55 .add 78 50 54,oM 56 8,jh 57 406 [.t 56,.c (.int .i64 (-17))],oM 58 8,jh 59 406 [.t 58,.c (.int .i64 (-19))],gB 60 .xor 78 57 59,oM 61 8,oO 62 (.bin .shr 78 (.t 61) (.c (.int .u64 10))),gB 63 .xor 78 60 62,gB 64 .add 78 55 63,oI 65 80 4 37,jS 78 65 64]]),rg [oM 27 6,g8 28 .add 2 27 1,oA 6 28]]))],rg [oM 66 0,oO 67 (.nilc (.t 66)),oL 68 77 67,jV 9 77,jS 77 9 68],fg [rg [oO 69 (.move (u9I 0))],.block 4 (.loop (fg [rg [g8 70 .lss 2 69 64],gw 70 .skip (.exit 4),.block 5 (fg [rg [oM 71 69,oA 10 71],.region true [] [oO 72 (.iaddr 77 (.t 9) (u9I 7)),oL 73 78 72,oO 74 (.iaddr 77 (.t 9) (u9I 4)),oL 75 78 74,jh 76 407 [.t 75,u9I 6,u9I 11,u9I 25],gB 77 .add 78 73 76,oO 78 (.iaddr 77 (.t 9) (u9I 6)),oL 79 78 78,oO 80 (.iaddr 77 (.t 9) (u9I 4)),oL 81 78 80,oO 82 (.iaddr 77 (.t 9) (u9I 5)),oL 83 78 82,oO 84 (.iaddr 77 (.t 9) (u9I 6)),oL 85 78 84,gB 86 .xor 78 83 85,gB 87 .and 78 81 86,gB 88 .xor 78 79 87,gB 89 .add 78 77 88,oM 90 10,oO 91 (.iaddr 80 (.c (.iptr [.int .u32 1116352408,.int .u32 1899447441,.int .u32 3049323471,.int .u32 3921009573,.int .u32 961987163,.int .u32 1508970993,.int .u32 2453635748,.int .u32 2870763221,.int .u32 3624381080,.int .u32 310598401,.int .u32 607225278,.int .u32 1426881987,.int .u32 1925078388,.int .u32 2162078206,.int .u32 2614888103,.int .u32 3248222580,.int .u32 3835390401,.int .u32 4022224774,.int .u32 264347078,.int .u32 604807628,.int .u32 770255983,.int .u32 1249150122,.int .u32 1555081692,.int .u32 1996064986,.int .u32 2554220882,.int .u32 2821834349,.int .u32 2952996808,.int .u32 3210313671,.int .u32 3336571891,.int .u32 3584528711,.int .u32 113926993,.int .u32 338241895,.int .u32 666307205,.int .u32 773529912,.int .u32 1294757372,.int .u32 1396182291,.int .u32 1695183700,.int .u32 1986661051,.int .u32 2177026350,.int .u32 2456956037,.int .u32 2730485921,.int .u32 2820302411,.int .u32 3259730800,.int .u32 3345764771,.int .u32 3516065817,.int .u32 3600352804,.int .u32 4094571909,.int .u32 275423344,.int .u32 430227734,.int .u32 506948616,.int .u32 659060556,.int .u32 883997877,.int .u32 958139571,.int .u32 1322822218,.int .u32 1537002063,.int .u32 1747873779,.int .u32 1955562222,.int .u32 2024104815,.int .u32 2227730452,.int .u32 2361852424,.int .u32 2428436474,.int .u32 2756734187,.int .u32 3204031479,.int .u32 3329325298])) (.t 90)),oL 92 78 91,gB 93 .add 78 89 92,oM 94 10,oI 95 80 4 94,oL 96 78 95,gB 97 .add 78 93 96,oA 11 97],.region true [] [oO 98 (.iaddr 77 (.t 9) (u9I 0)),oL 99 78 98,jh 100 407 [.t 99,u9I 2,u9I 13,u9I 22],oO 101 (.iaddr 77 (.t 9) (u9I 0)),oL 102 78 101,oO 103 (.iaddr 77 (.t 9) (u9I 1)),oL 104 78 103,gB 105 .and 78 102 104,oO 106 (.iaddr 77 (.t 9) (u9I 2)),oL 107 78 106,oO 108 (.iaddr 77 (.t 9) (u9I 0)),oL 109 78 108,oO 110 (.iaddr 77 (.t 9) (u9I 1)),oL 111 78 110,gB 112 .or 78 109 111,gB 113 .and 78 107 112,gB 114 .or 78 105 113,gB 115 .add 78 100 114,oA 12 115],.region true [] [oO 116 (.slice 77 (.t 9) (some (u9I 1)) none none),oO 117 (.slice 77 (.t 9) none (some (u9I 7)) none),oO 118 (.copy 81 81 (.t 116) (.t 117))],rg [oO 119 (.iaddr 77 (.t 9) (u9I 4)),oL 120 78 119,oM 121 11,gB 122 .add 78 120 121,oO 123 (.iaddr 77 (.t 9) (u9I 4)),jS 78 123 122],rg [oM 124 11,oM 125 12,gB 126 .add 78 124 125,oO 127 (.iaddr 77 (.t 9) (u9I 0)),jS 78 127 126]]),rg [g8 128 .add 2 69 1,oM 69 128]]))],rg [oO 129 (.move (u9I 0))],.block 6 (.loop (fg [rg [g8 130 .lss 2 129 8],gw 130 .skip (.exit 6),.block 7 (fg [rg [oM 131 129,oA 13 131],.region true [] [oM 132 0,oM 133 13,oO 134 (.nilc (.t 132)),oI 135 77 134 133,oL 136 78 135,oM 137 13,oI 138 77 9 137,oL 139 78 138,gB 140 .add 78 136 139,oO 141 (.nilc (.t 132)),oI 142 77 141 133,jS 78 142 140]]),rg [g8 143 .add 2 129 1,oM 129 143]]))]⟩
def f405:DFn := ⟨19,[.tmp 2],
 fg [rg [oO 2 (.assign (.c (.int .u32 0)))],fg [rg [oM 5 0,oO 6 (.slice 30 (.t 5) none (some (u9I 4)) none),oN 7 30 6,oO 8 (.move (u9I 0))],.block 0 (.loop (fg [rg [gB 9 .lss 2 8 7],gw 9 .skip (.exit 0),.block 1 (fg [rg [oI 10 30 6 8,oL 11 13 10,oA 4 11],rg [oM 12 2,oO 13 (.bin .shl 78 (.t 12) (.c (.int .u64 8))),oM 14 4,oO 15 (.conv 13 78 (.t 14)),gB 16 .or 78 13 15,oA 2 16]]),rg [g8 17 .add 2 8 1,oM 8 17]]))],rg [oM 18 2,oA 2 18],.ret]⟩
def f406:DFn := ⟨17,[.tmp 4],
 fg [rg [oO 4 (.assign (.c (.int .u32 0)))],rg [oM 6 1,oO 7 (.conv 2 12 (.t 6)),oO 8 (.bin .and 12 (.t 7) (.c (.int .u64 31))),oA 5 8],rg [oM 9 0,oM 10 5,gB 11 .shl 78 9 10,oM 12 0,oM 13 5,oO 14 (.bin .sub 12 (.c (.int .u64 32)) (.t 13)),gB 15 .shr 78 12 14,gB 16 .or 78 11 15,oA 4 16],.ret]⟩
def f407:DFn := ⟨23,[.tmp 8],
 fg [rg [oO 8 (.assign (.c (.int .u32 0)))],rg [oM 9 0,oM 10 1,oO 11 (.un .neg (.t 10)),jh 12 406 [.t 9,.t 11],oM 13 0,oM 14 2,oO 15 (.un .neg (.t 14)),jh 16 406 [.t 13,.t 15],gB 17 .xor 78 12 16,oM 18 0,oM 19 3,oO 20 (.un .neg (.t 19)),jh 21 406 [.t 18,.t 20],gB 22 .xor 78 17 21,oA 8 22],.ret]⟩
def f409:DFn := ⟨14,[],
 fg [.cond (.c .undef) .skip .skip,.block 0 (.loop (fg [.cond (.c .undef) .skip .skip,gw 7 .skip (.exit 0),.block 1 (fg [.cond (.c .undef) .skip .skip,rg [oM 10 0,oL 11 65 3,oO 12 (.call 0 (.t 10) [.t 11]),jY 13 12],gw 13 .ret .skip])]))]⟩
def f424:DFn := ⟨154,[.tmp 16],
 fg [rg [oO 8 (.ibox 0 (.t 0)),oO 9 (.ibox 0 (.t 1)),oO 16 (.assign (u9B false))],fg [rg [jh 27 425 [],jY 28 27],gw 28 (fg [rg [oO 16 (.assign (u9B false))],.ret]) .skip],fg [rg [ly 29 0 8,oM 30 2,jh 31 179 [.t 29,.t 30],jY 32 31,oM 33 32,u9G 34 (.iload 0 (.t 9)) 33,u9G 35 (.move (.t 3)) 33,jx 36 179 [.t 34,.t 35] 33,kj 37 36 33,li 38 33 37,oM 39 38,u9G 40 (.iload 0 (.t 8)) 39,jx 41 2 [.t 40] 39,kj 42 41 39,li 43 39 42,oM 44 43,u9G 45 (.iload 0 (.t 9)) 44,jx 46 2 [.t 45] 44,kj 47 46 44,li 48 44 47,oM 49 48,u9G 50 (.move (.t 4)) 49,lc 51 6 50 49,iM 52 .gtr 2 51 20 49,li 53 49 52,oM 54 53,u9G 55 (.move (.t 5)) 54,lc 56 6 55 54,iM 57 .gtr 2 56 20 54,li 58 54 57,oM 59 58,u9G 60 (.move (.t 6)) 59,iM 61 .lss 2 60 0 59,li 62 59 61,oM 63 62,u9G 64 (.move (.t 7)) 63,u9G 65 (.move (.t 6)) 63,iE 66 .leq 2 64 65 63,li 67 63 66,oM 68 67,u9G 69 (.move (.t 7)) 68,iM 70 .geq 2 69 1440 68,li 71 68 70],gw 71 (fg [rg [oO 16 (.assign (u9B true))],.ret]) .skip],rg [ly 73 0 8,oM 74 2,jh 75 180 [.t 73,.t 74],oM 72 75,jP 76 72 0,jP 77 72 1,oA 17 76,oA 18 77],rg [ly 79 0 9,oM 80 3,jh 81 180 [.t 79,.t 80],oM 78 81,jP 82 78 0,jP 83 78 1,oA 19 82,oA 20 83],rg [ly 85 0 8,oM 86 4,oM 87 17,jh 88 340 [.t 85,.t 86,u9I 1,.t 87],oM 84 88,jP 89 84 0,jP 90 84 1,oA 21 89,oA 22 90],rg [ly 92 0 9,oM 93 5,oM 94 19,jh 95 340 [.t 92,.t 93,u9I 1,.t 94],oM 91 95,jP 96 91 0,jP 97 91 1,oA 23 96,oA 24 97],fg [rg [oM 98 18,g8 99 .neq 3 98 0,oM 100 99,u9G 101 (.move (.t 20)) 100,iM 102 .neq 3 101 0 100,li 103 100 102,oM 104 103,u9G 105 (.move (.t 22)) 104,iM 106 .neq 3 105 0 104,li 107 104 106,oM 108 107,u9G 109 (.move (.t 24)) 108,iM 110 .neq 3 109 0 108,li 111 108 110],gw 111 (fg [rg [oO 16 (.assign (u9B true))],.ret]) .skip],rg [oM 113 6,oM 114 21,jh 115 345 [.c (.imm .exact []),.t 113,.t 114],oM 112 115,jP 116 112 0,jP 117 112 1,oA 25 116,oA 18 117],rg [oM 119 25,oM 120 7,oM 121 23,jh 122 345 [.t 119,.t 120,.t 121],oM 118 122,jP 123 118 0,jP 124 118 1,oA 25 123,oA 20 124],rg [oM 126 25,jh 127 350 [.t 126],oM 125 127,jP 128 125 0,jP 129 125 1,oA 26 128,oA 22 129],fg [rg [oM 130 18,g8 131 .neq 3 130 0,oM 132 131,u9G 133 (.move (.t 20)) 132,iM 134 .neq 3 133 0 132,li 135 132 134,oM 136 135,u9G 137 (.move (.t 22)) 136,iM 138 .neq 3 137 0 136,li 139 136 138,oM 140 139,u9G 141 (.move (.t 26)) 140,kj 142 141 140,li 143 140 142],gw 143 (fg [rg [oO 16 (.assign (u9B false))],.ret]) .skip],rg [ly 144 0 8,oM 145 25,oM 146 6,jh 147 426 [.t 144,.t 145,.t 146],oM 148 147,⟨some 149,.iload 0 (.t 9),some (148,true)⟩,⟨some 150,.move (.t 25),some (148,true)⟩,⟨some 151,.move (.t 7),some (148,true)⟩,⟨some 152,.call 0 (.f 426) [.t 149,.t 150,.t 151],some (148,true)⟩,lj 153 148 152,oA 16 153],.ret]⟩
def f425:DFn := ⟨118,[.tmp 0],
 fg [rg [oO 0 (.assign (u9B false))],rg [oO 15 (.build 20 [(1,u9I 0),(2,u9I 5)]),jV 1 20,jS 20 1 15],rg [oL 16 20 1,oO 17 (.bslice false 10 1 [(0,.t 16)]),oO 18 (.bslice false 6 1 [(0,u9I 0)]),oO 19 (.bslice false 9 1 [(0,.t 18)]),oO 20 (.bslice false 6 1 [(0,u9I 0)]),oL 21 20 1,oO 22 (.build 19 [(0,.t 21),(1,u9I 1)]),oO 23 (.bslice false 18 1 [(0,.t 22)]),oO 24 (.build 17 [(3,.t 23)]),oO 25 (.build 17 [(0,u9I 10),(1,u9I 10)]),oO 26 (.bslice false 16 2 [(0,.t 24),(1,.t 25)]),oO 27 (.build 15 [(0,u9I 4),(2,.t 20),(3,.t 26)]),oO 28 (.bslice false 14 1 [(0,.t 27)]),oO 29 (.build 0 [(0,.t 17),(1,.t 19),(2,.t 28)]),jV 2 0,jS 0 2 29],rg [oO 30 (.bslice false 6 1 [(0,u9I 1)]),oO 31 (.bslice false 9 1 [(0,.t 30)]),oO 32 (.build 39 [(1,.t 31)]),oO 33 (.bslice false 38 1 [(0,.t 32)]),oA 3 33],rg [oL 35 0 2,oM 36 3,jh 37 180 [.t 35,.t 36],oM 34 37,jP 38 34 0,jP 39 34 1,oA 4 38,oA 5 39],rg [oL 41 0 2,oO 42 (.bslice false 6 1 [(0,u9I 2)]),oM 43 4,jh 44 340 [.t 41,.t 42,u9I 0,.t 43],oM 40 44,jP 45 40 0,jP 46 40 1,oA 6 45,oA 7 46],rg [oM 48 6,jh 49 345 [.c (.imm .exact []),u9I 100,.t 48],oM 47 49,jP 50 47 0,jP 51 47 1,oA 8 50,oA 9 51],rg [oM 53 8,jh 54 345 [.t 53,u9I 200,.c (.imm .exact [])],oM 52 54,jP 55 52 0,jP 56 52 1,oA 8 55,oA 10 56],rg [oM 58 8,oO 59 (.build 65 [(0,u9I 2),(1,u9I 4)]),jh 60 318 [.t 58,.t 59,u9I 150],oM 57 60,jP 61 57 0,jP 62 57 1,oA 11 61,oA 12 62],rg [oM 64 8,oO 65 (.build 65 [(0,u9I 2),(1,u9I 4)]),jh 66 318 [.t 64,.t 65,u9I 200],oM 63 66,jP 67 63 0,jP 68 63 1,oA 13 67,oA 14 68],rg [oM 69 5,g8 70 .eql 3 69 0,oM 71 70,⟨some 72,.move (.t 7),some (71,true)⟩,⟨some 73,.bin .eql 3 (.t 72) (u9I 0),some (71,true)⟩,lj 74 71 73,oM 75 74,⟨some 76,.move (.t 9),some (75,true)⟩,⟨some 77,.bin .eql 3 (.t 76) (u9I 0),some (75,true)⟩,lj 78 75 77,oM 79 78,⟨some 80,.move (.t 10),some (79,true)⟩,⟨some 81,.bin .eql 3 (.t 80) (u9I 0),some (79,true)⟩,lj 82 79 81,oM 83 82,⟨some 84,.move (.t 12),some (83,true)⟩,⟨some 85,.bin .eql 3 (.t 84) (u9I 0),some (83,true)⟩,lj 86 83 85,oM 87 86,⟨some 88,.move (.t 14),some (87,true)⟩,⟨some 89,.bin .eql 3 (.t 88) (u9I 0),some (87,true)⟩,lj 90 87 89,oM 91 90,⟨some 92,.move (.t 4),some (91,true)⟩,⟨some 93,.len 36 (.t 92),some (91,true)⟩,⟨some 94,.bin .eql 2 (.t 93) (u9I 1),some (91,true)⟩,lj 95 91 94,oM 96 95,⟨some 97,.move (.t 4),some (96,true)⟩,⟨some 98,.iaddr 36 (.t 97) (u9I 0),some (96,true)⟩,⟨some 99,.faddr 37 (.t 98) 0,some (96,true)⟩,⟨some 100,.load 2 (.t 99),some (96,true)⟩,⟨some 101,.bin .eql 2 (.t 100) (u9I 0),some (96,true)⟩,lj 102 96 101,oM 103 102,⟨some 104,.move (.t 4),some (103,true)⟩,⟨some 105,.iaddr 36 (.t 104) (u9I 0),some (103,true)⟩,⟨some 106,.faddr 37 (.t 105) 2,some (103,true)⟩,⟨some 107,.load 2 (.t 106),some (103,true)⟩,⟨some 108,.bin .eql 2 (.t 107) (u9I 10),some (103,true)⟩,lj 109 103 108,oM 110 109,⟨some 111,.move (.t 11),some (110,true)⟩,⟨some 112,.bin .eql 2 (.t 111) (u9I 10),some (110,true)⟩,lj 113 110 112,oM 114 113,⟨some 115,.move (.t 13),some (114,true)⟩,⟨some 116,.bin .eql 2 (.t 115) (u9I 0),some (114,true)⟩,lj 117 114 116,oA 0 117],.ret]⟩
def f426:DFn := ⟨169,[.tmp 6],
 fg [rg [oO 3 (.ibox 0 (.t 0)),oO 6 (.assign (u9B false))],rg [ly 23 0 3,jh 24 131 [.t 23],oM 22 24,jP 25 22 0,jP 26 22 1,jV 7 29,jS 29 7 25,oA 8 26],fg [rg [oM 27 8,g8 28 .neq 3 27 0,oM 29 28,kV 30 29 7 0 29,kI 31 6 30 29,lc 32 6 31 29,kV 33 0 3 2 29,u9G 34 (.iload 14 (.t 33)) 29,lc 35 14 34 29,iE 36 .neq 2 32 35 29,li 37 29 36],gw 37 (fg [rg [oO 6 (.assign (u9B false))],.ret]) .skip],rg [i8 9 0],fg [rg [i8 10 0],.block 0 (.loop (fg [fg [rg [oM 38 10,oF 39 0 3 2,ly 40 14 39,oN 41 14 40,gB 42 .lss 2 38 41],gw 42 .skip (.exit 0)],.block 1 (fg [rg [i8 11 0],fg [rg [i8 12 0],.block 2 (.loop (fg [fg [rg [oM 45 12,oF 46 0 3 2,ly 47 14 46,oN 48 14 47,gB 49 .lss 2 45 48],gw 49 .skip (.exit 2)],.block 3 (fg [.region true [] [oF 52 0 3 2,ly 53 14 52,oM 54 12,oI 55 14 53 54,oF 56 15 55 0,oL 57 2 56,oF 58 0 3 2,ly 59 14 58,oM 60 10,oI 61 14 59 60,oF 62 15 61 0,oL 63 2 62,gB 64 .eql 2 57 63],gw 64 (.region true [] [oM 65 11,oF 66 0 3 2,ly 67 14 66,oM 68 12,oI 69 14 67 68,oF 70 15 69 3,oL 71 16 70,oF 72 29 7 0,oL 73 6 72,oM 74 12,oI 75 6 73 74,oL 76 2 75,oI 77 16 71 76,oF 78 17 77 0,oL 79 2 78,gB 80 .add 2 65 79,oA 11 80]) .skip]),rg [oM 50 12,g8 51 .add 2 50 1,oA 12 51]]))],.region true [] [oM 81 9,oF 82 0 3 2,ly 83 14 82,oM 84 10,oI 85 14 83 84,oF 86 15 85 3,oL 87 16 86,oF 88 29 7 0,oL 89 6 88,oM 90 10,oI 91 6 89 90,oL 92 2 91,oI 93 16 87 92,oF 94 17 93 0,oL 95 2 94,gB 96 .add 2 81 95,oA 9 96],rg [oM 98 1,oF 99 0 3 2,ly 100 14 99,oM 101 10,oI 102 14 100 101,oF 103 15 102 0,oL 104 2 103,oO 105 (.build 65 [(0,u9I 2),(1,.t 104)]),oM 106 2,jh 107 318 [.t 98,.t 105,.t 106],oM 97 107,jP 108 97 0,jP 109 97 1,oA 13 108,oA 14 109],rg [oM 110 14,g8 111 .neq 3 110 0,oM 112 111,u9G 113 (.move (.t 13)) 112,u9G 114 (.move (.t 11)) 112,iE 115 .neq 2 113 114 112,li 116 112 115],gw 116 (fg [rg [oO 6 (.assign (u9B false))],.ret]) .skip]),rg [oM 43 10,g8 44 .add 2 43 1,oA 10 44]]))],rg [oO 117 (.bslice false 6 4 [(0,u9I 1),(1,u9I 2),(2,u9I 3),(3,u9I 4)]),oA 15 117],fg [rg [i8 16 0],.block 4 (.loop (fg [fg [rg [oM 118 16,oM 119 15,oN 120 6 119,gB 121 .lss 2 118 120],gw 121 .skip (.exit 4)],.block 5 (fg [rg [oM 125 1,oM 126 15,oM 127 16,oI 128 6 126 127,oL 129 2 128,oM 130 2,jh 131 352 [.t 125,.t 129,.t 130],oM 124 131,jP 132 124 0,jP 133 124 1,oA 17 132,oA 18 133],rg [i8 19 0],fg [rg [i8 20 0],.block 6 (.loop (fg [fg [rg [oM 134 20,oM 135 17,oN 136 66 135,gB 137 .lss 2 134 136],gw 137 .skip (.exit 6)],.block 7 (rg [oM 140 19,oM 141 17,oM 142 20,oI 143 66 141 142,oF 144 72 143 1,oL 145 2 144,gB 146 .add 2 140 145,oA 19 146]),rg [oM 138 20,g8 139 .add 2 138 1,oA 20 139]]))],rg [oM 147 9,oA 21 147],fg [rg [oM 148 15,oM 149 16,oI 150 6 148 149,oL 151 2 150,g8 152 .eql 2 151 3,oM 153 152,u9G 154 (.move (.t 15)) 153,u9G 155 (.move (.t 16)) 153,la 156 6 154 155 153,kI 157 2 156 153,iM 158 .eql 2 157 4 153,li 159 153 158],gw 159 (rg [oM 160 9,oO 161 (.un .neg (.t 160)),oA 21 161]) .skip],rg [oM 162 18,g8 163 .neq 3 162 0,oM 164 163,u9G 165 (.move (.t 19)) 164,u9G 166 (.move (.t 21)) 164,iE 167 .neq 2 165 166 164,li 168 164 167],gw 168 (fg [rg [oO 6 (.assign (u9B false))],.ret]) .skip]),rg [oM 122 16,g8 123 .add 2 122 1,oA 16 123]]))],rg [oO 6 (.assign (u9B true))],.ret]⟩
def y4i:Nat->TI
 | 0 => ⟨.struct [(0,10),(1,9),(2,14)],3,72,[(.imm .exact []),(.imm .exact []),(.imm .exact [])],false⟩
 | 1 => ⟨.slice 2,1,24,[(.imm .exact [])],false⟩
 | 2 => ⟨.int .i64,1,8,[(.int .i64 0)],false⟩
 | 3 => ⟨.int .i64,1,8,[(.int .i64 0)],false⟩
 | 4 => ⟨.slice 1,1,24,[(.imm .exact [])],false⟩
 | 6 => ⟨.slice 2,1,24,[(.imm .exact [])],false⟩
 | 7 => ⟨.bool,1,1,[(.bool false)],false⟩
 | 9 => ⟨.slice 6,1,24,[(.imm .exact [])],false⟩
 | 10 => ⟨.slice 20,1,24,[(.imm .exact [])],false⟩
 | 11 => ⟨.struct [(0,2),(1,2)],2,16,[(.int .i64 0),(.int .i64 0)],true⟩
 | 12 => ⟨.int .u64,1,8,[(.int .u64 0)],false⟩
 | 13 => ⟨.int .u8,1,1,[(.int .u8 0)],false⟩
 | 14 => ⟨.slice 15,1,24,[(.imm .exact [])],false⟩
 | 15 => ⟨.struct [(0,2),(1,2),(2,6),(3,16)],4,64,[(.int .i64 0),(.int .i64 0),(.imm .exact []),(.imm .exact [])],false⟩
 | 16 => ⟨.slice 17,1,24,[(.imm .exact [])],false⟩
 | 17 => ⟨.struct [(0,2),(1,2),(2,2),(3,18)],4,48,[(.int .i64 0),(.int .i64 0),(.int .i64 0),(.imm .exact [])],false⟩
 | 18 => ⟨.slice 19,1,24,[(.imm .exact [])],false⟩
 | 19 => ⟨.struct [(0,20),(3,2)],4,32,[(.bool false),(.int .i64 0),(.int .i64 0),(.int .i64 0)],true⟩
 | 20 => ⟨.struct [(0,7),(1,2),(2,2)],3,24,[(.bool false),(.int .i64 0),(.int .i64 0)],true⟩
 | 21 => ⟨.map 20 7,1,8,[(.map none)],false⟩
 | 22 => ⟨.arr 4 2,4,32,[(.int .i64 0),(.int .i64 0),(.int .i64 0),(.int .i64 0)],true⟩
 | 26 => ⟨.map 20 2,1,8,[(.map none)],false⟩
 | 28 => ⟨.struct [(0,4),(1,6),(2,6),(3,31)],4,96,[(.imm .exact []),(.imm .exact []),(.imm .exact []),(.imm .exact [])],false⟩
 | 29 => ⟨.struct [(0,6),(1,6),(2,31)],3,72,[(.imm .exact []),(.imm .exact []),(.imm .exact [])],false⟩
 | 30 => ⟨.slice 13,1,24,[(.imm .exact [])],false⟩
 | 31 => ⟨.slice 32,1,24,[(.imm .exact [])],false⟩
 | 32 => ⟨.struct [(0,1),(1,2),(2,9)],3,56,[(.imm .exact []),(.int .i64 0),(.imm .exact [])],false⟩
 | 33 => ⟨.func,1,8,[.nilfn],false⟩
 | 35 => ⟨.slice 1,1,24,[(.imm .exact [])],false⟩
 | 36 => ⟨.slice 37,1,24,[(.imm .exact [])],false⟩
 | 37 => ⟨.struct [(0,2),(1,2),(2,2)],3,24,[(.int .i64 0),(.int .i64 0),(.int .i64 0)],true⟩
 | 38 => ⟨.slice 39,1,24,[(.imm .exact [])],false⟩
 | 39 => ⟨.struct [(0,2),(1,9)],2,32,[(.int .i64 0),(.imm .exact [])],false⟩
 | 40 => ⟨.func,1,8,[.nilfn],false⟩
 | 53 => ⟨.str,1,16,[(.str [])],false⟩
 | 55 => ⟨.struct [(0,2),(1,2),(2,53),(3,56)],4,56,[(.int .i64 0),(.int .i64 0),(.str []),(.imm .exact [])],false⟩
 | 56 => ⟨.slice 55,1,24,[(.imm .exact [])],false⟩
 | 57 => ⟨.arr 4 58,4,32,[.nilfn,.nilfn,.nilfn,.nilfn],false⟩
 | 58 => ⟨.struct [(0,59)],1,8,[.nilfn],false⟩
 | 59 => ⟨.func,1,8,[.nilfn],false⟩
 | 62 => ⟨.ptr 57,1,8,[.nilp],false⟩
 | 63 => ⟨.int .u64,1,8,[(.int .u64 0)],false⟩
 | 64 => ⟨.arr 4 7,4,4,[(.bool false),(.bool false),(.bool false),(.bool false)],true⟩
 | 65 => ⟨.struct [(0,2),(1,2)],2,16,[(.int .i64 0),(.int .i64 0)],true⟩
 | 66 => ⟨.slice 72,1,24,[(.imm .exact [])],false⟩
 | 67 => ⟨.slice 65,1,24,[(.imm .exact [])],false⟩
 | 70 => ⟨.slice 71,1,24,[(.imm .exact [])],false⟩
 | 71 => ⟨.struct [(0,2),(1,2),(2,2),(3,66),(4,73)],36,80,[(.int .i64 0),(.int .i64 0),(.int .i64 0),(.imm .exact []),(.int .u8 0),(.int .u8 0),(.int .u8 0),(.int .u8 0),(.int .u8 0),(.int .u8 0),(.int .u8 0),(.int .u8 0),(.int .u8 0),(.int .u8 0),(.int .u8 0),(.int .u8 0),(.int .u8 0),(.int .u8 0),(.int .u8 0),(.int .u8 0),(.int .u8 0),(.int .u8 0),(.int .u8 0),(.int .u8 0),(.int .u8 0),(.int .u8 0),(.int .u8 0),(.int .u8 0),(.int .u8 0),(.int .u8 0),(.int .u8 0),(.int .u8 0),(.int .u8 0),(.int .u8 0),(.int .u8 0),(.int .u8 0)],false⟩
 | 72 => ⟨.struct [(0,65),(2,2)],3,24,[(.int .i64 0),(.int .i64 0),(.int .i64 0)],true⟩
 | 73 => ⟨.arr 32 13,32,32,[(.int .u8 0),(.int .u8 0),(.int .u8 0),(.int .u8 0),(.int .u8 0),(.int .u8 0),(.int .u8 0),(.int .u8 0),(.int .u8 0),(.int .u8 0),(.int .u8 0),(.int .u8 0),(.int .u8 0),(.int .u8 0),(.int .u8 0),(.int .u8 0),(.int .u8 0),(.int .u8 0),(.int .u8 0),(.int .u8 0),(.int .u8 0),(.int .u8 0),(.int .u8 0),(.int .u8 0),(.int .u8 0),(.int .u8 0),(.int .u8 0),(.int .u8 0),(.int .u8 0),(.int .u8 0),(.int .u8 0),(.int .u8 0)],true⟩
 | 74 => ⟨.slice 30,1,24,[(.imm .exact [])],false⟩
 | 75 => ⟨.map 65 2,1,8,[(.map none)],false⟩
 | 76 => ⟨.arr 8 78,8,32,[(.int .u32 0),(.int .u32 0),(.int .u32 0),(.int .u32 0),(.int .u32 0),(.int .u32 0),(.int .u32 0),(.int .u32 0)],true⟩
 | 77 => ⟨.arr 8 78,8,32,[(.int .u32 0),(.int .u32 0),(.int .u32 0),(.int .u32 0),(.int .u32 0),(.int .u32 0),(.int .u32 0),(.int .u32 0)],true⟩
 | 78 => ⟨.int .u32,1,4,[(.int .u32 0)],false⟩
 | 79 => ⟨.int .i64,1,8,[(.int .i64 0)],false⟩
 | 80 => ⟨.arr 64 78,64,256,[(.int .u32 0),(.int .u32 0),(.int .u32 0),(.int .u32 0),(.int .u32 0),(.int .u32 0),(.int .u32 0),(.int .u32 0),(.int .u32 0),(.int .u32 0),(.int .u32 0),(.int .u32 0),(.int .u32 0),(.int .u32 0),(.int .u32 0),(.int .u32 0),(.int .u32 0),(.int .u32 0),(.int .u32 0),(.int .u32 0),(.int .u32 0),(.int .u32 0),(.int .u32 0),(.int .u32 0),(.int .u32 0),(.int .u32 0),(.int .u32 0),(.int .u32 0),(.int .u32 0),(.int .u32 0),(.int .u32 0),(.int .u32 0),(.int .u32 0),(.int .u32 0),(.int .u32 0),(.int .u32 0),(.int .u32 0),(.int .u32 0),(.int .u32 0),(.int .u32 0),(.int .u32 0),(.int .u32 0),(.int .u32 0),(.int .u32 0),(.int .u32 0),(.int .u32 0),(.int .u32 0),(.int .u32 0),(.int .u32 0),(.int .u32 0),(.int .u32 0),(.int .u32 0),(.int .u32 0),(.int .u32 0),(.int .u32 0),(.int .u32 0),(.int .u32 0),(.int .u32 0),(.int .u32 0),(.int .u32 0),(.int .u32 0),(.int .u32 0),(.int .u32 0),(.int .u32 0)],true⟩
 | 81 => ⟨.slice 78,1,24,[(.imm .exact [])],false⟩
 | 82 => ⟨.int .u64,1,8,[(.int .u64 0)],false⟩
 |_ => ⟨.other,0,0,[],false⟩
def ymh:Nat->Option DFn
 | 2=>some f2
 | 3=>some f3
 | 7=>some f7
 | 14=>some f14
 | 15=>some f15
 | 22=>some f22
 | 61=>some f61
 | 62=>some f62
 | 63=>some f63
 | 66=>some f66
 | 67=>some f67
 | 68=>some f68
 | 69=>some f69
 | 70=>some f70
 | 71=>some f71
 | 72=>some f72
 | 73=>some f73
 | 74=>some f74
 | 75=>some f75
 | 76=>some f76
 | 83=>some f83
 | 84=>some f84
 | 87=>some f87
 | 94=>some f94
 | 96=>some f96
 | 102=>some f102
 | 104=>some f104
 | 105=>some f105
 | 106=>some f106
 | 107=>some f107
 | 110=>some f110
 | 113=>some f113
 | 122=>some f122
 | 123=>some f123
 | 129=>some f129
 | 131=>some f131
 | 133=>some f133
 | 139=>some f139
 | 140=>some f140
 | 142=>some f142
 | 150=>some f150
 | 151=>some f151
 | 157=>some f157
 | 158=>some f158
 | 159=>some f159
 | 160=>some f160
 | 161=>some f161
 | 162=>some f162
 | 165=>some f165
 | 166=>some f166
 | 167=>some f167
 | 168=>some f168
 | 169=>some f169
 | 172=>some f172
 | 173=>some f173
 | 174=>some f174
 | 175=>some f175
 | 176=>some f176
 | 179=>some f179
 | 180=>some f180
 | 181=>some f181
 | 184=>some f184
 | 191=>some f191
 | 192=>some f192
 | 193=>some f193
 | 194=>some f194
 | 195=>some f195
 | 198=>some f198
 | 199=>some f199
 | 200=>some f200
 | 201=>some f201
 | 202=>some f202
 | 264=>some f264
 | 281=>some f281
 | 282=>some f282
 | 297=>some f297
 | 298=>some f298
 | 299=>some f299
 | 300=>some f300
 | 311=>some f311
 | 312=>some f312
 | 316=>some f316
 | 318=>some f318
 | 324=>some f324
 | 325=>some f325
 | 331=>some f331
 | 334=>some f334
 | 335=>some f335
 | 340=>some f340
 | 345=>some f345
 | 350=>some f350
 | 352=>some f352
 | 354=>some f354
 | 355=>some f355
 | 356=>some f356
 | 359=>some f359
 | 361=>some f361
 | 362=>some f362
 | 363=>some f363
 | 364=>some f364
 | 365=>some f365
 | 366=>some f366
 | 367=>some f367
 | 368=>some f368
 | 369=>some f369
 | 370=>some f370
 | 375=>some f375
 | 380=>some f380
 | 383=>some f383
 | 384=>some f384
 | 385=>some f385
 | 386=>some f386
 | 387=>some f387
 | 388=>some f388
 | 404=>some f404
 | 405=>some f405
 | 406=>some f406
 | 407=>some f407
 | 409=>some f409
 | 424=>some f424
 | 425=>some f425
 | 426=>some f426
 |_ => none
def yet:Nat->Bool
 | 166 => true
 | 168 => true
 | 175 => true
 |_ => false
def ym4:Nat->Bool
 |_ => false
def E:Env := ⟨y4i,ymh,yet,ym4,ye3⟩
end Dv
