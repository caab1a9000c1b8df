/- Texts that a proof of this claim uses, joined: Dv.Code. -/
import Derived.Test.YthcmaiplkbbioaaGreatDoorDva
set_option linter.all false
namespace Dv
open Go (IntKind BinOp UnOp)
abbrev oO(n:Nat)(x:DOp):y1f := ⟨some n,x,none⟩
abbrev oE(x:DOp):y1f := ⟨none,x,none⟩
abbrev oM(n k:Nat):y1f := ⟨some n,.move (.t k),none⟩
abbrev u9I(k:Int):Opd := .c (.int .i64 k)
abbrev u9B(k:Bool):Opd := .c (.bool k)
abbrev u9G(n:Nat)(x:DOp)(k:Nat):y1f := ⟨some n,x,some (k,false)⟩
abbrev oL(n t a:Nat):y1f := ⟨some n,.load t (.t a),none⟩
abbrev oF(n t a k:Nat):y1f := ⟨some n,.faddr t (.t a) k,none⟩
abbrev oI(n t a b:Nat):y1f := ⟨some n,.iaddr t (.t a) (.t b),none⟩
abbrev oN(n t a:Nat):y1f := ⟨some n,.len t (.t a),none⟩
abbrev oA(n a:Nat):y1f := ⟨some n,.assign (.t a),none⟩
abbrev rg(l:List y1f):DC := .region false [] l
def e9:List DC->DC
 |[]=>.skip
 |[a]=>a
 |a::b::l=>.seq a (e9 (b::l))
abbrev gp(a:Nat)(x y:DC):DC := .cond (.t a) x y
abbrev gS(n:Nat)(p:BinOp)(t a b:Nat):y1f := ⟨some n,.bin p t (.t a) (.t b),none⟩
abbrev iu(n:Nat)(p:BinOp)(t a:Nat)(k:Int):y1f := ⟨some n,.bin p t (.t a) (.c (.int .i64 k)),none⟩
abbrev iE(n:Nat)(p:BinOp)(t a b g:Nat):y1f := ⟨some n,.bin p t (.t a) (.t b),some (g,false)⟩
abbrev iH(n:Nat)(p:BinOp)(t a:Nat)(k:Int)(g:Nat):y1f := ⟨some n,.bin p t (.t a) (.c (.int .i64 k)),some (g,false)⟩
abbrev iV(n:Nat)(k:Int):y1f := ⟨some n,.assign (.c (.int .i64 k)),none⟩
abbrev jb(n k:Nat)(l:List Opd):y1f := ⟨some n,.call 0 (.f k) l,none⟩
abbrev jr(n k:Nat)(l:List Opd)(g:Nat):y1f := ⟨some n,.call 0 (.f k) l,some (g,false)⟩
abbrev jI(n a k:Nat):y1f := ⟨some n,.extract (.t a) k,none⟩
abbrev jL(t a b:Nat):y1f := ⟨none,.store t (.t a) (.t b),none⟩
abbrev jO(n t:Nat):y1f := ⟨some n,.alloc t,none⟩
abbrev jQ(n a:Nat):y1f := ⟨some n,.un .not (.t a),none⟩
abbrev j0(n a g:Nat):y1f := ⟨some n,.un .not (.t a),some (g,false)⟩
abbrev ky(n t a g:Nat):y1f := ⟨some n,.load t (.t a),some (g,false)⟩
abbrev kM(n t a k g:Nat):y1f := ⟨some n,.faddr t (.t a) k,some (g,false)⟩
abbrev kS(n t a b g:Nat):y1f := ⟨some n,.iaddr t (.t a) (.t b),some (g,false)⟩
abbrev kT(n t a g:Nat):y1f := ⟨some n,.len t (.t a),some (g,false)⟩
abbrev kX(n a b:Nat):y1f := ⟨some n,.pick (.t a) (.c (.bool true)) (.t b),none⟩
abbrev kY(n a b:Nat):y1f := ⟨some n,.pick (.t a) (.t b) (.c (.bool false)),none⟩
abbrev kZ(n a k:Nat):y1f := ⟨some n,.call 0 (.f k) [.t a],none⟩
abbrev ld(n t a:Nat):y1f := ⟨some n,.iload t (.t a),none⟩
def f2:DFn := ⟨77,[.tmp 2],
 .seq (rg [oO 1 (.box 0 (.t 0)),
 oO 2 (.assign (u9B false))])
 (.seq (.seq (rg [oF 7 0 1 0,
 oL 8 10 7,
 oN 9 10 8,
 oO 10 (.bin .gtr 2 (.t 9) (u9I 12)),
 oM 11 10,
 u9G 12 (.faddr 0 (.t 1) 1) 11,
 u9G 13 (.load 9 (.t 12)) 11,
 u9G 14 (.len 9 (.t 13)) 11,
 u9G 15 (.bin .gtr 2 (.t 14) (u9I 4)) 11,
 oO 16 (.pick (.t 11) (u9B true) (.t 15)),
 oM 17 16,
 u9G 18 (.faddr 0 (.t 1) 2) 17,
 u9G 19 (.load 14 (.t 18)) 17,
 u9G 20 (.len 14 (.t 19)) 17,
 u9G 21 (.bin .gtr 2 (.t 20) (u9I 6)) 17,
 oO 22 (.pick (.t 17) (u9B true) (.t 21))])
 (.cond (.t 22) (.seq (rg [oO 2 (.assign (u9B false))])
 (.ret)) (.skip)))
 (.seq (.seq (rg [oO 3 (.assign (u9I 0))])
 (.block 0 (.loop (.seq (.seq (rg [oM 23 3,
 oF 24 0 1 1,
 oL 25 9 24,
 oN 26 9 25,
 oO 27 (.bin .lss 2 (.t 23) (.t 26))])
 (.cond (.t 27) (.skip) (.exit 0)))
 (.seq (.block 1 (.seq (rg [oF 30 0 1 1,
 oL 31 9 30,
 oM 32 3,
 oI 33 9 31 32,
 oL 34 6 33,
 oN 35 6 34,
 oO 36 (.bin .gtr 2 (.t 35) (u9I 16))])
 (.cond (.t 36) (.seq (rg [oO 2 (.assign (u9B false))])
 (.ret)) (.skip))))
 (rg [oM 28 3,
 oO 29 (.bin .add 2 (.t 28) (u9I 1)),
 oA 3 29]))))))
 (.seq (.seq (rg [oO 4 (.assign (u9I 0))])
 (.block 2 (.loop (.seq (.seq (rg [oM 37 4,
 oF 38 0 1 2,
 oL 39 14 38,
 oN 40 14 39,
 oO 41 (.bin .lss 2 (.t 37) (.t 40))])
 (.cond (.t 41) (.skip) (.exit 2)))
 (.seq (.block 3 (.seq (rg [oF 44 0 1 2,
 oL 45 14 44,
 oM 46 4,
 oI 47 14 45 46,
 oL 48 15 47,
 oO 5 (.alloc 15),
 oE (.store 15 (.t 5) (.t 48))])
 (.seq (.seq (rg [oF 49 15 5 2,
 oL 50 6 49,
 oN 51 6 50,
 oO 52 (.bin .gtr 2 (.t 51) (u9I 8)),
 oM 53 52,
 u9G 54 (.faddr 15 (.t 5) 3) 53,
 u9G 55 (.load 16 (.t 54)) 53,
 u9G 56 (.len 16 (.t 55)) 53,
 u9G 57 (.bin .gtr 2 (.t 56) (u9I 8)) 53,
 oO 58 (.pick (.t 53) (u9B true) (.t 57))])
 (.cond (.t 58) (.seq (rg [oO 2 (.assign (u9B false))])
 (.ret)) (.skip)))
 (.seq (rg [oO 6 (.assign (u9I 0))])
 (.block 4 (.loop (.seq (.seq (rg [oM 59 6,
 oF 60 15 5 3,
 oL 61 16 60,
 oN 62 16 61,
 oO 63 (.bin .lss 2 (.t 59) (.t 62))])
 (.cond (.t 63) (.skip) (.exit 4)))
 (.seq (.block 5 (.seq (rg [oF 66 15 5 3,
 oL 67 16 66,
 oM 68 6,
 oI 69 16 67 68,
 oF 70 17 69 3,
 oL 71 18 70,
 oN 72 18 71,
 oO 73 (.bin .gtr 2 (.t 72) (u9I 12))])
 (.cond (.t 73) (.seq (rg [oO 2 (.assign (u9B false))])
 (.ret)) (.skip))))
 (rg [oM 64 6,
 oO 65 (.bin .add 2 (.t 64) (u9I 1)),
 oA 6 65])))))))))
 (rg [oM 42 4,
 oO 43 (.bin .add 2 (.t 42) (u9I 1)),
 oA 4 43]))))))
 (.seq (rg [oL 74 0 1,
 oO 75 (.call 0 (.f 61) [(.t 74),(u9I 2000)]),
 oO 76 (.bin .lss 2 (.t 75) (u9I 2000)),
 oA 2 76])
 (.ret)))))⟩
def f3:DFn := ⟨89,[.cell 4 6,.tmp 5],
 e9 [rg [oO 2 (.box 0 (.t 0)),jO 4 6,iV 5 0],e9 [rg [oL 14 0 2,oM 15 1,jb 16 62 [.t 14,.t 15],oA 5 16],rg [oM 17 5,iu 18 .neq 3 17 0],gp 18 (e9 [rg [oM 19 5,oE (.store 6 (.t 4) (.c (.imm .exact []))),oA 5 19],.ret]) .skip],rg [oO 20 (.mkslice true 6 (u9I 4) (u9I 4)),jL 6 4 20],e9 [rg [oF 21 0 2 1,oL 22 9 21,oN 23 9 22,oO 24 (.move (u9I 0))],.block 0 (.loop (e9 [rg [gS 25 .lss 2 24 23],gp 25 .skip (.exit 0),.block 1 (e9 [rg [oM 26 24,oI 27 9 22 24,oL 28 6 27,oA 6 26,oA 7 28],rg [oL 30 0 2,oM 31 1,oM 32 6,jb 33 14 [.t 30,.t 31,.t 32],oM 29 33,jI 34 29 0,jI 35 29 1,oA 8 34,oA 9 35],rg [oM 36 8,oN 37 6 36,oO 38 (.move (u9I 0))],.block 2 (.loop (e9 [rg [gS 39 .lss 2 38 37],gp 39 .skip (.exit 2),.block 3 (e9 [rg [oM 40 38,oI 41 6 36 38,oL 42 2 41,oA 10 40,oA 11 42],.region true [] [oL 43 6 4,oO 44 (.iaddr 6 (.t 43) (u9I 0)),oL 45 2 44,oM 46 11,oM 47 7,oM 48 10,oI 49 6 47 48,oL 50 2 49,gS 51 .sub 2 46 50,oO 52 (.maxi [.t 51,u9I 0]),gS 53 .add 2 45 52,oO 54 (.iaddr 6 (.t 43) (u9I 0)),jL 2 54 53]]),rg [iu 55 .add 2 38 1,oM 38 55]]))]),rg [iu 56 .add 2 24 1,oM 24 56]]))],e9 [rg [oL 57 0 2,oM 58 1,jb 59 63 [.t 57,.t 58]],.block 4 (.rfunc (.t 59) [60,61] (e9 [rg [oA 12 60],rg [jO 13 17,jL 17 13 61]]) (.block 5 (e9 [.region true [] [oL 62 6 4,oL 63 6 4,oO 64 (.iaddr 6 (.t 63) (u9I 1)),oL 65 2 64,oF 66 17 13 0,oL 67 2 66,oO 68 (.maxi [.t 65,.t 67]),oO 69 (.iaddr 6 (.t 62) (u9I 1)),jL 2 69 68],.region true [] [oL 70 6 4,oO 71 (.iaddr 6 (.t 70) (u9I 2)),oL 72 2 71,oF 73 17 13 1,oL 74 2 73,oM 75 12,gS 76 .mul 2 74 75,gS 77 .add 2 72 76,oO 78 (.iaddr 6 (.t 70) (u9I 2)),jL 2 78 77],.region true [] [oL 79 6 4,oO 80 (.iaddr 6 (.t 79) (u9I 3)),oL 81 2 80,oF 82 17 13 2,oL 83 2 82,oM 84 12,gS 85 .mul 2 83 84,gS 86 .add 2 81 85,oO 87 (.iaddr 6 (.t 79) (u9I 3)),jL 2 87 86]])))],rg [oL 88 6 4,jL 6 4 88,iV 5 0],.ret]⟩
def f7:DFn := ⟨43,[.tmp 4,.tmp 5],
 e9 [rg [oO 2 (.box 0 (.t 0)),oO 4 (.assign (.c (.imm .exact []))),iV 5 0],e9 [rg [oL 8 0 2,oM 9 1,jb 10 62 [.t 8,.t 9],oA 5 10],rg [oM 11 5,iu 12 .neq 3 11 0],gp 12 (e9 [rg [oM 13 5,oO 4 (.assign (.c (.imm .exact []))),oA 5 13],.ret]) .skip],rg [oM 14 1,oN 15 1 14,oA 6 15],e9 [rg [oM 16 6,oF 17 0 2 2,oL 18 14 17,oN 19 14 18,gS 20 .eql 2 16 19],gp 20 (e9 [rg [oO 4 (.assign (.c (.imm .exact []))),iV 5 280],.ret]) .skip],e9 [rg [oF 21 0 2 2,oL 22 14 21,oM 23 6,oI 24 14 22 23,oF 25 15 24 3,oL 26 16 25,oN 27 16 26,oO 28 (.move (u9I 0))],.block 0 (.loop (e9 [rg [gS 29 .lss 2 28 27],gp 29 .skip (.exit 0),.block 1 (e9 [rg [oM 30 28,oA 7 30],rg [oM 31 4,oM 32 1,oM 33 6,oM 34 6,oO 35 (.slice 1 (.t 32) none (some (.t 33)) (some (.t 34))),oM 36 7,oO 37 (.bslice false 1 1 [(0,.t 36)]),oO 38 (.append 0 1 1 (.t 35) (.t 37)),oO 39 (.bslice false 4 1 [(0,.t 38)]),oO 40 (.append 0 4 4 (.t 31) (.t 39)),oA 4 40]]),rg [iu 41 .add 2 28 1,oM 28 41]]))],rg [oM 42 4,oA 4 42,iV 5 0],.ret]⟩
def f14:DFn := ⟨27,[.tmp 6,.tmp 7],
 e9 [rg [oO 3 (.box 0 (.t 0)),oO 6 (.assign (.c (.imm .exact []))),iV 7 0],e9 [rg [oL 8 0 3,oM 9 1,jb 10 66 [.t 8,.t 9],oA 7 10],rg [oM 11 7,iu 12 .neq 3 11 0],gp 12 (e9 [rg [oM 13 7,oO 6 (.assign (.c (.imm .exact []))),oA 7 13],.ret]) .skip],e9 [rg [oM 14 2,oF 15 0 3 1,oL 16 9 15,oN 17 9 16,iu 18 .sub 2 17 1,jb 19 67 [.t 14,u9I 0,.t 18],jQ 20 19],gp 20 (e9 [rg [oO 6 (.assign (.c (.imm .exact []))),iV 7 270],.ret]) .skip],rg [oL 21 0 3,oM 22 1,jb 23 68 [.t 21,.t 22],oM 24 2,oI 25 9 23 24,oL 26 6 25,oA 6 26,iV 7 0],.ret]⟩
def f15:DFn := ⟨173,[.tmp 2],
 e9 [rg [oO 1 (.box 0 (.t 0)),iV 2 0],e9 [rg [oF 15 0 1 0,oL 16 10 15,oN 17 10 16,iu 18 .gtr 2 17 4096,oM 19 18,kM 20 0 1 1 19,ky 21 9 20 19,kT 22 9 21 19,jr 23 67 [.t 22,u9I 1,u9I 32] 19,j0 24 23 19,kX 25 19 24,oM 26 25,kM 27 0 1 2 26,ky 28 14 27 26,kT 29 14 28 26,iH 30 .gtr 2 29 64 26,kX 31 26 30,oM 32 31,kM 33 0 1 0 32,ky 34 10 33 32,jr 35 69 [.t 34,.f 70] 32,j0 36 35 32,kX 37 32 36],gp 37 (e9 [rg [iV 2 270],.ret]) .skip],rg [oO 38 (.mkmap 21),oA 3 38],e9 [rg [oF 39 0 1 0,oL 40 10 39,oN 41 10 40,oO 42 (.move (u9I 0))],.block 0 (.loop (e9 [rg [gS 43 .lss 2 42 41],gp 43 .skip (.exit 0),.block 1 (e9 [rg [oI 44 10 40 42,oL 45 20 44,jO 5 20,jL 20 5 45],e9 [rg [oF 46 20 5 1,oL 47 2 46,iu 48 .lss 2 47 0,oM 49 48,kM 50 20 5 2 49,ky 51 2 50 49,iH 52 .lss 2 51 0 49,kX 53 49 52],gp 53 (e9 [rg [iV 2 270],.ret]) .skip],rg [oM 54 3,oL 55 20 5,oE (.mapset 21 (.t 54) (.t 55) (u9B true))]]),rg [iu 56 .add 2 42 1,oM 42 56]]))],e9 [rg [oF 57 0 1 1,oL 58 9 57,oN 59 9 58,oO 60 (.move (u9I 0))],.block 2 (.loop (e9 [rg [gS 61 .lss 2 60 59],gp 61 .skip (.exit 2),.block 3 (e9 [rg [oI 62 9 58 60,oL 63 6 62,oA 7 63],rg [oM 64 7,oN 65 6 64,oF 66 0 1 0,oL 67 10 66,oN 68 10 67,gS 69 .neq 2 65 68,oM 70 69,u9G 71 (.move (.t 7)) 70,jr 72 71 [.t 71,.f 72] 70,kX 73 70 72],gp 73 (e9 [rg [iV 2 270],.ret]) .skip]),rg [iu 74 .add 2 60 1,oM 60 74]]))],e9 [rg [oF 75 0 1 2,oL 76 14 75,oN 77 14 76,oO 78 (.move (u9I 0))],.block 4 (.loop (e9 [rg [gS 79 .lss 2 78 77],gp 79 .skip (.exit 4),.block 5 (e9 [rg [oI 80 14 76 78,oL 81 15 80,jO 9 15,jL 15 9 81],e9 [.region true [] [oF 82 15 9 2,oL 83 6 82,oN 84 6 83,iu 85 .eql 2 84 0,oM 86 85,kM 87 15 9 3 86,ky 88 16 87 86,kT 89 16 88 86,jr 90 67 [.t 89,u9I 1,u9I 96] 86,j0 91 90 86,kX 92 86 91,oM 93 92,kM 94 15 9 2 93,ky 95 6 94 93,jr 96 73 [.t 95,.f 74] 93,j0 97 96 93,kX 98 93 97,oM 99 98,kM 100 15 9 2 99,ky 101 6 100 99,u9G 102 (.iaddr 6 (.t 101) (u9I 0)) 99,ky 103 2 102 99,iH 104 .lss 2 103 0 99,kX 105 99 104,oM 106 105,kM 107 15 9 2 106,ky 108 6 107 106,kM 109 15 9 2 106,ky 110 6 109 106,kT 111 6 110 106,iH 112 .sub 2 111 1 106,kS 113 6 108 112 106,ky 114 2 113 106,kM 115 0 1 1 106,ky 116 9 115 106,kT 117 9 116 106,iE 118 .geq 2 114 117 106,kX 119 106 118],gp 119 (e9 [rg [iV 2 270],.ret]) .skip],rg [oF 120 15 9 3,oL 121 16 120,oN 122 16 121,oO 123 (.move (u9I 0))],.block 6 (.loop (e9 [rg [gS 124 .lss 2 123 122],gp 124 .skip (.exit 6),.block 7 (e9 [rg [oI 125 16 121 123,oL 126 17 125,jO 11 17,jL 17 11 126],rg [iV 12 1048576],e9 [rg [oF 127 17 11 0,oL 128 2 127,oM 129 12,jb 130 67 [.t 128,u9I 0,.t 129],jQ 131 130,oM 132 131,kM 133 17 11 1 132,ky 134 2 133 132,u9G 135 (.move (.t 12)) 132,jr 136 67 [.t 134,u9I 0,.t 135] 132,j0 137 136 132,kX 138 132 137,oM 139 138,kM 140 17 11 2 139,ky 141 2 140 139,u9G 142 (.move (.t 12)) 139,jr 143 67 [.t 141,u9I 0,.t 142] 139,j0 144 143 139,kX 145 139 144,oM 146 145,kM 147 17 11 3 146,ky 148 18 147 146,jr 149 75 [.t 148,.f 76] 146,j0 150 149 146,kX 151 146 150],gp 151 (e9 [rg [iV 2 270],.ret]) .skip],rg [oF 152 17 11 3,oL 153 18 152,oN 154 18 153,oO 155 (.move (u9I 0))],.block 8 (.loop (e9 [rg [gS 156 .lss 2 155 154],gp 156 .skip (.exit 8),.block 9 (e9 [rg [oI 157 18 153 155,oL 158 19 157,jO 14 19,jL 19 14 158],rg [oM 159 3,oF 160 19 14 0,oL 161 20 160,oO 162 (.lookup 21 (.t 159) (.t 161) false),jQ 163 162,oM 164 163,kM 165 19 14 1 164,ky 166 2 165 164,jr 167 67 [.t 166,u9I 1,u9I 8] 164,j0 168 167 164,kX 169 164 168],gp 169 (e9 [rg [iV 2 270],.ret]) .skip]),rg [iu 170 .add 2 155 1,oM 155 170]]))]),rg [iu 171 .add 2 123 1,oM 123 171]]))]),rg [iu 172 .add 2 78 1,oM 78 172]]))],rg [iV 2 0],.ret]⟩
def f22:DFn := ⟨76,[.tmp 4,.tmp 5],
 e9 [rg [oO 2 (.box 0 (.t 0)),oO 4 (.assign (.c (.imm .exact []))),iV 5 0],e9 [rg [oL 13 0 2,oM 14 1,jb 15 83 [.t 13,.t 14],oA 5 15],rg [oM 16 5,iu 17 .neq 3 16 0],gp 17 (e9 [rg [oM 18 5,oO 4 (.assign (.c (.imm .exact []))),oA 5 18],.ret]) .skip],rg [jO 6 22],e9 [rg [oL 19 0 2,oM 20 1,jb 21 84 [.t 19,.t 20]],.block 0 (.rfunc (.t 21) [22,23] (rg [oA 8 23]) (.block 1 (rg [oO 24 (.iaddr 22 (.t 6) (u9I 0)),oL 25 2 24,oM 26 8,gS 27 .add 2 25 26,oO 28 (.iaddr 22 (.t 6) (u9I 0)),jL 2 28 27])))],e9 [rg [oM 29 1,oN 30 6 29,oO 31 (.move (u9I 0))],.block 2 (.loop (e9 [rg [gS 32 .lss 2 31 30],gp 32 .skip (.exit 2),.block 3 (e9 [rg [oM 33 31,oI 34 6 29 31,oL 35 2 34,oA 9 33,oA 10 35],.region true [(10,17),(14,17),(15,17)] [oF 36 0 2 2,oL 37 14 36,oM 38 9,oI 39 14 37 38,oF 40 15 39 3,oL 41 16 40,oM 42 10,oI 43 16 41 42,oL 44 17 43,oF 45 0 2 2,oL 46 14 45,oM 47 9,oI 48 14 46 47,oF 49 15 48 2,oL 50 6 49,oN 51 6 50,jO 11 17,jL 17 11 44,oA 12 51],rg [oO 52 (.iaddr 22 (.t 6) (u9I 1)),oL 53 2 52,oF 54 17 11 0,oL 55 2 54,oO 56 (.maxi [.t 53,.t 55]),oO 57 (.iaddr 22 (.t 6) (u9I 1)),jL 2 57 56],rg [oO 58 (.iaddr 22 (.t 6) (u9I 2)),oL 59 2 58,oF 60 17 11 1,oL 61 2 60,oM 62 12,gS 63 .mul 2 61 62,gS 64 .add 2 59 63,oO 65 (.iaddr 22 (.t 6) (u9I 2)),jL 2 65 64],rg [oO 66 (.iaddr 22 (.t 6) (u9I 3)),oL 67 2 66,oF 68 17 11 2,oL 69 2 68,oM 70 12,gS 71 .mul 2 69 70,gS 72 .add 2 67 71,oO 73 (.iaddr 22 (.t 6) (u9I 3)),jL 2 73 72]]),rg [iu 74 .add 2 31 1,oM 31 74]]))],rg [oO 75 (.slice 22 (.t 6) none none none),oA 4 75,iV 5 0],.ret]⟩
def f61:DFn := ⟨32,[.tmp 4],
 e9 [rg [oO 2 (.box 0 (.t 0)),iV 4 0],rg [iV 5 1],e9 [rg [iV 6 0],.block 0 (.loop (e9 [e9 [rg [oM 7 6,oF 8 0 2 2,oL 9 14 8,oN 10 14 9,gS 11 .lss 2 7 10,oM 12 11,⟨some 13,.move (.t 5),some (12,true)⟩,⟨some 14,.move (.t 1),some (12,true)⟩,⟨some 15,.bin .lss 2 (.t 13) (.t 14),some (12,true)⟩,kY 16 12 15],gp 16 .skip (.exit 0)],.block 1 (rg [oM 19 5,oF 20 0 2 2,oL 21 14 20,oM 22 6,oI 23 14 21 22,oF 24 15 23 3,oL 25 16 24,oN 26 16 25,oO 27 (.maxi [u9I 1,.t 26]),gS 28 .mul 2 19 27,oA 5 28]),rg [oM 17 6,iu 18 .add 2 17 1,oA 6 18]]))],rg [oM 29 5,oM 30 1,oO 31 (.mini [.t 29,.t 30]),oA 4 31],.ret]⟩
def f62:DFn := ⟨39,[.tmp 4],
 e9 [rg [oO 2 (.box 0 (.t 0)),iV 4 0],e9 [rg [oL 7 0 2,jb 8 15 [.t 7],oA 4 8],rg [oM 9 4,iu 10 .neq 3 9 0],gp 10 (e9 [rg [oM 11 4,oA 4 11],.ret]) .skip],e9 [rg [oM 12 1,oN 13 1 12,oF 14 0 2 2,oL 15 14 14,oN 16 14 15,gS 17 .gtr 2 13 16],gp 17 (e9 [rg [iV 4 280],.ret]) .skip],e9 [rg [oM 18 1,oN 19 1 18,oO 20 (.move (u9I 0))],.block 0 (.loop (e9 [rg [gS 21 .lss 2 20 19],gp 21 .skip (.exit 0),.block 1 (e9 [rg [oM 22 20,oI 23 1 18 20,oL 24 2 23,oA 5 22,oA 6 24],rg [oM 25 6,iu 26 .lss 2 25 0,oM 27 26,u9G 28 (.move (.t 6)) 27,kM 29 0 2 2 27,ky 30 14 29 27,u9G 31 (.move (.t 5)) 27,kS 32 14 30 31 27,kM 33 15 32 3 27,ky 34 16 33 27,kT 35 16 34 27,iE 36 .geq 2 28 35 27,kX 37 27 36],gp 37 (e9 [rg [iV 4 280],.ret]) .skip]),rg [iu 38 .add 2 20 1,oM 20 38]]))],rg [iV 4 0],.ret]⟩
def f63:DFn := ⟨6,[.tmp 4],
 e9 [rg [oO 2 (.box 0 (.t 0)),oO 3 (.box 1 (.t 1)),oO 4 (.assign (.c .nilfn))],rg [oO 5 (.mkfn 102 [.t 2,.t 3]),oA 4 5],.ret]⟩
def f66:DFn := ⟨38,[.tmp 4],
 e9 [rg [oO 2 (.box 0 (.t 0)),iV 4 0],e9 [rg [oL 8 0 2,jb 9 15 [.t 8],oA 5 9],rg [oM 10 5,iu 11 .neq 3 10 0],gp 11 (e9 [rg [oM 12 5,oA 4 12],.ret]) .skip],e9 [rg [oM 13 1,oN 14 6 13,oF 15 0 2 2,oL 16 14 15,oN 17 14 16,gS 18 .gtr 2 14 17],gp 18 (e9 [rg [iV 4 270],.ret]) .skip],e9 [rg [oM 19 1,oN 20 6 19,oO 21 (.move (u9I 0))],.block 0 (.loop (e9 [rg [gS 22 .lss 2 21 20],gp 22 .skip (.exit 0),.block 1 (e9 [rg [oM 23 21,oI 24 6 19 21,oL 25 2 24,oA 6 23,oA 7 25],rg [oM 26 7,oF 27 0 2 2,oL 28 14 27,oM 29 6,oI 30 14 28 29,oF 31 15 30 3,oL 32 16 31,oN 33 16 32,iu 34 .sub 2 33 1,jb 35 67 [.t 26,u9I 0,.t 34],jQ 36 35],gp 36 (e9 [rg [iV 4 270],.ret]) .skip]),rg [iu 37 .add 2 21 1,oM 21 37]]))],rg [iV 4 0],.ret]⟩
def f67:DFn := ⟨15,[.tmp 6],
 e9 [rg [oO 6 (.assign (u9B false))],rg [oM 7 1,oM 8 0,gS 9 .leq 2 7 8,oM 10 9,⟨some 11,.move (.t 0),some (10,true)⟩,⟨some 12,.move (.t 2),some (10,true)⟩,⟨some 13,.bin .leq 2 (.t 11) (.t 12),some (10,true)⟩,kY 14 10 13,oA 6 14],.ret]⟩
def f68:DFn := ⟨62,[.tmp 4],
 e9 [rg [oO 2 (.box 0 (.t 0)),oO 4 (.assign (.c (.imm .exact [])))],rg [oO 12 (.mkmap 26),jO 5 26,jL 26 5 12],e9 [rg [oF 13 0 2 0,oL 14 10 13,oN 15 10 14,oO 16 (.move (u9I 0))],.block 0 (.loop (e9 [rg [gS 17 .lss 2 16 15],gp 17 .skip (.exit 0),.block 1 (e9 [rg [oM 18 16,oI 19 10 14 16,oL 20 20 19,jO 7 20,oA 6 18,jL 20 7 20],rg [oL 21 26 5,oL 22 20 7,oM 23 6,oE (.mapset 26 (.t 21) (.t 22) (.t 23))]]),rg [iu 24 .add 2 16 1,oM 16 24]]))],rg [oF 25 0 2 1,oL 26 9 25,oN 27 9 26,oO 28 (.mkslice true 9 (.t 27) (.t 27)),jO 8 9,jL 9 8 28],e9 [rg [oL 29 9 8,oN 30 9 29,oO 31 (.move (u9I 0))],.block 2 (.loop (e9 [rg [gS 32 .lss 2 31 30],gp 32 .skip (.exit 2),.block 3 (e9 [rg [oM 33 31,oA 9 33],.region true [] [oL 34 9 8,oM 35 9,oF 36 0 2 0,oL 37 10 36,oN 38 10 37,oO 39 (.mkslice true 6 (.t 38) (.t 38)),oI 40 9 34 35,jL 6 40 39]]),rg [iu 41 .add 2 31 1,oM 31 41]]))],e9 [rg [oL 42 0 2,oM 43 1,jb 44 104 [.t 42,.t 43]],.block 4 (.rfunc (.t 44) [45,46] (e9 [rg [oA 10 45],rg [jO 11 19,jL 19 11 46]]) (.block 5 (.region true [] [oL 47 9 8,oM 48 10,oI 49 9 47 48,oL 50 6 49,oL 51 26 5,oF 52 19 11 0,oL 53 20 52,oO 54 (.lookup 26 (.t 51) (.t 53) false),oI 55 6 50 54,oL 56 2 55,oF 57 19 11 1,oL 58 2 57,gS 59 .add 2 56 58,oI 60 6 50 54,jL 2 60 59])))],rg [oL 61 9 8,oA 4 61],.ret]⟩
def f69:DFn := ⟨24,[.tmp 4],
 e9 [rg [oO 4 (.assign (u9B false))],e9 [rg [iV 5 1],.block 0 (.loop (e9 [e9 [rg [oM 6 5,oM 7 0,oN 8 10 7,gS 9 .lss 2 6 8],gp 9 .skip (.exit 0)],.block 1 (e9 [.region true [] [oM 12 1,oM 13 0,oM 14 5,iu 15 .sub 2 14 1,oI 16 10 13 15,oL 17 20 16,oM 18 0,oM 19 5,oI 20 10 18 19,oL 21 20 20,oO 22 (.call 0 (.t 12) [.t 17,.t 21]),iu 23 .geq 2 22 0],gp 23 (e9 [rg [oO 4 (.assign (u9B false))],.ret]) .skip]),rg [oM 10 5,iu 11 .add 2 10 1,oA 5 11]]))],rg [oO 4 (.assign (u9B true))],.ret]⟩
def f70:DFn := ⟨24,[.tmp 4],
 e9 [rg [oO 2 (.box 20 (.t 0)),oO 3 (.box 20 (.t 1)),iV 4 0],e9 [rg [oF 5 20 2 0,oL 6 7 5,oF 7 20 3 0,oL 8 7 7,gS 9 .neq 7 6 8],gp 9 (e9 [e9 [rg [oF 10 20 3 0,oL 11 7 10],gp 11 (e9 [rg [oO 4 (.assign (.c (.int .i64 (-1))))],.ret]) .skip],rg [iV 4 1],.ret]) .skip],.region true [] [oF 12 20 2 1,oL 13 2 12,oF 14 20 3 1,oL 15 2 14,jb 16 74 [.t 13,.t 15],oF 17 20 2 2,oL 18 2 17,oF 19 20 3 2,oL 20 2 19,jb 21 74 [.t 18,.t 20],oO 22 (.bslice false 6 2 [(0,.t 16),(1,.t 21)]),jb 23 105 [.t 22],oA 4 23],.ret]⟩
def f71:DFn := ⟨9,[.tmp 4],
 e9 [rg [oO 4 (.assign (u9B false))],rg [oM 5 0,oM 6 1,jb 7 106 [.t 5,.t 6],iu 8 .geq 2 7 0,oA 4 8],.ret]⟩
def f72:DFn := ⟨6,[.tmp 2],
 e9 [rg [oO 2 (.assign (u9B false))],rg [oM 3 0,jb 4 67 [.t 3,u9I 0,u9I 4096],jQ 5 4,oA 2 5],.ret]⟩
def f73:DFn := ⟨24,[.tmp 4],
 e9 [rg [oO 4 (.assign (u9B false))],e9 [rg [iV 5 1],.block 0 (.loop (e9 [e9 [rg [oM 6 5,oM 7 0,oN 8 6 7,gS 9 .lss 2 6 8],gp 9 .skip (.exit 0)],.block 1 (e9 [.region true [] [oM 12 1,oM 13 0,oM 14 5,iu 15 .sub 2 14 1,oI 16 6 13 15,oL 17 2 16,oM 18 0,oM 19 5,oI 20 6 18 19,oL 21 2 20,oO 22 (.call 0 (.t 12) [.t 17,.t 21]),iu 23 .geq 2 22 0],gp 23 (e9 [rg [oO 4 (.assign (u9B false))],.ret]) .skip]),rg [oM 10 5,iu 11 .add 2 10 1,oA 5 11]]))],rg [oO 4 (.assign (u9B true))],.ret]⟩
def f74:DFn := ⟨20,[.tmp 4],
 e9 [rg [iV 4 0],rg [oM 7 0,jb 8 107 [.t 7],oA 5 8],rg [oM 9 1,jb 10 107 [.t 9],oA 6 10],e9 [rg [oM 11 5],gp 11 (e9 [e9 [rg [oM 12 6],gp 12 (e9 [rg [iV 4 0],.ret]) .skip],rg [oO 4 (.assign (.c (.int .i64 (-1))))],.ret]) .skip],e9 [rg [oM 13 6],gp 13 (e9 [rg [iV 4 1],.ret]) .skip],e9 [rg [oM 14 0,oM 15 1,gS 16 .lss 2 14 15],gp 16 (e9 [rg [oO 4 (.assign (.c (.int .i64 (-1))))],.ret]) .skip],e9 [rg [oM 17 0,oM 18 1,gS 19 .gtr 2 17 18],gp 19 (e9 [rg [iV 4 1],.ret]) .skip],rg [iV 4 0],.ret]⟩
def f75:DFn := ⟨24,[.tmp 4],
 e9 [rg [oO 4 (.assign (u9B false))],e9 [rg [iV 5 1],.block 0 (.loop (e9 [e9 [rg [oM 6 5,oM 7 0,oN 8 18 7,gS 9 .lss 2 6 8],gp 9 .skip (.exit 0)],.block 1 (e9 [.region true [] [oM 12 1,oM 13 0,oM 14 5,iu 15 .sub 2 14 1,oI 16 18 13 15,oL 17 19 16,oM 18 0,oM 19 5,oI 20 18 18 19,oL 21 19 20,oO 22 (.call 0 (.t 12) [.t 17,.t 21]),iu 23 .geq 2 22 0],gp 23 (e9 [rg [oO 4 (.assign (u9B false))],.ret]) .skip]),rg [oM 10 5,iu 11 .add 2 10 1,oA 5 11]]))],rg [oO 4 (.assign (u9B true))],.ret]⟩
def f76:DFn := ⟨10,[.tmp 4],
 e9 [rg [oO 2 (.box 19 (.t 0)),oO 3 (.box 19 (.t 1)),iV 4 0],rg [oF 5 19 2 0,oL 6 20 5,oF 7 19 3 0,oL 8 20 7,jb 9 70 [.t 6,.t 8],oA 4 9],.ret]⟩
def f83:DFn := ⟨18,[.tmp 4],
 e9 [rg [oO 2 (.box 0 (.t 0)),iV 4 0],e9 [rg [oL 6 0 2,oM 7 1,jb 8 66 [.t 6,.t 7],oA 5 8],rg [oM 9 5,iu 10 .neq 3 9 0],gp 10 (e9 [rg [oM 11 5,oA 4 11],.ret]) .skip],e9 [rg [oM 12 1,oN 13 6 12,oF 14 0 2 2,oL 15 14 14,oN 16 14 15,gS 17 .neq 2 13 16],gp 17 (e9 [rg [iV 4 270],.ret]) .skip],rg [iV 4 0],.ret]⟩
def f84:DFn := ⟨6,[.tmp 4],
 e9 [rg [oO 2 (.box 0 (.t 0)),oO 3 (.box 6 (.t 1)),oO 4 (.assign (.c .nilfn))],rg [oO 5 (.mkfn 110 [.t 2,.t 3]),oA 4 5],.ret]⟩
def f87:DFn := ⟨36,[.tmp 4],
 e9 [rg [iV 4 0],e9 [rg [oM 9 0,oN 10 6 9,oO 11 (.move (u9I 0))],.block 0 (.loop (e9 [rg [gS 12 .lss 2 11 10],gp 12 .skip (.exit 0),.block 1 (e9 [rg [oM 13 11,oI 14 6 9 11,oL 15 2 14,oA 5 13,oA 6 15],e9 [rg [oM 16 5,oM 17 1,oN 18 6 17,gS 19 .geq 2 16 18],gp 19 (e9 [rg [iV 4 1],.ret]) .skip],rg [oM 20 1,oM 21 5,oI 22 6 20 21,oL 23 2 22,oA 7 23],rg [oM 24 6,oM 25 7,jb 26 74 [.t 24,.t 25],oA 8 26],rg [oM 27 8,iu 28 .neq 2 27 0],gp 28 (e9 [rg [oM 29 8,oA 4 29],.ret]) .skip]),rg [iu 30 .add 2 11 1,oM 11 30]]))],e9 [rg [oM 31 0,oN 32 6 31,oM 33 1,oN 34 6 33,gS 35 .lss 2 32 34],gp 35 (e9 [rg [oO 4 (.assign (.c (.int .i64 (-1))))],.ret]) .skip],rg [iV 4 0],.ret]⟩
def f94:DFn := ⟨9,[.tmp 4],
 e9 [rg [oO 4 (.assign (u9B false))],rg [oM 5 0,oM 6 1,jb 7 113 [.t 5,.t 6],iu 8 .geq 2 7 0,oA 4 8],.ret]⟩
def f96:DFn := ⟨8,[.tmp 2],
 e9 [rg [oO 2 (.assign (.c (.imm .exact [])))],rg [oO 5 (.bslice false 6 0 []),oM 6 0,oO 7 (.append 1 6 6 (.t 5) (.t 6)),oA 2 7],.ret]⟩
def f102:DFn := ⟨43,[],
 e9 [rg [oF 7 0 1 2,oL 8 14 7,oN 9 14 8,oO 10 (.move (u9I 0))],.block 0 (.loop (e9 [rg [gS 11 .lss 2 10 9],gp 11 .skip (.exit 0),.block 1 (e9 [rg [oM 12 10,oI 13 14 8 10,oL 14 15 13,jO 5 15,oA 4 12,jL 15 5 14],.region true [] [oF 15 15 5 3,oL 16 16 15,oO 17 (.iaddr 16 (.t 16) (u9I 0)),oL 18 17 17,oF 19 15 5 3,oL 20 16 19,oO 21 (.slice 16 (.t 20) (some (u9I 1)) none none),jb 22 122 [.t 18,.t 21],jO 6 17,jL 17 6 22],e9 [rg [oM 23 4,oL 24 1 2,oN 25 1 24,gS 26 .lss 2 23 25],gp 26 (.region true [] [oF 27 15 5 3,oL 28 16 27,oL 29 1 2,oM 30 4,oI 31 1 29 30,oL 32 2 31,oI 33 16 28 32,oL 34 17 33,jL 17 6 34]) .skip],rg [oM 35 0,oF 36 15 5 2,oL 37 6 36,oN 38 6 37,oL 39 17 6,oO 40 (.call 2 (.t 35) [.t 38,.t 39]),jQ 41 40],gp 41 .ret .skip]),rg [iu 42 .add 2 10 1,oM 10 42]]))]⟩
def f104:DFn := ⟨6,[.tmp 4],
 e9 [rg [oO 2 (.box 0 (.t 0)),oO 3 (.box 6 (.t 1)),oO 4 (.assign (.c .nilfn))],rg [oO 5 (.mkfn 123 [.t 3,.t 2]),oA 4 5],.ret]⟩
def f105:DFn := ⟨18,[.tmp 2],
 e9 [rg [iV 2 0],rg [iV 3 0],e9 [rg [oM 6 0,oN 7 6 6,oO 8 (.move (u9I 0))],.block 0 (.loop (e9 [rg [gS 9 .lss 2 8 7],gp 9 .skip (.exit 0),.block 1 (e9 [rg [oI 10 6 6 8,oL 11 2 10,oA 5 11],rg [oM 12 5,oM 13 3,gS 14 .neq 2 12 13],gp 14 (e9 [rg [oM 15 5,oA 2 15],.ret]) .skip]),rg [iu 16 .add 2 8 1,oM 8 16]]))],rg [oM 17 3,oA 2 17],.ret]⟩
def f106:DFn := ⟨19,[.tmp 4],
 e9 [rg [iV 4 0],e9 [rg [oM 6 0,oN 7 6 6,oO 8 (.move (u9I 0))],.block 0 (.loop (e9 [rg [gS 9 .lss 2 8 7],gp 9 .skip (.exit 0),.block 1 (e9 [rg [oM 10 8,oA 5 10],rg [oM 11 1,oM 12 0,oM 13 5,oI 14 6 12 13,oL 15 2 14,oO 16 (.call 0 (.t 11) [.t 15])],gp 16 (e9 [rg [oM 17 5,oA 4 17],.ret]) .skip]),rg [iu 18 .add 2 8 1,oM 8 18]]))],rg [oO 4 (.assign (.c (.int .i64 (-1))))],.ret]⟩
def f107:DFn := ⟨6,[.tmp 2],
 e9 [rg [oO 2 (.assign (u9B false))],rg [oM 3 0,oM 4 0,gS 5 .neq 2 3 4,oA 2 5],.ret]⟩
def f110:DFn := ⟨48,[],
 e9 [rg [oL 9 0 1,oL 10 6 2,jb 11 68 [.t 9,.t 10],oN 12 9 11,oO 13 (.move (u9I 0))],.block 0 (.loop (e9 [rg [gS 14 .lss 2 13 12],gp 14 .skip (.exit 0),.block 1 (e9 [rg [oM 15 13,oI 16 9 11 13,oL 17 6 16,oA 4 15,oA 5 17],rg [oM 18 5,oN 19 6 18,oO 20 (.move (u9I 0))],.block 2 (.loop (e9 [rg [gS 21 .lss 2 20 19],gp 21 .skip (.exit 2),.block 3 (e9 [rg [oM 22 20,oI 23 6 18 20,oL 24 2 23,oA 6 22,oA 7 24],rg [oM 25 7,oF 26 0 1 1,oL 27 9 26,oM 28 4,oI 29 9 27 28,oL 30 6 29,oM 31 6,oI 32 6 30 31,oL 33 2 32,gS 34 .sub 2 25 33,oA 8 34],rg [oM 35 8,iu 36 .gtr 2 35 0,oM 37 36,⟨some 38,.move (.t 0),some (37,true)⟩,⟨some 39,.move (.t 4),some (37,true)⟩,⟨some 40,.move (.t 6),some (37,true)⟩,⟨some 41,.build 11 [(0,.t 39),(1,.t 40)],some (37,true)⟩,⟨some 42,.move (.t 8),some (37,true)⟩,⟨some 43,.call 2 (.t 38) [.t 41,.t 42],some (37,true)⟩,⟨some 44,.un .not (.t 43),some (37,true)⟩,kY 45 37 44],gp 45 .ret .skip]),rg [iu 46 .add 2 20 1,oM 20 46]]))]),rg [iu 47 .add 2 13 1,oM 13 47]]))]⟩
def f113:DFn := ⟨19,[.tmp 4],
 e9 [rg [iV 4 0],e9 [rg [oM 6 0,oN 7 9 6,oO 8 (.move (u9I 0))],.block 0 (.loop (e9 [rg [gS 9 .lss 2 8 7],gp 9 .skip (.exit 0),.block 1 (e9 [rg [oM 10 8,oA 5 10],rg [oM 11 1,oM 12 0,oM 13 5,oI 14 9 12 13,oL 15 6 14,oO 16 (.call 0 (.t 11) [.t 15])],gp 16 (e9 [rg [oM 17 5,oA 4 17],.ret]) .skip]),rg [iu 18 .add 2 8 1,oM 8 18]]))],rg [oO 4 (.assign (.c (.int .i64 (-1))))],.ret]⟩
def f122:DFn := ⟨33,[.cell 4 17],
 e9 [rg [oO 2 (.box 17 (.t 0)),jO 4 17],e9 [rg [oM 7 1,oN 8 16 7,oO 9 (.move (u9I 0))],.block 0 (.loop (e9 [rg [gS 10 .lss 2 9 8],gp 10 .skip (.exit 0),.block 1 (e9 [rg [oI 11 16 7 9,oL 12 17 11,jO 6 17,jL 17 6 12],rg [oF 13 17 2 0,oL 14 2 13,oF 15 17 6 0,oL 16 2 15,oO 17 (.mini [.t 14,.t 16]),oF 18 17 2 0,jL 2 18 17],rg [oF 19 17 2 1,oL 20 2 19,oF 21 17 6 1,oL 22 2 21,oO 23 (.mini [.t 20,.t 22]),oF 24 17 2 1,jL 2 24 23],rg [oF 25 17 2 2,oL 26 2 25,oF 27 17 6 2,oL 28 2 27,oO 29 (.mini [.t 26,.t 28]),oF 30 17 2 2,jL 2 30 29]]),rg [iu 31 .add 2 9 1,oM 9 31]]))],rg [oL 32 17 2,jL 17 4 32],.ret]⟩
def f123:DFn := ⟨51,[],
 e9 [rg [oL 10 6 1,oN 11 6 10,oO 12 (.move (u9I 0))],.block 0 (.loop (e9 [rg [gS 13 .lss 2 12 11],gp 13 .skip (.exit 0),.block 1 (e9 [rg [oM 14 12,oI 15 6 10 12,oL 16 2 15,oA 4 14,oA 5 16],rg [oF 17 0 2 2,oL 18 14 17,oM 19 4,oI 20 14 18 19,oF 21 15 20 2,oL 22 6 21,oN 23 6 22,oO 24 (.move (u9I 0))],.block 2 (.loop (e9 [rg [gS 25 .lss 2 24 23],gp 25 .skip (.exit 2),.block 3 (e9 [rg [oI 26 6 22 24,oL 27 2 26,oA 7 27],rg [oF 28 0 2 2,oL 29 14 28,oM 30 4,oI 31 14 29 30,oF 32 15 31 3,oL 33 16 32,oM 34 5,oI 35 16 33 34,oF 36 17 35 3,oL 37 18 36,oN 38 18 37,oO 39 (.move (u9I 0))],.block 4 (.loop (e9 [rg [gS 40 .lss 2 39 38],gp 40 .skip (.exit 4),.block 5 (e9 [rg [oI 41 18 37 39,oL 42 19 41,jO 9 19,jL 19 9 42],rg [oM 43 0,oM 44 7,oL 45 19 9,oO 46 (.call 2 (.t 43) [.t 44,.t 45]),jQ 47 46],gp 47 .ret .skip]),rg [iu 48 .add 2 39 1,oM 39 48]]))]),rg [iu 49 .add 2 24 1,oM 24 49]]))]),rg [iu 50 .add 2 12 1,oM 12 50]]))]⟩
def f129:DFn := ⟨10,[.tmp 2],
 e9 [rg [oO 1 (.box 0 (.t 0)),oO 2 (.assign (u9B false))],rg [oL 3 0 1,jb 4 2 [.t 3],oM 5 4,⟨some 6,.load 0 (.t 1),some (5,true)⟩,⟨some 7,.call 0 (.f 61) [.t 6,u9I 400],some (5,true)⟩,⟨some 8,.bin .leq 2 (.t 7) (u9I 300),some (5,true)⟩,kY 9 5 8,oA 2 9],.ret]⟩
def f131:DFn := ⟨21,[.cell 2 29,.tmp 3],
 e9 [rg [oO 1 (.box 0 (.t 0)),jO 2 29,iV 3 0],rg [oL 6 0 1,jb 7 139 [.t 6],oM 5 7,jI 8 5 0,jI 9 5 1,jO 4 28,jL 28 4 8,oA 3 9],e9 [rg [oM 10 3,iu 11 .neq 3 10 0],gp 11 (e9 [rg [oL 12 29 2,oM 13 3,jL 29 2 12,oA 3 13],.ret]) .skip],.region true [] [oL 14 0 1,oL 15 0 1,oL 16 28 4,jb 17 150 [.t 15,.t 16,.f 151],jb 18 133 [.t 14,.t 17],jI 19 18 0,jI 20 18 1,jL 29 2 19,oA 3 20],.ret]⟩
def f133:DFn := ⟨31,[.cell 4 29,.tmp 5],
 e9 [rg [oO 2 (.box 0 (.t 0)),oO 3 (.box 28 (.t 1)),jO 4 29,iV 5 0],e9 [rg [oL 7 0 2,oL 8 28 3,jb 9 142 [.t 7,.t 8],oA 6 9],rg [oM 10 6,iu 11 .neq 3 10 0],gp 11 (e9 [rg [oL 12 29 4,oM 13 6,jL 29 4 12,oA 5 13],.ret]) .skip],e9 [rg [oL 14 28 3,jb 15 140 [.t 14],jQ 16 15,oM 17 16,kM 18 28 3 2 17,ky 19 6 18 17,kT 20 6 19 17,iH 21 .eql 2 20 0 17,kX 22 17 21],gp 22 (e9 [rg [oL 23 29 4,jL 29 4 23,iV 5 300],.ret]) .skip],rg [oF 24 28 3 1,oL 25 6 24,oF 26 28 3 2,oL 27 6 26,oF 28 28 3 3,oL 29 31 28,oO 30 (.build 29 [(0,.t 25),(1,.t 27),(2,.t 29)]),jL 29 4 30,iV 5 0],.ret]⟩
def f139:DFn := ⟨14,[.cell 2 28,.tmp 3],
 e9 [rg [oO 1 (.box 0 (.t 0)),jO 2 28,iV 3 0],e9 [rg [oL 5 0 1,jb 6 15 [.t 5],oA 4 6],rg [oM 7 4,iu 8 .neq 3 7 0],gp 8 (e9 [rg [oL 9 28 2,oM 10 4,jL 28 2 9,oA 3 10],.ret]) .skip],rg [oO 11 (.bslice false 1 0 []),oO 12 (.bslice false 4 1 [(0,.t 11)]),oO 13 (.build 28 [(0,.t 12)]),jL 28 2 13,iV 3 0],.ret]⟩
def f140:DFn := ⟨7,[.tmp 2],
 e9 [rg [oO 1 (.box 28 (.t 0)),oO 2 (.assign (u9B false))],rg [oF 3 28 1 0,oL 4 4 3,oN 5 4 4,iu 6 .eql 2 5 0,oA 2 6],.ret]⟩
def f142:DFn := ⟨51,[.tmp 4],
 e9 [rg [oO 2 (.box 0 (.t 0)),oO 3 (.box 28 (.t 1)),iV 4 0],e9 [rg [oL 9 0 2,jb 10 15 [.t 9],oA 5 10],rg [oM 11 5,iu 12 .neq 3 11 0],gp 12 (e9 [rg [oM 13 5,oA 4 13],.ret]) .skip],rg [oO 14 (.mkfn 157 [.t 2]),jO 6 33,jL 33 6 14],e9 [rg [oF 15 28 3 0,oL 16 4 15,oO 17 (.mkfn 158 [.t 2]),oO 18 (.call 3 (.f 159) [.t 16,.t 17]),oM 19 18,kM 20 28 3 3 19,ky 21 31 20 19,u9G 22 (.mkfn 160 [.t 6]) 19,u9G 23 (.call 3 (.f 161) [.t 21,.t 22]) 19,kX 24 19 23],gp 24 (e9 [rg [iV 4 300],.ret]) .skip],e9 [rg [oF 25 28 3 2,oL 26 6 25,oN 27 6 26,iu 28 .eql 2 27 0,oM 29 28,⟨some 30,.faddr 28 (.t 3) 1,some (29,true)⟩,⟨some 31,.load 6 (.t 30),some (29,true)⟩,⟨some 32,.len 6 (.t 31),some (29,true)⟩,⟨some 33,.bin .eql 2 (.t 32) (u9I 0),some (29,true)⟩,kY 34 29 33],gp 34 (e9 [rg [iV 4 0],.ret]) .skip],e9 [rg [oL 36 0 2,oF 37 28 3 1,oL 38 6 37,jb 39 22 [.t 36,.t 38],oM 35 39,jI 40 35 0,jI 41 35 1,oA 7 40,oA 8 41],rg [oM 42 8,iu 43 .neq 3 42 0,oM 44 43,u9G 45 (.move (.t 7)) 44,kM 46 28 3 2 44,ky 47 6 46 44,jr 48 162 [.t 45,.t 47] 44,j0 49 48 44,kX 50 44 49],gp 50 (e9 [rg [iV 4 300],.ret]) .skip],rg [iV 4 0],.ret]⟩
def f150:DFn := ⟨103,[.cell 6 28],
 e9 [rg [oO 3 (.box 0 (.t 0)),oO 4 (.box 28 (.t 1)),jO 6 28],rg [oF 17 28 4 0,oL 18 4 17,jb 19 165 [.t 18],jO 7 35,jL 35 7 19],rg [oF 20 28 4 3,oL 21 31 20,jb 22 166 [.t 21],oF 23 28 4 3,jL 31 23 22],rg [oO 24 (.mkfn 167 [.t 4]),oA 8 24],.block 0 (.loop (e9 [e9 [rg [oL 25 35 7,oN 26 35 25,iu 27 .gtr 2 26 0,oM 28 27,⟨some 29,.move (.t 2),some (28,true)⟩,⟨some 30,.call 2 (.t 29) [],some (28,true)⟩,kY 31 28 30],gp 31 .skip (.exit 0)],.block 1 (e9 [rg [oO 9 (.assign (.c (.imm .exact [])))],rg [oL 33 35 7,jb 34 168 [.t 33],oM 32 34,jI 35 32 0,jI 36 32 1,oA 9 35,jL 35 7 36],e9 [rg [oM 37 9,oN 38 1 37,oF 39 0 3 2,oL 40 14 39,oN 41 14 40,gS 42 .eql 2 38 41],gp 42 (e9 [rg [oL 44 0 3,oM 45 9,jb 46 22 [.t 44,.t 45],oM 43 46,jI 47 43 0,jI 48 43 1,oA 10 47,oA 11 48],e9 [rg [oF 49 28 4 2,oL 50 6 49,oN 51 6 50,iu 52 .eql 2 51 0,oM 53 52,u9G 54 (.move (.t 10)) 53,kM 55 28 4 2 53,ky 56 6 55 53,jr 57 87 [.t 54,.t 56] 53,iH 58 .lss 2 57 0 53,kX 59 53 58],gp 59 (rg [oM 60 9,oM 61 10,oF 62 28 4 1,jL 6 62 60,oF 63 28 4 2,jL 6 63 61]) .skip],rg [oM 64 8,oM 65 9,oO 66 (.call 2 (.t 64) [.t 65,u9I 1])],.exit 1]) .skip],e9 [rg [oL 68 0 3,oM 69 9,jb 70 3 [.t 68,.t 69],oM 67 70,jI 71 67 0,jI 72 67 1,oA 12 71,oA 13 72],rg [oF 73 28 4 2,oL 74 6 73,oN 75 6 74,iu 76 .gtr 2 75 0,oM 77 76,⟨some 78,.move (.t 12),some (77,true)⟩,⟨some 79,.faddr 28 (.t 4) 2,some (77,true)⟩,⟨some 80,.load 6 (.t 79),some (77,true)⟩,⟨some 81,.call 0 (.f 87) [.t 78,.t 80],some (77,true)⟩,⟨some 82,.bin .geq 2 (.t 81) (u9I 0),some (77,true)⟩,kY 83 77 82],gp 83 (e9 [rg [oM 84 8,oM 85 9,oO 86 (.call 2 (.t 84) [.t 85,u9I 2])],.exit 1]) .skip],rg [oL 88 0 3,oM 89 9,jb 90 7 [.t 88,.t 89],oM 87 90,jI 91 87 0,jI 92 87 1,oA 14 91,oA 15 92],rg [oM 93 14,jb 94 169 [.t 93]],.block 2 (.rfunc (.t 94) [95] (rg [oA 16 95]) (.block 3 (rg [oL 96 35 7,oM 97 16,oO 98 (.bslice false 35 1 [(0,.t 97)]),oO 99 (.append 0 35 35 (.t 96) (.t 98)),jL 35 7 99])))])])),rg [oL 100 35 7,oF 101 28 4 0,jL 4 101 100],rg [oL 102 28 4,jL 28 6 102],.ret]⟩
def f151:DFn := ⟨1,[.tmp 0],
 e9 [rg [oO 0 (.assign (u9B false))],rg [oO 0 (.assign (u9B true))],.ret]⟩
def f157:DFn := ⟨35,[.tmp 3],
 e9 [rg [oO 2 (.box 32 (.t 0)),oO 3 (.assign (u9B false))],rg [oF 5 32 2 1,oL 6 2 5,iu 7 .eql 2 6 1,oM 8 7,⟨some 9,.faddr 32 (.t 2) 0,some (8,true)⟩,⟨some 10,.load 1 (.t 9),some (8,true)⟩,⟨some 11,.len 1 (.t 10),some (8,true)⟩,⟨some 12,.faddr 0 (.t 1) 2,some (8,true)⟩,⟨some 13,.load 14 (.t 12),some (8,true)⟩,⟨some 14,.len 14 (.t 13),some (8,true)⟩,⟨some 15,.bin .eql 2 (.t 11) (.t 14),some (8,true)⟩,kY 16 8 15,oA 4 16],rg [oL 17 0 1,oF 18 32 2 0,oL 19 1 18,jb 20 172 [.t 17,.t 19],oM 21 20,⟨some 22,.faddr 32 (.t 2) 2,some (21,true)⟩,⟨some 23,.load 9 (.t 22),some (21,true)⟩,⟨some 24,.len 9 (.t 23),some (21,true)⟩,⟨some 25,.bin .eql 2 (.t 24) (u9I 0),some (21,true)⟩,kY 26 21 25,oM 27 26,⟨some 28,.move (.t 4),some (27,true)⟩,⟨some 29,.move (.t 28),some (27,true)⟩,kM 30 32 2 1 29,ky 31 2 30 29,iH 32 .eql 2 31 2 29,⟨some 33,.pick (.t 29) (u9B true) (.t 32),some (27,true)⟩,kY 34 27 33,oA 3 34],.ret]⟩
def f158:DFn := ⟨8,[.tmp 3],
 e9 [rg [oO 3 (.assign (u9B false))],rg [oL 4 0 1,oM 5 0,jb 6 172 [.t 4,.t 5],jQ 7 6,oA 3 7],.ret]⟩
def f159:DFn := ⟨9,[.tmp 4],
 e9 [rg [oO 4 (.assign (u9B false))],rg [oM 5 0,oM 6 1,jb 7 173 [.t 5,.t 6],iu 8 .geq 2 7 0,oA 4 8],.ret]⟩
def f160:DFn := ⟨8,[.tmp 3],
 e9 [rg [oO 2 (.box 32 (.t 0)),oO 3 (.assign (u9B false))],rg [oL 4 33 1,oL 5 32 2,oO 6 (.call 0 (.t 4) [.t 5]),jQ 7 6,oA 3 7],.ret]⟩
def f161:DFn := ⟨9,[.tmp 4],
 e9 [rg [oO 4 (.assign (u9B false))],rg [oM 5 0,oM 6 1,jb 7 174 [.t 5,.t 6],iu 8 .geq 2 7 0,oA 4 8],.ret]⟩
def f162:DFn := ⟨26,[.tmp 4],
 e9 [rg [oO 4 (.assign (u9B false))],e9 [rg [oM 6 0,oN 7 6 6,oM 8 1,oN 9 6 8,gS 10 .neq 2 7 9],gp 10 (e9 [rg [oO 4 (.assign (u9B false))],.ret]) .skip],e9 [rg [oM 11 0,oN 12 6 11,oO 13 (.move (u9I 0))],.block 0 (.loop (e9 [rg [gS 14 .lss 2 13 12],gp 14 .skip (.exit 0),.block 1 (e9 [rg [oM 15 13,oA 5 15],.region true [] [oM 16 0,oM 17 5,oI 18 6 16 17,oL 19 2 18,oM 20 1,oM 21 5,oI 22 6 20 21,oL 23 2 22,gS 24 .neq 2 19 23],gp 24 (e9 [rg [oO 4 (.assign (u9B false))],.ret]) .skip]),rg [iu 25 .add 2 13 1,oM 13 25]]))],rg [oO 4 (.assign (u9B true))],.ret]⟩
def f165:DFn := ⟨8,[.tmp 2],
 e9 [rg [oO 2 (.assign (.c (.imm .exact [])))],rg [oO 5 (.bslice false 4 0 []),oM 6 0,oO 7 (.append 1 4 4 (.t 5) (.t 6)),oA 2 7],.ret]⟩
def f166:DFn := ⟨9,[.tmp 2],
 e9 [rg [oO 2 (.assign (.c (.imm .exact [])))],rg [oM 3 0,oM 4 0,oN 5 31 4,oM 6 0,oN 7 31 6,oO 8 (.slice 31 (.t 3) none (some (.t 5)) (some (.t 7))),oA 2 8],.ret]⟩
def f167:DFn := ⟨13,[],
 .region false [] [oF 5 28 2 3,oL 6 31 5,oM 7 0,oM 8 1,oO 9 (.build 32 [(0,.t 7),(1,.t 8)]),oO 10 (.bslice false 31 1 [(0,.t 9)]),oO 11 (.append 0 31 31 (.t 6) (.t 10)),oF 12 28 2 3,jL 31 12 11]⟩
def f168:DFn := ⟨16,[.tmp 2,.tmp 3],
 e9 [rg [oO 2 (.assign (.c (.imm .exact []))),oO 3 (.assign (.c (.imm .exact [])))],rg [oM 5 0,oN 6 35 5,iu 7 .sub 2 6 1,oA 4 7],.region true [] [oM 8 0,oM 9 4,oI 10 35 8 9,oL 11 1 10,oM 12 0,oM 13 4,oO 14 (.slice 35 (.t 12) none (some (.t 13)) none),jb 15 175 [.t 14],oA 2 11,oA 3 15],.ret]⟩
def f169:DFn := ⟨4,[.tmp 2],
 e9 [rg [oO 1 (.box 4 (.t 0)),oO 2 (.assign (.c .nilfn))],rg [oO 3 (.mkfn 176 [.t 1]),oA 2 3],.ret]⟩
def f172:DFn := ⟨34,[.tmp 4],
 e9 [rg [oO 2 (.box 0 (.t 0)),oO 4 (.assign (u9B false))],e9 [rg [oM 7 1,oN 8 1 7,oF 9 0 2 2,oL 10 14 9,oN 11 14 10,gS 12 .gtr 2 8 11],gp 12 (e9 [rg [oO 4 (.assign (u9B false))],.ret]) .skip],e9 [rg [oM 13 1,oN 14 1 13,oO 15 (.move (u9I 0))],.block 0 (.loop (e9 [rg [gS 16 .lss 2 15 14],gp 16 .skip (.exit 0),.block 1 (e9 [rg [oM 17 15,oI 18 1 13 15,oL 19 2 18,oA 5 17,oA 6 19],rg [oM 20 6,iu 21 .lss 2 20 0,oM 22 21,u9G 23 (.move (.t 6)) 22,kM 24 0 2 2 22,ky 25 14 24 22,u9G 26 (.move (.t 5)) 22,kS 27 14 25 26 22,kM 28 15 27 3 22,ky 29 16 28 22,kT 30 16 29 22,iE 31 .geq 2 23 30 22,kX 32 22 31],gp 32 (e9 [rg [oO 4 (.assign (u9B false))],.ret]) .skip]),rg [iu 33 .add 2 15 1,oM 15 33]]))],rg [oO 4 (.assign (u9B true))],.ret]⟩
def f173:DFn := ⟨19,[.tmp 4],
 e9 [rg [iV 4 0],e9 [rg [oM 6 0,oN 7 4 6,oO 8 (.move (u9I 0))],.block 0 (.loop (e9 [rg [gS 9 .lss 2 8 7],gp 9 .skip (.exit 0),.block 1 (e9 [rg [oM 10 8,oA 5 10],rg [oM 11 1,oM 12 0,oM 13 5,oI 14 4 12 13,oL 15 1 14,oO 16 (.call 0 (.t 11) [.t 15])],gp 16 (e9 [rg [oM 17 5,oA 4 17],.ret]) .skip]),rg [iu 18 .add 2 8 1,oM 8 18]]))],rg [oO 4 (.assign (.c (.int .i64 (-1))))],.ret]⟩
def f174:DFn := ⟨19,[.tmp 4],
 e9 [rg [iV 4 0],e9 [rg [oM 6 0,oN 7 31 6,oO 8 (.move (u9I 0))],.block 0 (.loop (e9 [rg [gS 9 .lss 2 8 7],gp 9 .skip (.exit 0),.block 1 (e9 [rg [oM 10 8,oA 5 10],rg [oM 11 1,oM 12 0,oM 13 5,oI 14 31 12 13,oL 15 32 14,oO 16 (.call 0 (.t 11) [.t 15])],gp 16 (e9 [rg [oM 17 5,oA 4 17],.ret]) .skip]),rg [iu 18 .add 2 8 1,oM 8 18]]))],rg [oO 4 (.assign (.c (.int .i64 (-1))))],.ret]⟩
def f175:DFn := ⟨9,[.tmp 2],
 e9 [rg [oO 2 (.assign (.c (.imm .exact [])))],rg [oM 3 0,oM 4 0,oN 5 35 4,oM 6 0,oN 7 35 6,oO 8 (.slice 35 (.t 3) none (some (.t 5)) (some (.t 7))),oA 2 8],.ret]⟩
def f176:DFn := ⟨18,[],
 e9 [rg [oL 4 4 1,oN 5 4 4,iu 6 .sub 2 5 1,oA 3 6],.block 0 (.loop (e9 [e9 [rg [oM 7 3,iu 8 .geq 2 7 0],gp 8 .skip (.exit 0)],.block 1 (e9 [rg [oM 11 0,oL 12 4 1,oM 13 3,oI 14 4 12 13,oL 15 1 14,oO 16 (.call 2 (.t 11) [.t 15]),jQ 17 16],gp 17 .ret .skip]),rg [oM 9 3,iu 10 .sub 2 9 1,oA 3 10]]))]⟩
def f179:DFn := ⟨44,[.tmp 4],
 e9 [rg [oO 2 (.box 0 (.t 0)),oO 4 (.assign (u9B false))],e9 [rg [iV 5 0],.block 0 (.loop (e9 [e9 [rg [oM 7 5,oM 8 1,oN 9 38 8,gS 10 .lss 2 7 9],gp 10 .skip (.exit 0)],.block 1 (e9 [rg [iV 6 0],.block 2 (.loop (e9 [e9 [rg [oM 13 6,oM 14 1,oM 15 5,oI 16 38 14 15,oF 17 39 16 1,oL 18 9 17,oN 19 9 18,gS 20 .lss 2 13 19],gp 20 .skip (.exit 2)],.block 3 (e9 [rg [oM 23 6,iu 24 .geq 2 23 8,oM 25 24,u9G 26 (.move (.t 1)) 25,u9G 27 (.move (.t 5)) 25,kS 28 38 26 27 25,kM 29 39 28 1 25,ky 30 9 29 25,u9G 31 (.move (.t 6)) 25,kS 32 9 30 31 25,ky 33 6 32 25,kT 34 6 33 25,iH 35 .gtr 2 34 20 25,kX 36 25 35],gp 36 (e9 [rg [oO 4 (.assign (u9B false))],.ret]) .skip]),rg [oM 21 6,iu 22 .add 2 21 1,oA 6 22]]))]),rg [oM 11 5,iu 12 .add 2 11 1,oA 5 12]]))],rg [oL 37 0 2,jb 38 129 [.t 37],oM 39 38,⟨some 40,.move (.t 1),some (39,true)⟩,⟨some 41,.len 38 (.t 40),some (39,true)⟩,⟨some 42,.bin .leq 2 (.t 41) (u9I 4),some (39,true)⟩,kY 43 39 42,oA 4 43],.ret]⟩
def f180:DFn := ⟨42,[.cell 4 36,.cell 5 3],
 e9 [rg [oO 2 (.box 0 (.t 0)),jO 4 36,jO 5 3],e9 [rg [oL 13 0 2,oM 14 1,jb 15 181 [.t 13,.t 14],oA 6 15],rg [oM 16 6,iu 17 .neq 3 16 0],gp 17 (e9 [rg [oM 18 6,oE (.store 36 (.t 4) (.c (.imm .exact []))),jL 3 5 18],.ret]) .skip],rg [oF 19 0 2 2,oL 20 14 19,oN 21 14 20,oO 22 (.mkslice false 6 (.t 21) (.t 21)),jO 7 6,jL 6 7 22],rg [oO 23 (.mkfn 191 [.t 7,.t 4]),jO 8 40,jL 40 8 23],e9 [rg [oL 24 0 2,oM 25 1,jb 26 192 [.t 24,.t 25]],.block 0 (.rfunc (.t 26) [27,28] (e9 [rg [oA 9 27],rg [jO 10 0,jL 0 10 28]]) (.block 1 (e9 [rg [oL 30 0 10,jb 31 184 [.t 30],oM 29 31,jI 32 29 0,jI 33 29 1,oA 11 32,oA 12 33],e9 [rg [oM 34 12,iu 35 .neq 3 34 0],gp 35 (e9 [rg [oM 36 12,oE (.store 36 (.t 4) (.c (.imm .exact []))),jL 3 5 36],.ret]) .skip],rg [oL 37 40 8,oM 38 9,oM 39 11,oO 40 (.call 2 (.t 37) [.t 38,.t 39])]])))],rg [oL 41 36 4,jL 36 4 41,oE (.store 3 (.t 5) (u9I 0))],.ret]⟩
def f181:DFn := ⟨21,[.tmp 4],
 e9 [rg [oO 2 (.box 0 (.t 0)),iV 4 0],e9 [rg [oL 7 0 2,jb 8 15 [.t 7],oA 5 8],rg [oM 9 5,iu 10 .neq 3 9 0],gp 10 (e9 [rg [oM 11 5,oA 4 11],.ret]) .skip],rg [oO 12 (.mkfn 193 [.t 2]),oA 6 12],e9 [rg [oM 13 1,oN 14 38 13,iu 15 .gtr 2 14 8,oM 16 15,u9G 17 (.move (.t 1)) 16,u9G 18 (.move (.t 6)) 16,u9G 19 (.call 3 (.f 194) [.t 17,.t 18]) 16,kX 20 16 19],gp 20 (e9 [rg [iV 4 420],.ret]) .skip],rg [iV 4 0],.ret]⟩
def f184:DFn := ⟨38,[.tmp 2,.tmp 3],
 e9 [rg [oO 1 (.box 0 (.t 0)),oO 2 (.assign (.c (.imm .exact []))),iV 3 0],rg [oL 8 0 1,jb 9 131 [.t 8],oM 7 9,jI 10 7 0,jI 11 7 1,jO 4 29,jL 29 4 10,oA 3 11],e9 [rg [oM 12 3,iu 13 .neq 3 12 0],gp 13 (e9 [rg [oM 14 3,oO 2 (.assign (.c (.imm .exact []))),oA 3 14],.ret]) .skip],e9 [rg [oF 15 29 4 0,oL 16 6 15,oN 17 6 16,oO 18 (.move (u9I 0))],.block 0 (.loop (e9 [rg [gS 19 .lss 2 18 17],gp 19 .skip (.exit 0),.block 1 (e9 [rg [oM 20 18,oI 21 6 16 18,oL 22 2 21,oA 5 20,oA 6 22],rg [oM 23 2,oF 24 0 1 2,oL 25 14 24,oM 26 5,oI 27 14 25 26,oF 28 15 27 3,oL 29 16 28,oM 30 6,oI 31 16 29 30,oF 32 17 31 0,oL 33 2 32,oO 34 (.bslice false 6 1 [(0,.t 33)]),oO 35 (.append 0 6 6 (.t 23) (.t 34)),oA 2 35]]),rg [iu 36 .add 2 18 1,oM 18 36]]))],rg [oM 37 2,oA 2 37,iV 3 0],.ret]⟩
def f191:DFn := ⟨35,[],
 e9 [e9 [rg [oM 8 1,oN 9 6 8,oO 10 (.move (u9I 0))],.block 0 (.loop (e9 [rg [gS 11 .lss 2 10 9],gp 11 .skip (.exit 0),.block 1 (e9 [rg [oM 12 10,oI 13 6 8 10,oL 14 2 13,oA 6 12,oA 7 14],rg [oM 15 7,oL 16 6 2,oM 17 6,oI 18 6 16 17,oL 19 2 18,gS 20 .neq 2 15 19],gp 20 (.region true [] [oL 21 36 3,oM 22 0,oM 23 6,oM 24 7,oL 25 6 2,oM 26 6,oI 27 6 25 26,oL 28 2 27,gS 29 .sub 2 24 28,oO 30 (.build 37 [(0,.t 22),(1,.t 23),(2,.t 29)]),oO 31 (.bslice false 36 1 [(0,.t 30)]),oO 32 (.append 0 36 36 (.t 21) (.t 31)),jL 36 3 32]) .skip]),rg [iu 33 .add 2 10 1,oM 10 33]]))],rg [oM 34 1,jL 6 2 34]]⟩
def f192:DFn := ⟨6,[.tmp 4],
 e9 [rg [oO 2 (.box 0 (.t 0)),oO 3 (.box 38 (.t 1)),oO 4 (.assign (.c .nilfn))],rg [oO 5 (.mkfn 198 [.t 3,.t 2]),oA 4 5],.ret]⟩
def f193:DFn := ⟨27,[.tmp 3],
 e9 [rg [oO 2 (.box 39 (.t 0)),oO 3 (.assign (u9B false))],rg [oF 4 39 2 0,oL 5 2 4,iu 6 .lss 2 5 0,oM 7 6,kM 8 39 2 0 7,ky 9 2 8 7,iH 10 .gtr 2 9 1048576 7,kX 11 7 10,oM 12 11,kM 13 39 2 1 12,ky 14 9 13 12,kT 15 9 14 12,kM 16 0 1 1 12,ky 17 9 16 12,kT 18 9 17 12,iE 19 .neq 2 15 18 12,kX 20 12 19,oM 21 20,kM 22 39 2 1 21,ky 23 9 22 21,u9G 24 (.mkfn 199 [.t 1]) 21,jr 25 94 [.t 23,.t 24] 21,kX 26 21 25,oA 3 26],.ret]⟩
def f194:DFn := ⟨9,[.tmp 4],
 e9 [rg [oO 4 (.assign (u9B false))],rg [oM 5 0,oM 6 1,jb 7 201 [.t 5,.t 6],iu 8 .geq 2 7 0,oA 4 8],.ret]⟩
def f195:DFn := ⟨54,[.cell 6 0],
 e9 [rg [oO 3 (.box 0 (.t 0)),jO 6 0],rg [oF 13 0 3 0,oL 14 10 13,oF 15 0 3 2,oL 16 14 15,oO 17 (.build 0 [(0,.t 14),(2,.t 16)]),jO 7 0,jL 0 7 17],e9 [rg [oF 18 0 3 1,oL 19 9 18,oN 20 9 19,oO 21 (.move (u9I 0))],.block 0 (.loop (e9 [rg [gS 22 .lss 2 21 20],gp 22 .skip (.exit 0),.block 1 (e9 [rg [oM 23 21,oI 24 9 19 21,oL 25 6 24,oA 8 23,oA 9 25],rg [oM 26 9,oO 27 (.bslice false 9 1 [(0,.t 26)]),oA 10 27],e9 [rg [oM 28 1,oM 29 2,oO 30 (.slice 38 (.t 28) (some (.t 29)) none none),oN 31 38 30,oO 32 (.move (u9I 0))],.block 2 (.loop (e9 [rg [gS 33 .lss 2 32 31],gp 33 .skip (.exit 2),.block 3 (e9 [rg [oI 34 38 30 32,oL 35 39 34,jO 12 39,jL 39 12 35],rg [oM 36 10,oF 37 39 12 1,oL 38 9 37,oM 39 8,oI 40 9 38 39,oL 41 6 40,oO 42 (.bslice false 9 1 [(0,.t 41)]),oO 43 (.append 0 9 9 (.t 36) (.t 42)),oA 10 43]]),rg [iu 44 .add 2 32 1,oM 32 44]]))],.region true [] [oF 45 0 7 1,oL 46 9 45,oM 47 10,jb 48 202 [.t 47],oO 49 (.bslice false 9 1 [(0,.t 48)]),oO 50 (.append 0 9 9 (.t 46) (.t 49)),oF 51 0 7 1,jL 9 51 50]]),rg [iu 52 .add 2 21 1,oM 21 52]]))],rg [oL 53 0 7,jL 0 6 53],.ret]⟩
def f198:DFn := ⟨21,[],
 e9 [rg [oL 5 38 1,oN 6 38 5,iu 7 .add 2 6 1,oO 8 (.move (u9I 0))],.block 0 (.loop (e9 [rg [gS 9 .lss 2 8 7],gp 9 .skip (.exit 0),.block 1 (e9 [rg [oM 10 8,oA 4 10],rg [oM 11 0,oM 12 4,iu 13 .sub 2 12 1,oL 14 0 2,oL 15 38 1,oM 16 4,jb 17 195 [.t 14,.t 15,.t 16],oO 18 (.call 2 (.t 11) [.t 13,.t 17]),jQ 19 18],gp 19 .ret .skip]),rg [iu 20 .add 2 8 1,oM 8 20]]))]⟩
def f199:DFn := ⟨14,[.tmp 3],
 e9 [rg [oO 3 (.assign (u9B false))],rg [oM 4 0,oN 5 6 4,oF 6 0 1 0,oL 7 10 6,oN 8 10 7,gS 9 .neq 2 5 8,oM 10 9,u9G 11 (.move (.t 0)) 10,jr 12 71 [.t 11,.f 200] 10,kX 13 10 12,oA 3 13],.ret]⟩
def f200:DFn := ⟨9,[.tmp 2],
 e9 [rg [oO 2 (.assign (u9B false))],rg [oM 3 0,iu 4 .lss 2 3 0,oM 5 4,u9G 6 (.move (.t 0)) 5,iH 7 .gtr 2 6 4096 5,kX 8 5 7,oA 2 8],.ret]⟩
def f201:DFn := ⟨19,[.tmp 4],
 e9 [rg [iV 4 0],e9 [rg [oM 6 0,oN 7 38 6,oO 8 (.move (u9I 0))],.block 0 (.loop (e9 [rg [gS 9 .lss 2 8 7],gp 9 .skip (.exit 0),.block 1 (e9 [rg [oM 10 8,oA 5 10],rg [oM 11 1,oM 12 0,oM 13 5,oI 14 38 12 13,oL 15 39 14,oO 16 (.call 0 (.t 11) [.t 15])],gp 16 (e9 [rg [oM 17 5,oA 4 17],.ret]) .skip]),rg [iu 18 .add 2 8 1,oM 8 18]]))],rg [oO 4 (.assign (.c (.int .i64 (-1))))],.ret]⟩
def f202:DFn := ⟨39,[.tmp 2],
 e9 [rg [oO 2 (.assign (.c (.imm .exact [])))],rg [oM 8 0,oO 9 (.iaddr 9 (.t 8) (u9I 0)),oL 10 6 9,oO 11 (.call 2 (.f 96) [.t 10]),oA 3 11],e9 [rg [oM 12 0,oO 13 (.slice 9 (.t 12) (some (u9I 1)) none none),oN 14 9 13,oO 15 (.move (u9I 0))],.block 0 (.loop (e9 [rg [gS 16 .lss 2 15 14],gp 16 .skip (.exit 0),.block 1 (e9 [rg [oI 17 9 13 15,oL 18 6 17,oA 5 18],rg [oM 19 5,oN 20 6 19,oO 21 (.move (u9I 0))],.block 2 (.loop (e9 [rg [gS 22 .lss 2 21 20],gp 22 .skip (.exit 2),.block 3 (e9 [rg [oM 23 21,oI 24 6 19 21,oL 25 2 24,oA 6 23,oA 7 25],rg [oM 26 3,oM 27 6,oM 28 3,oM 29 6,oI 30 6 28 29,oL 31 2 30,oM 32 7,gS 33 .add 2 31 32,oO 34 (.mini [.t 33,u9I 4096]),oI 35 6 26 27,jL 2 35 34]]),rg [iu 36 .add 2 21 1,oM 21 36]]))]),rg [iu 37 .add 2 15 1,oM 15 37]]))],rg [oM 38 3,oA 2 38],.ret]⟩
def f264:DFn := ⟨19,[.tmp 2,.tmp 3],
 e9 [rg [oO 1 (.ibox 55 (.t 0)),oO 2 (.assign (.c (.imm .exact []))),iV 3 0],e9 [rg [ld 5 55 1,jb 6 281 [.t 5],oA 4 6],rg [oM 7 4,iu 8 .neq 3 7 0],gp 8 (e9 [rg [oM 9 4,oO 2 (.assign (.c (.imm .exact []))),oA 3 9],.ret]) .skip],.region true [] [oO 10 (.call 4 (.f 282) []),oF 11 55 1 0,ld 12 2 11,oO 13 (.nilc (.t 10)),oI 14 57 13 12,oF 15 58 14 0,oL 16 59 15,ld 17 55 1,oO 18 (.call 2 (.t 16) [.c (.imm .exact []),.t 17]),oA 2 18,iV 3 0],.ret]⟩
def f281:DFn := ⟨16,[.tmp 2],
 e9 [rg [oO 1 (.ibox 55 (.t 0)),iV 2 0],rg [ld 6 55 1,jb 7 297 [.t 6],oM 5 7,jI 8 5 0,jI 9 5 1,oA 3 8,oA 4 9],.block 0 (e9 [rg [oM 11 4,jQ 12 11,oA 10 12],gp 10 (e9 [rg [iV 2 1],.ret]) (e9 [rg [oM 14 3,iu 15 .gtr 2 14 16,oA 13 15],gp 13 (e9 [rg [iV 2 2],.ret]) .skip])]),rg [iV 2 0],.ret]⟩
def f282:DFn := ⟨18,[.tmp 0],
 e9 [rg [oO 0 (.assign (.c .nilp))],rg [oO 2 (.build 57 []),oO 3 (.box 57 (.t 2)),jO 1 62,jL 62 1 3],rg [oL 4 62 1,oO 5 (.nilc (.t 4)),oO 6 (.iaddr 57 (.t 5) (u9I 1)),oF 7 58 6 0,oE (.store 59 (.t 7) (.f 298))],rg [oL 8 62 1,oO 9 (.nilc (.t 8)),oO 10 (.iaddr 57 (.t 9) (u9I 2)),oF 11 58 10 0,oE (.store 59 (.t 11) (.f 299))],rg [oL 12 62 1,oO 13 (.mkfn 300 [.t 1]),oO 14 (.nilc (.t 12)),oO 15 (.iaddr 57 (.t 14) (u9I 3)),oF 16 58 15 0,jL 59 16 13],rg [oL 17 62 1,oA 0 17],.ret]⟩
def f297:DFn := ⟨74,[.tmp 2,.tmp 3],
 e9 [rg [oO 1 (.ibox 55 (.t 0)),iV 2 0,oO 3 (.assign (u9B false))],rg [oF 9 55 1 2,ld 10 53 9,oO 11 (.bin .eql 53 (.t 10) (.c (.str []))),oM 12 11,⟨some 13,.faddr 55 (.t 1) 3,some (12,true)⟩,⟨some 14,.iload 56 (.t 13),some (12,true)⟩,⟨some 15,.len 56 (.t 14),some (12,true)⟩,⟨some 16,.bin .eql 2 (.t 15) (u9I 0),some (12,true)⟩,kY 17 12 16,oF 18 55 1 1,ld 19 2 18,iu 20 .eql 2 19 0,oM 21 20,⟨some 22,.faddr 55 (.t 1) 3,some (21,true)⟩,⟨some 23,.iload 56 (.t 22),some (21,true)⟩,⟨some 24,.len 56 (.t 23),some (21,true)⟩,⟨some 25,.bin .eql 2 (.t 24) (u9I 0),some (21,true)⟩,kY 26 21 25,oF 27 55 1 1,ld 28 2 27,iu 29 .eql 2 28 0,oM 30 29,⟨some 31,.faddr 55 (.t 1) 2,some (30,true)⟩,⟨some 32,.iload 53 (.t 31),some (30,true)⟩,⟨some 33,.bin .eql 53 (.t 32) (.c (.str [])),some (30,true)⟩,kY 34 30 33,oO 35 (.build 64 [(1,.t 17),(2,.t 26),(3,.t 34)]),jO 4 64,jL 64 4 35],e9 [rg [oF 36 55 1 0,ld 37 2 36,iu 38 .lss 2 37 1,oM 39 38,kM 40 55 1 0 39,u9G 41 (.iload 2 (.t 40)) 39,iH 42 .gtr 2 41 3 39,kX 43 39 42,oM 44 43,kM 45 55 1 0 44,u9G 46 (.iload 2 (.t 45)) 44,kS 47 64 4 46 44,ky 48 7 47 44,j0 49 48 44,kX 50 44 49],gp 50 (e9 [rg [iV 2 0,oO 3 (.assign (u9B false))],.ret]) .skip],e9 [rg [oF 51 55 1 0,ld 52 2 51,iu 53 .lss 2 52 3],gp 53 (e9 [rg [iV 2 0,oO 3 (.assign (u9B true))],.ret]) .skip],e9 [rg [oF 54 55 1 3,ld 55 56 54,oN 56 56 55,oO 57 (.move (u9I 0))],.block 0 (.loop (e9 [rg [gS 58 .lss 2 57 56],gp 58 .skip (.exit 0),.block 1 (e9 [rg [oI 59 56 55 57,oL 60 55 59,jO 6 55,jL 55 6 60],rg [oL 62 55 6,jb 63 297 [.t 62],oM 61 63,jI 64 61 0,jI 65 61 1,oA 7 64,oA 8 65],e9 [rg [oM 66 8,jQ 67 66],gp 67 (e9 [rg [iV 2 0,oO 3 (.assign (u9B false))],.ret]) .skip],rg [oM 68 2,oM 69 7,oO 70 (.maxi [.t 68,.t 69]),oA 2 70]]),rg [iu 71 .add 2 57 1,oM 57 71]]))],rg [oM 72 2,iu 73 .add 2 72 1,oA 2 73,oO 3 (.assign (u9B true))],.ret]⟩
def f298:DFn := ⟨12,[.tmp 4],
 e9 [rg [oO 3 (.ibox 55 (.t 1)),oO 4 (.assign (.c (.imm .exact [])))],.region true [] [oM 5 0,oO 6 (.bslice false 30 1 [(0,.c (.int .u8 1))]),oO 7 (.append 0 30 30 (.t 5) (.t 6)),oF 8 55 3 1,ld 9 2 8,jb 10 311 [.t 9],oO 11 (.call 2 (.f 312) [.t 7,.t 10]),oA 4 11],.ret]⟩
def f299:DFn := ⟨16,[.tmp 4],
 e9 [rg [oO 3 (.ibox 55 (.t 1)),oO 4 (.assign (.c (.imm .exact [])))],.region true [] [oM 5 0,oO 6 (.bslice false 30 1 [(0,.c (.int .u8 2))]),oO 7 (.append 0 30 30 (.t 5) (.t 6)),oF 8 55 3 2,ld 9 53 8,oN 10 53 9,oO 11 (.conv 2 63 (.t 10)),oO 12 (.call 2 (.f 312) [.t 7,.t 11]),oF 13 55 3 2,ld 14 53 13,oO 15 (.append 0 30 53 (.t 12) (.t 14)),oA 4 15],.ret]⟩
def f300:DFn := ⟨35,[.tmp 5],
 e9 [rg [oO 4 (.ibox 55 (.t 1)),oO 5 (.assign (.c (.imm .exact [])))],.region true [] [oM 8 0,oO 9 (.bslice false 30 1 [(0,.c (.int .u8 3))]),oO 10 (.append 0 30 30 (.t 8) (.t 9)),oF 11 55 4 3,ld 12 56 11,oN 13 56 12,oO 14 (.conv 2 63 (.t 13)),oO 15 (.call 2 (.f 312) [.t 10,.t 14]),oA 0 15],e9 [rg [oF 16 55 4 3,ld 17 56 16,oN 18 56 17,oO 19 (.move (u9I 0))],.block 0 (.loop (e9 [rg [gS 20 .lss 2 19 18],gp 20 .skip (.exit 0),.block 1 (e9 [rg [oI 21 56 17 19,oL 22 55 21,jO 7 55,jL 55 7 22],.region true [] [oL 23 62 2,oF 24 55 7 0,oL 25 2 24,oO 26 (.nilc (.t 23)),oI 27 57 26 25,oF 28 58 27 0,oL 29 59 28,oM 30 0,oL 31 55 7,oO 32 (.call 2 (.t 29) [.t 30,.t 31]),oA 0 32]]),rg [iu 33 .add 2 19 1,oM 19 33]]))],rg [oM 34 0,oA 5 34],.ret]⟩
def f311:DFn := ⟨10,[.tmp 2],
 e9 [rg [oO 2 (.assign (.c (.int .u64 0)))],rg [oM 3 0,oO 4 (.conv 2 63 (.t 3)),oO 5 (.bin .shl 63 (.t 4) (.c (.int .u64 1))),oM 6 0,oO 7 (.bin .shr 2 (.t 6) (.c (.int .u64 63))),oO 8 (.conv 2 63 (.t 7)),gS 9 .xor 63 5 8,oA 2 9],.ret]⟩
def f312:DFn := ⟨20,[.tmp 4],
 e9 [rg [oO 4 (.assign (.c (.imm .exact [])))],.block 0 (.loop (e9 [e9 [rg [oM 5 1,oO 6 (.bin .geq 63 (.t 5) (.c (.int .u64 128)))],gp 6 .skip (.exit 0)],.block 1 (rg [oM 9 0,oM 10 1,oO 11 (.conv 63 13 (.t 10)),oO 12 (.bin .or 13 (.t 11) (.c (.int .u8 128))),oO 13 (.bslice false 30 1 [(0,.t 12)]),oO 14 (.append 0 30 30 (.t 9) (.t 13)),oA 0 14]),rg [oM 7 1,oO 8 (.bin .shr 63 (.t 7) (.c (.int .u64 7))),oA 1 8]])),rg [oM 15 0,oM 16 1,oO 17 (.conv 63 13 (.t 16)),oO 18 (.bslice false 30 1 [(0,.t 17)]),oO 19 (.append 0 30 30 (.t 15) (.t 18)),oA 4 19],.ret]⟩
def f316:DFn := ⟨56,[.tmp 8,.tmp 9],
 e9 [rg [oO 8 (.assign (.c (.imm .exact []))),iV 9 0],rg [oM 15 0,jb 16 354 [.t 15],oM 14 16,jI 17 14 0,jI 18 14 1,jO 10 73,jL 73 10 17,oA 9 18],e9 [rg [oM 19 9,iu 20 .neq 3 19 0],gp 20 (e9 [rg [oM 21 9,oO 8 (.assign (.c (.imm .exact []))),oA 9 21],.ret]) .skip],e9 [rg [oM 22 0,oN 23 70 22,iu 24 .eql 2 23 65536],gp 24 (e9 [rg [oO 8 (.assign (.c (.imm .exact []))),iV 9 2],.ret]) .skip],e9 [rg [oM 25 0,oN 26 70 25,oA 11 26],rg [oM 27 11,iu 28 .gtr 2 27 0,oM 29 28,⟨some 30,.move (.t 0),some (29,true)⟩,⟨some 31,.move (.t 11),some (29,true)⟩,⟨some 32,.bin .sub 2 (.t 31) (u9I 1),some (29,true)⟩,⟨some 33,.iaddr 70 (.t 30) (.t 32),some (29,true)⟩,⟨some 34,.faddr 71 (.t 33) 1,some (29,true)⟩,⟨some 35,.load 2 (.t 34),some (29,true)⟩,⟨some 36,.move (.t 1),some (29,true)⟩,⟨some 37,.bin .gtr 2 (.t 35) (.t 36),some (29,true)⟩,kY 38 29 37],gp 38 (e9 [rg [oO 8 (.assign (.c (.imm .exact []))),iV 9 410],.ret]) .skip],rg [oM 39 0,oN 40 70 39,oM 41 1,oM 42 2,oM 43 3,oL 44 73 10,oO 45 (.build 71 [(0,.t 40),(1,.t 41),(2,.t 42),(3,.t 43),(4,.t 44)]),jO 12 71,jL 71 12 45],e9 [rg [oL 46 71 12,jb 47 355 [.t 46],oA 13 47],rg [oM 48 13,iu 49 .neq 3 48 0],gp 49 (e9 [rg [oM 50 13,oO 8 (.assign (.c (.imm .exact []))),oA 9 50],.ret]) .skip],.region true [] [oM 51 0,oO 52 (.mkcall (.f 356) [.t 51]),oL 53 71 12,oO 54 (.bslice false 70 1 [(0,.t 53)]),oO 55 (.append 2 70 70 (.t 52) (.t 54)),oA 8 55,iV 9 0],.ret]⟩
def f318:DFn := ⟨34,[.cell 6 2,.tmp 7],
 e9 [rg [oO 4 (.ibox 65 (.t 1)),oO 5 (.ibox 2 (.t 2)),jO 6 2,iV 7 0],e9 [rg [oM 11 0,jb 12 324 [.t 11],oA 8 12],rg [oM 13 8,iu 14 .neq 3 13 0],gp 14 (e9 [rg [oM 15 8,oE (.store 2 (.t 6) (u9I 0)),oA 7 15],.ret]) .skip],e9 [rg [oM 16 0,jb 17 359 [.t 16]],.block 0 (.rfunc (.t 17) [18,19] (e9 [rg [oA 9 18],rg [jO 10 72,jL 72 10 19]]) (.block 1 (e9 [rg [oM 20 9,ld 21 2 5,gS 22 .leq 2 20 21,oM 23 22,⟨some 24,.faddr 72 (.t 10) 0,some (23,true)⟩,⟨some 25,.load 65 (.t 24),some (23,true)⟩,⟨some 26,.iload 65 (.t 4),some (23,true)⟩,⟨some 27,.bin .eql 65 (.t 25) (.t 26),some (23,true)⟩,kY 28 23 27],gp 28 (rg [oL 29 2 6,oF 30 72 10 1,oL 31 2 30,gS 32 .add 2 29 31,jL 2 6 32]) .skip])))],rg [oL 33 2 6,jL 2 6 33,iV 7 0],.ret]⟩
def f324:DFn := ⟨9,[.tmp 2],
 e9 [rg [iV 2 0],rg [oM 4 0,jb 5 354 [.t 4],oM 3 5,jI 6 3 0,jI 7 3 1,oA 2 7],rg [oM 8 2,oA 2 8],.ret]⟩
def f325:DFn := ⟨18,[.cell 2 67],
 e9 [rg [jO 2 67],e9 [rg [oM 5 0,jb 6 359 [.t 5]],.block 0 (.rfunc (.t 6) [7,8] (rg [jO 4 72,jL 72 4 8]) (.block 1 (rg [oL 9 67 2,oF 10 72 4 0,oL 11 65 10,oO 12 (.bslice false 67 1 [(0,.t 11)]),oO 13 (.append 2 67 67 (.t 9) (.t 12)),jL 67 2 13])))],rg [oL 14 67 2,oO 15 (.call 2 (.f 361) [.t 14,.f 362])],rg [oL 16 67 2,oO 17 (.call 2 (.f 363) [.t 16]),jL 67 2 17],.ret]⟩
def f331:DFn := ⟨14,[.cell 4 73],
 e9 [rg [jO 4 73],rg [oM 6 0,oO 7 (.s2b 53 30 (.t 6)),jb 8 364 [.t 7],jO 5 73,jL 73 5 8],rg [oO 9 (.slice 73 (.t 5) none none none),oM 10 1,oO 11 (.bslice false 74 2 [(0,.t 9),(1,.t 10)]),oO 12 (.call 1 (.f 365) [.t 11]),jb 13 364 [.t 12],jL 73 4 13],.ret]⟩
def f334:DFn := ⟨60,[.tmp 2,.tmp 3],
 e9 [rg [oO 1 (.ibox 71 (.t 0)),oO 2 (.assign (.c (.imm .exact []))),iV 3 0],e9 [rg [ld 9 71 1,jb 10 355 [.t 9],oA 4 10],rg [oM 11 4,iu 12 .neq 3 11 0],gp 12 (e9 [rg [oM 13 4,oO 2 (.assign (.c (.imm .exact []))),oA 3 13],.ret]) .skip],rg [oF 14 71 1 0,ld 15 2 14,oF 16 71 1 1,ld 17 2 16,oF 18 71 1 2,ld 19 2 18,oO 20 (.bslice false 6 3 [(0,.t 15),(1,.t 17),(2,.t 19)]),oO 21 (.mkcall (.f 366) [.t 20]),oO 22 (.mkcall (.f 366) [.c (.imm .exact [])]),jO 5 55,jO 6 55,jL 55 5 21,jL 55 6 22],e9 [rg [oF 23 71 1 3,ld 24 66 23,oN 25 66 24,oO 26 (.move (u9I 0))],.block 0 (.loop (e9 [rg [gS 27 .lss 2 26 25],gp 27 .skip (.exit 0),.block 1 (e9 [rg [oI 28 66 24 26,oL 29 72 28,jO 8 72,jL 72 8 29],.region true [] [oF 30 55 6 3,oL 31 56 30,oF 32 72 8 0,oF 33 65 32 0,oL 34 2 33,oF 35 72 8 0,oF 36 65 35 1,oL 37 2 36,oF 38 72 8 1,oL 39 2 38,oO 40 (.bslice false 6 3 [(0,.t 34),(1,.t 37),(2,.t 39)]),jb 41 366 [.t 40],oO 42 (.bslice false 56 1 [(0,.t 41)]),oO 43 (.append 0 56 56 (.t 31) (.t 42)),oF 44 55 6 3,jL 56 44 43]]),rg [iu 45 .add 2 26 1,oM 26 45]]))],.region true [] [oF 46 55 5 3,oL 47 56 46,oL 48 55 6,oF 49 71 1 4,oO 50 (.slice 73 (.t 49) none none none),oO 51 (.b2s 30 53 (.t 50)),oO 52 (.build 55 [(0,u9I 2),(2,.t 51)]),oO 53 (.bslice false 56 2 [(0,.t 48),(1,.t 52)]),oO 54 (.append 0 56 56 (.t 47) (.t 53)),oF 55 55 5 3,jL 56 55 54],rg [oL 56 55 5,jb 57 264 [.t 56],jI 58 57 0,jI 59 57 1,oA 2 58,oA 3 59],.ret]⟩
def f335:DFn := ⟨10,[.cell 4 73],
 e9 [rg [oO 2 (.ibox 73 (.t 0)),oO 3 (.ibox 73 (.t 1)),jO 4 73],.region true [] [oO 5 (.slice 73 (.t 2) none none none),oO 6 (.slice 73 (.t 3) none none none),oO 7 (.bslice false 74 2 [(0,.t 5),(1,.t 6)]),jb 8 365 [.t 7],jb 9 331 [.c (.str [99,104,97,105,110]),.t 8],jL 73 4 9],.ret]⟩
def f339:DFn := ⟨165,[.tmp 0],
 e9 [rg [oO 0 (.assign (u9B false))],rg [oO 22 (.bslice false 6 0 []),oO 23 (.bslice false 9 1 [(0,.t 22)]),oO 24 (.bslice false 6 1 [(0,u9I 0)]),oO 25 (.build 17 []),oO 26 (.bslice false 16 1 [(0,.t 25)]),oO 27 (.build 15 [(0,u9I 7),(2,.t 24),(3,.t 26)]),oO 28 (.bslice false 14 1 [(0,.t 27)]),oO 29 (.build 0 [(1,.t 23),(2,.t 28)]),jO 1 0,jL 0 1 29],rg [oL 31 0 1,oO 32 (.bslice false 6 1 [(0,u9I 3)]),oO 33 (.build 37 [(0,u9I 2),(2,u9I 10)]),oO 34 (.bslice false 36 1 [(0,.t 33)]),jb 35 340 [.t 31,.t 32,u9I 1,.t 34],oM 30 35,jI 36 30 0,jI 37 30 1,oA 2 36,oA 3 37],rg [oM 39 2,jb 40 345 [.c (.imm .exact []),u9I 5,.t 39],oM 38 40,jI 41 38 0,jI 42 38 1,oA 4 41,oA 5 42],rg [oM 44 4,oM 45 2,jb 46 345 [.t 44,u9I 9,.t 45],oM 43 46,jI 47 43 0,jI 48 43 1,oA 6 47,oA 7 48],rg [jb 50 345 [.c (.imm .exact []),u9I 5,.c (.imm .exact [])],oM 49 50,jI 51 49 0,jI 52 49 1,oA 8 51,oA 9 52],rg [oM 54 4,jb 55 352 [.t 54,u9I 3,u9I 5],oM 53 55,jI 56 53 0,jI 57 53 1,oA 10 56,oA 11 57],rg [oM 59 4,jb 60 352 [.t 59,u9I 3,u9I 4],oM 58 60,jI 61 58 0,jI 62 58 1,oA 12 61,oA 13 62],rg [jb 64 352 [.c (.imm .exact []),u9I 0,u9I 5],oM 63 64,jI 65 63 0,jI 66 63 1,oA 14 65,oA 15 66],rg [oM 68 4,jb 69 350 [.t 68],oM 67 69,jI 70 67 0,jI 71 67 1,oA 16 70,oA 17 71],rg [jb 73 350 [.c (.imm .exact [])],oM 72 73,jI 74 72 0,jI 75 72 1,oA 18 74,oA 19 75],e9 [rg [oM 76 3,iu 77 .neq 3 76 0,oM 78 77,u9G 79 (.move (.t 5)) 78,iH 80 .neq 3 79 0 78,kX 81 78 80,oM 82 81,u9G 83 (.move (.t 7)) 82,iH 84 .neq 3 83 0 82,kX 85 82 84,oM 86 85,u9G 87 (.move (.t 9)) 86,iH 88 .neq 3 87 0 86,kX 89 86 88,oM 90 89,u9G 91 (.move (.t 11)) 90,iH 92 .neq 3 91 0 90,kX 93 90 92,oM 94 93,u9G 95 (.move (.t 13)) 94,iH 96 .neq 3 95 0 94,kX 97 94 96,oM 98 97,u9G 99 (.move (.t 15)) 98,iH 100 .neq 3 99 430 98,kX 101 98 100,oM 102 101,u9G 103 (.move (.t 17)) 102,iH 104 .neq 3 103 0 102,kX 105 102 104,oM 106 105,u9G 107 (.move (.t 19)) 106,iH 108 .neq 3 107 0 106,kX 109 106 108,oM 110 109,u9G 111 (.move (.t 4)) 110,kT 112 70 111 110,iH 113 .neq 2 112 1 110,kX 114 110 113,oM 115 114,u9G 116 (.move (.t 8)) 115,kT 117 70 116 115,iH 118 .neq 2 117 0 115,kX 119 115 118],gp 119 (e9 [rg [oO 0 (.assign (u9B false))],.ret]) .skip],rg [oO 120 (.build 65 [(0,u9I 3),(1,u9I 2)]),jO 20 65,jL 65 20 120],rg [oO 121 (.build 65 [(0,u9I 1),(1,u9I 3)]),oO 122 (.build 72 [(0,.t 121),(1,u9I 10)]),oO 123 (.build 65 [(0,u9I 2),(1,u9I 7)]),oO 124 (.build 72 [(0,.t 123),(1,u9I 10)]),oL 125 65 20,oO 126 (.build 72 [(0,.t 125),(1,.c (.int .i64 (-10)))]),oO 127 (.build 65 [(0,u9I 4),(1,u9I 1)]),oO 128 (.build 72 [(0,.t 127),(1,.c (.int .i64 (-10)))]),oO 129 (.bslice false 66 4 [(0,.t 122),(1,.t 124),(2,.t 126),(3,.t 128)]),oA 21 129],rg [oM 130 2,oM 131 21,jb 132 342 [.t 130,.t 131],oM 133 132,⟨some 134,.move (.t 6),some (133,true)⟩,⟨some 135,.move (.t 4),some (133,true)⟩,⟨some 136,.call 0 (.f 346) [.t 134,.t 135],some (133,true)⟩,kY 137 133 136,oM 138 137,⟨some 139,.move (.t 4),some (138,true)⟩,⟨some 140,.iaddr 70 (.t 139) (u9I 0),some (138,true)⟩,⟨some 141,.faddr 71 (.t 140) 2,some (138,true)⟩,⟨some 142,.load 2 (.t 141),some (138,true)⟩,⟨some 143,.bin .eql 2 (.t 142) (.c (.int .i64 (-1))),some (138,true)⟩,kY 144 138 143,oM 145 144,⟨some 146,.move (.t 10),some (145,true)⟩,⟨some 147,.load 65 (.t 20),some (145,true)⟩,⟨some 148,.build 72 [(0,.t 147),(1,.c (.int .i64 (-10)))],some (145,true)⟩,⟨some 149,.bslice false 66 1 [(0,.t 148)],some (145,true)⟩,⟨some 150,.call 0 (.f 342) [.t 146,.t 149],some (145,true)⟩,kY 151 145 150,oM 152 151,⟨some 153,.move (.t 12),some (152,true)⟩,⟨some 154,.load 65 (.t 20),some (152,true)⟩,⟨some 155,.build 72 [(0,.t 154)],some (152,true)⟩,⟨some 156,.bslice false 66 1 [(0,.t 155)],some (152,true)⟩,⟨some 157,.call 0 (.f 342) [.t 153,.t 156],some (152,true)⟩,kY 158 152 157,oM 159 158,⟨some 160,.move (.t 16),some (159,true)⟩,kY 161 159 160,oM 162 161,⟨some 163,.move (.t 18),some (162,true)⟩,kY 164 162 163,oA 0 164],.ret]⟩
def f340:DFn := ⟨107,[.tmp 8,.tmp 9],
 e9 [rg [oO 4 (.ibox 0 (.t 0)),oO 8 (.assign (.c (.imm .exact []))),iV 9 0],e9 [rg [ld 16 0 4,jb 17 15 [.t 16],oA 9 17],rg [oM 18 9,iu 19 .neq 3 18 0],gp 19 (e9 [rg [oM 20 9,oO 8 (.assign (.c (.imm .exact []))),oA 9 20],.ret]) .skip],rg [oO 10 (.assign (.f 367))],e9 [rg [oM 21 1,oN 22 6 21,oF 23 0 4 2,ld 24 14 23,oN 25 14 24,gS 26 .neq 2 22 25,oM 27 26,u9G 28 (.move (.t 1)) 27,u9G 29 (.move (.t 10)) 27,jr 30 71 [.t 28,.t 29] 27,kX 31 27 30,oM 32 31,u9G 33 (.move (.t 2)) 32,jr 34 368 [.t 33,u9I 0,u9I 3] 32,j0 35 34 32,kX 36 32 35,oM 37 36,u9G 38 (.move (.t 3)) 37,kT 39 36 38 37,iH 40 .gtr 2 39 1024 37,kX 41 37 40],gp 41 (e9 [rg [oO 8 (.assign (.c (.imm .exact []))),iV 9 430],.ret]) .skip],rg [oO 42 (.mkmap 75),jO 11 75,jL 75 11 42],e9 [rg [oM 43 3,oN 44 36 43,oO 45 (.move (u9I 0))],.block 0 (.loop (e9 [rg [gS 46 .lss 2 45 44],gp 46 .skip (.exit 0),.block 1 (e9 [rg [oI 47 36 43 45,oL 48 37 47,jO 13 37,jL 37 13 48],e9 [rg [oF 49 37 13 1,oL 50 2 49,oF 51 0 4 2,ld 52 14 51,oN 53 14 52,iu 54 .sub 2 53 1,jb 55 368 [.t 50,u9I 0,.t 54],jQ 56 55,oM 57 56,kM 58 0 4 2 57,u9G 59 (.iload 14 (.t 58)) 57,kM 60 37 13 1 57,ky 61 2 60 57,kS 62 14 59 61 57,kM 63 15 62 0 57,ky 64 2 63 57,jr 65 368 [.t 64,u9I 0,u9I 4095] 57,j0 66 65 57,kX 67 57 66,oM 68 67,kM 69 37 13 0 68,ky 70 2 69 68,jr 71 368 [.t 70,.c (.int .i64 (-1)),u9I 7] 68,j0 72 71 68,kX 73 68 72,oM 74 73,kM 75 37 13 2 74,ky 76 2 75 74,jr 77 368 [.t 76,.c (.int .i64 (-1048576)),u9I 1048576] 74,j0 78 77 74,kX 79 74 78],gp 79 (e9 [rg [oO 8 (.assign (.c (.imm .exact []))),iV 9 430],.ret]) .skip],.region true [] [oL 80 37 13,oM 81 1,oF 82 37 13 1,oL 83 2 82,oI 84 6 81 83,oL 85 2 84,oF 86 0 4 2,ld 87 14 86,oF 88 37 13 1,oL 89 2 88,oI 90 14 87 89,oF 91 15 90 0,oL 92 2 91,oM 93 2,jb 94 369 [.t 80,.t 85,.t 92,.t 93]],.block 2 (.rfunc (.t 94) [95,96] (e9 [rg [jO 14 65,jL 65 14 95],rg [oA 15 96]]) (.block 3 (rg [oL 97 75 11,oL 98 65 14,oO 99 (.lookup 75 (.t 97) (.t 98) false),oM 100 15,gS 101 .add 2 99 100,oO 103 (.move (u9B true)),oO 102 (.pick (.t 103) (u9B true) (u9B true)),oO 103 (.pick (.t 102) (.c .undef) (.c .undef)),oO 102 (.move (.c .undef)),oE (.mapset 75 (.t 97) (.t 98) (.t 101))])))]),rg [iu 104 .add 2 45 1,oM 45 104]]))],rg [oL 105 75 11,oO 106 (.call 2 (.f 370) [.t 105]),oA 8 106,iV 9 0],.ret]⟩
def f342:DFn := ⟨26,[.tmp 4],
 e9 [rg [oO 4 (.assign (u9B false))],e9 [rg [oM 6 0,oN 7 66 6,oM 8 1,oN 9 66 8,gS 10 .neq 2 7 9],gp 10 (e9 [rg [oO 4 (.assign (u9B false))],.ret]) .skip],e9 [rg [iV 5 0],.block 0 (.loop (e9 [e9 [rg [oM 11 5,oM 12 0,oN 13 66 12,gS 14 .lss 2 11 13],gp 14 .skip (.exit 0)],.block 1 (e9 [.region true [] [oM 17 0,oM 18 5,oI 19 66 17 18,oL 20 72 19,oM 21 1,oM 22 5,oI 23 66 21 22,oL 24 72 23,gS 25 .neq 72 20 24],gp 25 (e9 [rg [oO 4 (.assign (u9B false))],.ret]) .skip]),rg [oM 15 5,iu 16 .add 2 15 1,oA 5 16]]))],rg [oO 4 (.assign (u9B true))],.ret]⟩
def f345:DFn := ⟨84,[.tmp 6,.tmp 7],
 e9 [rg [oO 6 (.assign (.c (.imm .exact []))),iV 7 0],e9 [rg [oM 16 0,jb 17 324 [.t 16],oA 7 17],rg [oM 18 7,iu 19 .neq 3 18 0],gp 19 (e9 [rg [oM 20 7,oO 6 (.assign (.c (.imm .exact []))),oA 7 20],.ret]) .skip],e9 [rg [oM 21 2,jb 22 375 [.t 21],jQ 23 22],gp 23 (e9 [rg [oO 6 (.assign (.c (.imm .exact []))),iV 7 430],.ret]) .skip],rg [oO 24 (.mkmap 75),oA 8 24],e9 [rg [oM 25 2,oN 26 66 25,oO 27 (.move (u9I 0))],.block 0 (.loop (e9 [rg [gS 28 .lss 2 27 26],gp 28 .skip (.exit 0),.block 1 (e9 [rg [oI 29 66 25 27,oL 30 72 29,jO 10 72,jL 72 10 30],rg [oM 31 8,oF 32 72 10 0,oL 33 65 32,oO 34 (.lookup 75 (.t 31) (.t 33) false),oF 35 72 10 1,oL 36 2 35,gS 37 .add 2 34 36,oO 39 (.move (u9B true)),oO 38 (.pick (.t 39) (u9B true) (u9B true)),oO 39 (.pick (.t 38) (.c .undef) (.c .undef)),oO 38 (.move (.c .undef)),oE (.mapset 75 (.t 31) (.t 33) (.t 37))]]),rg [iu 40 .add 2 27 1,oM 27 40]]))],e9 [rg [oM 41 0,oN 42 70 41,oO 43 (.move (u9I 0))],.block 2 (.loop (e9 [rg [gS 44 .lss 2 43 42],gp 44 .skip (.exit 2),.block 3 (e9 [rg [oI 45 70 41 43,oL 46 71 45,jO 12 71,jL 71 12 46],rg [oF 47 71 12 3,oL 48 66 47,oN 49 66 48,oO 50 (.move (u9I 0))],.block 4 (.loop (e9 [rg [gS 51 .lss 2 50 49],gp 51 .skip (.exit 4),.block 5 (e9 [rg [oI 52 66 48 50,oL 53 72 52,jO 14 72,jL 72 14 53],rg [oF 54 72 14 0,oF 55 65 54 0,oL 56 2 55,iu 57 .leq 2 56 4],gp 57 (rg [oM 58 8,oF 59 72 14 0,oL 60 65 59,oO 61 (.lookup 75 (.t 58) (.t 60) false),oF 62 72 14 1,oL 63 2 62,gS 64 .sub 2 61 63,oO 66 (.move (u9B true)),oO 65 (.pick (.t 66) (u9B true) (u9B true)),oO 66 (.pick (.t 65) (.c .undef) (.c .undef)),oO 65 (.move (.c .undef)),oE (.mapset 75 (.t 58) (.t 60) (.t 64))]) .skip]),rg [iu 67 .add 2 50 1,oM 50 67]]))]),rg [iu 68 .add 2 43 1,oM 43 68]]))],rg [oM 69 8,oO 70 (.call 2 (.f 370) [.t 69]),oA 15 70],e9 [rg [oM 71 15,oN 72 66 71,iu 73 .eql 2 72 0],gp 73 (e9 [rg [oM 74 0,oA 6 74,iV 7 0],.ret]) .skip],rg [oM 75 0,oM 76 1,oM 77 0,oN 78 70 77,iu 79 .sub 2 78 1,oM 80 15,jb 81 316 [.t 75,.t 76,.t 79,.t 80],jI 82 81 0,jI 83 81 1,oA 6 82,oA 7 83],.ret]⟩
def f346:DFn := ⟨81,[.tmp 4],
 e9 [rg [oO 4 (.assign (u9B false))],e9 [rg [oM 6 0,oN 7 70 6,oM 8 1,oN 9 70 8,gS 10 .neq 2 7 9],gp 10 (e9 [rg [oO 4 (.assign (u9B false))],.ret]) .skip],e9 [rg [iV 5 0],.block 0 (.loop (e9 [e9 [rg [oM 11 5,oM 12 0,oN 13 70 12,gS 14 .lss 2 11 13],gp 14 .skip (.exit 0)],.block 1 (e9 [.region true [] [oM 17 0,oM 18 5,oI 19 70 17 18,oF 20 71 19 0,oL 21 2 20,oM 22 1,oM 23 5,oI 24 70 22 23,oF 25 71 24 0,oL 26 2 25,gS 27 .neq 2 21 26,oM 28 27,u9G 29 (.move (.t 0)) 28,u9G 30 (.move (.t 5)) 28,kS 31 70 29 30 28,kM 32 71 31 1 28,ky 33 2 32 28,u9G 34 (.move (.t 1)) 28,u9G 35 (.move (.t 5)) 28,kS 36 70 34 35 28,kM 37 71 36 1 28,ky 38 2 37 28,iE 39 .neq 2 33 38 28,kX 40 28 39,oM 41 40,u9G 42 (.move (.t 0)) 41,u9G 43 (.move (.t 5)) 41,kS 44 70 42 43 41,kM 45 71 44 2 41,ky 46 2 45 41,u9G 47 (.move (.t 1)) 41,u9G 48 (.move (.t 5)) 41,kS 49 70 47 48 41,kM 50 71 49 2 41,ky 51 2 50 41,iE 52 .neq 2 46 51 41,kX 53 41 52,oM 54 53,u9G 55 (.move (.t 0)) 54,u9G 56 (.move (.t 5)) 54,kS 57 70 55 56 54,kM 58 71 57 4 54,ky 59 73 58 54,u9G 60 (.move (.t 1)) 54,u9G 61 (.move (.t 5)) 54,kS 62 70 60 61 54,kM 63 71 62 4 54,ky 64 73 63 54,iE 65 .neq 73 59 64 54,kX 66 54 65,oM 67 66,u9G 68 (.move (.t 0)) 67,u9G 69 (.move (.t 5)) 67,kS 70 70 68 69 67,kM 71 71 70 3 67,ky 72 66 71 67,u9G 73 (.move (.t 1)) 67,u9G 74 (.move (.t 5)) 67,kS 75 70 73 74 67,kM 76 71 75 3 67,ky 77 66 76 67,jr 78 342 [.t 72,.t 77] 67,j0 79 78 67,kX 80 67 79],gp 80 (e9 [rg [oO 4 (.assign (u9B false))],.ret]) .skip]),rg [oM 15 5,iu 16 .add 2 15 1,oA 5 16]]))],rg [oO 4 (.assign (u9B true))],.ret]⟩
def f348:DFn := ⟨28,[.tmp 6],
 e9 [rg [iV 6 0],e9 [rg [iV 7 0],.block 0 (.loop (e9 [e9 [rg [oM 8 7,oM 9 0,oN 10 66 9,gS 11 .lss 2 8 10],gp 11 .skip (.exit 0)],.block 1 (e9 [rg [oM 14 0,oM 15 7,oI 16 66 14 15,oF 17 72 16 0,oL 18 65 17,oM 19 1,oM 20 2,oO 21 (.build 65 [(0,.t 19),(1,.t 20)]),gS 22 .eql 65 18 21],gp 22 (e9 [rg [oM 23 0,oM 24 7,oI 25 66 23 24,oF 26 72 25 1,oL 27 2 26,oA 6 27],.ret]) .skip]),rg [oM 12 7,iu 13 .add 2 12 1,oA 7 13]]))],rg [iV 6 0],.ret]⟩
def f350:DFn := ⟨50,[.tmp 2,.tmp 3],
 e9 [rg [oO 2 (.assign (u9B false)),iV 3 0],e9 [rg [oM 10 0,jb 11 324 [.t 10],oA 3 11],rg [oM 12 3,iu 13 .neq 3 12 0],gp 13 (e9 [rg [oM 14 3,oO 2 (.assign (u9B false)),oA 3 14],.ret]) .skip],e9 [rg [oM 15 0,oN 16 70 15,oO 17 (.move (u9I 0))],.block 0 (.loop (e9 [rg [gS 18 .lss 2 17 16],gp 18 .skip (.exit 0),.block 1 (e9 [rg [oM 19 17,oA 4 19],rg [iV 5 0],e9 [rg [oM 20 0,oN 21 70 20,oO 22 (.move (u9I 0))],.block 2 (.loop (e9 [rg [gS 23 .lss 2 22 21],gp 23 .skip (.exit 2),.block 3 (e9 [rg [oI 24 70 20 22,oL 25 71 24,jO 7 71,jL 71 7 25],.region true [] [oF 26 71 7 1,oL 27 2 26,oM 28 0,oM 29 4,oI 30 70 28 29,oF 31 71 30 1,oL 32 2 31,gS 33 .leq 2 27 32],gp 33 (e9 [rg [oF 34 71 7 3,oL 35 66 34,oN 36 66 35,oO 37 (.move (u9I 0))],.block 4 (.loop (e9 [rg [gS 38 .lss 2 37 36],gp 38 .skip (.exit 4),.block 5 (e9 [rg [oI 39 66 35 37,oL 40 72 39,jO 9 72,jL 72 9 40],rg [oM 41 5,oF 42 72 9 1,oL 43 2 42,gS 44 .add 2 41 43,oA 5 44]]),rg [iu 45 .add 2 37 1,oM 37 45]]))]) .skip]),rg [iu 46 .add 2 22 1,oM 22 46]]))],rg [oM 47 5,iu 48 .neq 2 47 0],gp 48 (e9 [rg [oO 2 (.assign (u9B false)),iV 3 0],.ret]) .skip]),rg [iu 49 .add 2 17 1,oM 17 49]]))],rg [oO 2 (.assign (u9B true)),iV 3 0],.ret]⟩
def f352:DFn := ⟨49,[.tmp 6,.tmp 7],
 e9 [rg [oO 6 (.assign (.c (.imm .exact []))),iV 7 0],e9 [rg [oM 12 0,jb 13 324 [.t 12],oA 7 13],rg [oM 14 7,iu 15 .neq 3 14 0],gp 15 (e9 [rg [oM 16 7,oO 6 (.assign (.c (.imm .exact []))),oA 7 16],.ret]) .skip],e9 [rg [oM 17 1,jb 18 368 [.t 17,u9I 1,u9I 5],jQ 19 18],gp 19 (e9 [rg [oO 6 (.assign (.c (.imm .exact []))),iV 7 430],.ret]) .skip],e9 [rg [oM 20 0,jb 21 325 [.t 20],oN 22 67 21,oO 23 (.move (u9I 0))],.block 0 (.loop (e9 [rg [gS 24 .lss 2 23 22],gp 24 .skip (.exit 0),.block 1 (e9 [rg [oI 25 67 21 23,oL 26 65 25,jO 9 65,jL 65 9 26],rg [oF 27 65 9 0,oL 28 2 27,oM 29 1,gS 30 .eql 2 28 29],gp 30 (e9 [rg [oM 32 0,oL 33 65 9,oM 34 2,jb 35 318 [.t 32,.t 33,.t 34],oM 31 35,jI 36 31 0,jI 37 31 1,oA 10 36,oA 11 37],e9 [rg [oM 38 11,iu 39 .neq 3 38 0],gp 39 (e9 [rg [oM 40 11,oO 6 (.assign (.c (.imm .exact []))),oA 7 40],.ret]) .skip],rg [oM 41 6,oL 42 65 9,oM 43 10,oO 44 (.build 72 [(0,.t 42),(1,.t 43)]),oO 45 (.bslice false 66 1 [(0,.t 44)]),oO 46 (.append 0 66 66 (.t 41) (.t 45)),oA 6 46]]) .skip]),rg [iu 47 .add 2 23 1,oM 23 47]]))],rg [oM 48 6,oA 6 48,iV 7 0],.ret]⟩
def f354:DFn := ⟨74,[.cell 2 73,.tmp 3],
 e9 [rg [jO 2 73,iV 3 0],e9 [rg [oM 12 0,oN 13 70 12,iu 14 .gtr 2 13 65536],gp 14 (e9 [rg [oL 15 73 2,jL 73 2 15,iV 3 2],.ret]) .skip],e9 [rg [oM 16 0,oN 17 70 16,oO 18 (.move (u9I 0))],.block 0 (.loop (e9 [rg [gS 19 .lss 2 18 17],gp 19 .skip (.exit 0),.block 1 (e9 [rg [oI 20 70 16 18,oL 21 71 20,jO 5 71,jL 71 5 21],rg [oL 22 71 5,jb 23 355 [.t 22],oA 6 23],rg [oM 24 6,iu 25 .neq 3 24 0],gp 25 (e9 [rg [oL 26 73 2,oM 27 6,jL 73 2 26,oA 3 27],.ret]) .skip]),rg [iu 28 .add 2 18 1,oM 18 28]]))],rg [jb 29 331 [.c (.str [112,111,115,116,105,110,103,115]),.c (.imm .exact [])],jO 7 73,jL 73 7 29],e9 [rg [oM 30 0,oN 31 70 30,oO 32 (.move (u9I 0))],.block 2 (.loop (e9 [rg [gS 33 .lss 2 32 31],gp 33 .skip (.exit 2),.block 3 (e9 [rg [oM 34 32,oI 35 70 30 32,oL 36 71 35,jO 9 71,oA 8 34,jL 71 9 36],e9 [.region true [] [oF 37 71 9 0,oL 38 2 37,oM 39 8,gS 40 .neq 2 38 39,oM 41 40,u9G 42 (.move (.t 8)) 41,iH 43 .gtr 2 42 0 41,u9G 44 (.move (.t 43)) 41,⟨some 45,.move (.t 0),some (44,true)⟩,⟨some 46,.move (.t 8),some (44,true)⟩,⟨some 47,.bin .sub 2 (.t 46) (u9I 1),some (44,true)⟩,⟨some 48,.iaddr 70 (.t 45) (.t 47),some (44,true)⟩,⟨some 49,.faddr 71 (.t 48) 1,some (44,true)⟩,⟨some 50,.load 2 (.t 49),some (44,true)⟩,⟨some 51,.faddr 71 (.t 9) 1,some (44,true)⟩,⟨some 52,.load 2 (.t 51),some (44,true)⟩,⟨some 53,.bin .gtr 2 (.t 50) (.t 52),some (44,true)⟩,u9G 54 (.pick (.t 44) (.t 53) (u9B false)) 41,kX 55 41 54,oM 56 55,kM 57 71 9 4 56,ky 58 73 57 56,ky 59 73 7 56,iE 60 .neq 73 58 59 56,kX 61 56 60],gp 61 (e9 [rg [oL 62 73 2,jL 73 2 62,iV 3 410],.ret]) .skip],rg [oL 64 71 9,jb 65 334 [.t 64],oM 63 65,jI 66 63 0,jI 67 63 1,oA 10 66,oA 11 67],.region true [] [oL 68 73 7,oM 69 10,jb 70 331 [.c (.str [112,111,115,116,105,110,103]),.t 69],jb 71 335 [.t 68,.t 70],jL 73 7 71]]),rg [iu 72 .add 2 32 1,oM 32 72]]))],rg [oL 73 73 7,jL 73 2 73,iV 3 0],.ret]⟩
def f355:DFn := ⟨115,[.tmp 2],
 e9 [rg [oO 1 (.ibox 71 (.t 0)),iV 2 0],e9 [rg [oF 6 71 1 0,ld 7 2 6,iu 8 .lss 2 7 0,oM 9 8,kM 10 71 1 0 9,u9G 11 (.iload 2 (.t 10)) 9,iH 12 .geq 2 11 65536 9,kX 13 9 12,oM 14 13,kM 15 71 1 1 14,u9G 16 (.iload 2 (.t 15)) 14,iH 17 .lss 2 16 0 14,kX 18 14 17,oM 19 18,kM 20 71 1 1 19,u9G 21 (.iload 2 (.t 20)) 19,iH 22 .geq 2 21 1440 19,kX 23 19 22,oM 24 23,kM 25 71 1 2 24,u9G 26 (.iload 2 (.t 25)) 24,u9G 27 (.bin .lss 2 (.t 26) (.c (.int .i64 (-1)))) 24,kX 28 24 27,oM 29 28,kM 30 71 1 2 29,u9G 31 (.iload 2 (.t 30)) 29,kM 32 71 1 0 29,u9G 33 (.iload 2 (.t 32)) 29,iE 34 .geq 2 31 33 29,kX 35 29 34,oM 36 35,kM 37 71 1 3 36,u9G 38 (.iload 66 (.t 37)) 36,kT 39 66 38 36,iH 40 .lss 2 39 2 36,kX 41 36 40,oM 42 41,kM 43 71 1 3 42,u9G 44 (.iload 66 (.t 43)) 42,kT 45 66 44 42,iH 46 .gtr 2 45 4096 42,kX 47 42 46],gp 47 (e9 [rg [iV 2 410],.ret]) .skip],rg [iV 3 0],e9 [rg [oF 48 71 1 3,ld 49 66 48,oN 50 66 49,oO 51 (.move (u9I 0))],.block 0 (.loop (e9 [rg [gS 52 .lss 2 51 50],gp 52 .skip (.exit 0),.block 1 (e9 [rg [oM 53 51,oI 54 66 49 51,oL 55 72 54,jO 5 72,oA 4 53,jL 72 5 55],e9 [rg [oF 56 72 5 0,oF 57 65 56 0,oL 58 2 57,iu 59 .lss 2 58 1,oM 60 59,kM 61 72 5 0 60,kM 62 65 61 0 60,ky 63 2 62 60,iH 64 .gtr 2 63 5 60,kX 65 60 64,oM 66 65,kM 67 72 5 0 66,kM 68 65 67 1 66,ky 69 2 68 66,u9G 70 (.bin .lss 2 (.t 69) (.c (.int .i64 (-1)))) 66,kX 71 66 70,oM 72 71,kM 73 72 5 0 72,kM 74 65 73 1 72,ky 75 2 74 72,iH 76 .gtr 2 75 4095 72,kX 77 72 76,oM 78 77,kM 79 72 5 1 78,ky 80 2 79 78,iH 81 .eql 2 80 0 78,kX 82 78 81,oM 83 82,kM 84 72 5 1 83,ky 85 2 84 83,u9G 86 (.bin .lss 2 (.t 85) (.c (.int .i64 (-1099511627776)))) 83,kX 87 83 86,oM 88 87,kM 89 72 5 1 88,ky 90 2 89 88,iH 91 .gtr 2 90 1099511627776 88,kX 92 88 91],gp 92 (e9 [rg [iV 2 410],.ret]) .skip],e9 [.region true [] [oM 93 4,iu 94 .gtr 2 93 0,oM 95 94,⟨some 96,.faddr 71 (.t 1) 3,some (95,true)⟩,⟨some 97,.iload 66 (.t 96),some (95,true)⟩,⟨some 98,.move (.t 4),some (95,true)⟩,⟨some 99,.bin .sub 2 (.t 98) (u9I 1),some (95,true)⟩,⟨some 100,.iaddr 66 (.t 97) (.t 99),some (95,true)⟩,⟨some 101,.faddr 72 (.t 100) 0,some (95,true)⟩,⟨some 102,.load 65 (.t 101),some (95,true)⟩,⟨some 103,.faddr 72 (.t 5) 0,some (95,true)⟩,⟨some 104,.load 65 (.t 103),some (95,true)⟩,⟨some 105,.call 0 (.f 362) [.t 102,.t 104],some (95,true)⟩,⟨some 106,.bin .geq 2 (.t 105) (u9I 0),some (95,true)⟩,kY 107 95 106],gp 107 (e9 [rg [iV 2 410],.ret]) .skip],rg [oM 108 3,oF 109 72 5 1,oL 110 2 109,gS 111 .add 2 108 110,oA 3 111]]),rg [iu 112 .add 2 51 1,oM 51 112]]))],e9 [rg [oM 113 3,iu 114 .neq 2 113 0],gp 114 (e9 [rg [iV 2 411],.ret]) .skip],rg [iV 2 0],.ret]⟩
def f356:DFn := ⟨8,[.tmp 2],
 e9 [rg [oO 2 (.assign (.c (.imm .exact [])))],rg [oO 5 (.bslice false 70 0 []),oM 6 0,oO 7 (.append 1 70 70 (.t 5) (.t 6)),oA 2 7],.ret]⟩
def f359:DFn := ⟨4,[.tmp 2],
 e9 [rg [oO 1 (.ibox 70 (.t 0)),oO 2 (.assign (.c .nilfn))],rg [oO 3 (.mkfn 380 [.t 1]),oA 2 3],.ret]⟩
def f361:DFn := ⟨2,[],
 .seq (rg [⟨some 2,.mark false (u9I 0),none⟩])
 (.ifp (.t 2) (.cond (.c .undef) .skip .skip) (.seq (rg [ oE (.prim 0 [(.t 0),(.t 1)])]) .ret))⟩
def f362:DFn := ⟨17,[.tmp 4],
 e9 [rg [oO 2 (.ibox 65 (.t 0)),oO 3 (.ibox 65 (.t 1)),iV 4 0],.region true [] [oF 5 65 2 0,ld 6 2 5,oF 7 65 3 0,ld 8 2 7,jb 9 74 [.t 6,.t 8],oF 10 65 2 1,ld 11 2 10,oF 12 65 3 1,ld 13 2 12,jb 14 74 [.t 11,.t 13],oO 15 (.bslice false 6 2 [(0,.t 9),(1,.t 14)]),jb 16 105 [.t 15],oA 4 16],.ret]⟩
def f363:DFn := ⟨61,[.tmp 2],
 e9 [rg [oO 2 (.assign (.c (.imm .exact [])))],e9 [rg [oM 6 0,oN 7 67 6,iu 8 .lss 2 7 2],gp 8 (e9 [rg [oM 9 0,oA 2 9],.ret]) .skip],e9 [rg [iV 3 1],.block 0 (.loop (e9 [e9 [rg [oM 10 3,oM 11 0,oN 12 67 11,gS 13 .lss 2 10 12],gp 13 .skip (.exit 0)],.block 1 (e9 [.region true [] [oM 16 0,oM 17 3,oI 18 67 16 17,oL 19 65 18,oM 20 0,oM 21 3,iu 22 .sub 2 21 1,oI 23 67 20 22,oL 24 65 23,gS 25 .eql 65 19 24],gp 25 (e9 [rg [oM 26 0,oM 27 3,oO 28 (.slice 67 (.t 26) (some (.t 27)) none none),oA 4 28],e9 [rg [iV 5 1],.block 2 (.loop (e9 [e9 [rg [oM 29 5,oM 30 4,oN 31 67 30,gS 32 .lss 2 29 31],gp 32 .skip (.exit 2)],.block 3 (e9 [.region true [] [oM 35 4,oM 36 5,oI 37 67 35 36,oL 38 65 37,oM 39 4,oM 40 5,iu 41 .sub 2 40 1,oI 42 67 39 41,oL 43 65 42,gS 44 .neq 65 38 43],gp 44 (e9 [rg [oM 45 0,oM 46 3,oM 47 4,oM 48 5,oI 49 67 47 48,oL 50 65 49,oI 51 67 45 46,jL 65 51 50],rg [oM 52 3,iu 53 .add 2 52 1,oA 3 53]]) .skip]),rg [oM 33 5,iu 34 .add 2 33 1,oA 5 34]]))],rg [oM 54 0,oM 55 3,oO 56 (.slice 67 (.t 54) (some (.t 55)) none none),oE (.clr 67 (.t 56))],rg [oM 57 0,oM 58 3,oO 59 (.reslice 67 (.t 57) (.t 58)),oA 2 59],.ret]) .skip]),rg [oM 14 3,iu 15 .add 2 14 1,oA 3 15]]))],rg [oM 60 0,oA 2 60],.ret]⟩
def f364:DFn := ⟨69,[.cell 2 73],
 e9 [rg [jO 2 73],rg [oO 9 (.load 76 (.c (.iptr [.int .u32 1779033703,.int .u32 3144134277,.int .u32 1013904242,.int .u32 2773480762,.int .u32 1359893119,.int .u32 2600822924,.int .u32 528734635,.int .u32 1541459225]))),jO 3 77,jL 77 3 9],rg [oO 10 (.mkbfn 404 (.t 3)),oA 4 10],rg [oM 11 0,oA 5 11],.block 0 (.loop (e9 [e9 [rg [oM 12 5,oN 13 30 12,iu 14 .geq 2 13 64],gp 14 .skip (.exit 0)],.block 1 (rg [oM 17 4,oM 18 5,oO 19 (.slice 30 (.t 18) none (some (u9I 64)) none),oO 20 (.call 2 (.t 17) [.t 19])]),rg [oM 15 5,oO 16 (.slice 30 (.t 15) (some (u9I 64)) none none),oA 5 16]])),rg [oO 21 (.mkcap 30 (u9I 64) (u9I 128)),oA 6 21],rg [oM 22 6,oM 23 5,oO 24 (.copy 30 30 (.t 22) (.t 23))],rg [oM 25 6,oM 26 5,oN 27 30 26,oI 28 30 25 27,oE (.store 13 (.t 28) (.c (.int .u8 128)))],e9 [rg [oM 29 5,oN 30 30 29,iu 31 .gtr 2 30 55],gp 31 (rg [oM 32 6,oO 33 (.reslice 30 (.t 32) (u9I 128)),oA 6 33]) .skip],rg [oM 34 6,oM 35 6,oN 36 30 35,iu 37 .sub 2 36 8,oO 38 (.slice 30 (.t 34) (some (.t 37)) none none),oM 39 0,oN 40 30 39,oO 41 (.conv 2 63 (.t 40)),oO 42 (.bin .mul 63 (.t 41) (.c (.int .u64 8))),oO 43 (.call 2 (.f 383) [.t 38,.t 42])],.block 2 (.loop (e9 [e9 [rg [oM 44 6,oN 45 30 44,iu 46 .gtr 2 45 0],gp 46 .skip (.exit 2)],.block 3 (rg [oM 49 4,oM 50 6,oO 51 (.slice 30 (.t 50) none (some (u9I 64)) none),oO 52 (.call 2 (.t 49) [.t 51])]),rg [oM 47 6,oO 48 (.slice 30 (.t 47) (some (u9I 64)) none none),oA 6 48]])),e9 [rg [oL 53 77 3,oO 54 (.move (u9I 0))],.block 4 (.loop (e9 [rg [iu 55 .lss 2 54 8],gp 55 .skip (.exit 4),.block 5 (e9 [rg [oM 56 54,oO 57 (.index 77 (.t 53) (.t 54)),oA 7 56,oA 8 57],rg [oM 58 7,oO 59 (.bin .mul 2 (u9I 4) (.t 58)),oM 60 7,oO 61 (.bin .mul 2 (u9I 4) (.t 60)),iu 62 .add 2 61 4,oO 63 (.slice 73 (.t 2) (some (.t 59)) (some (.t 62)) none),oM 64 8,oO 65 (.conv 78 63 (.t 64)),oO 66 (.call 2 (.f 383) [.t 63,.t 65])]]),rg [iu 67 .add 2 54 1,oM 54 67]]))],rg [oL 68 73 2,jL 73 2 68],.ret]⟩
def f365:DFn := ⟨36,[.tmp 2],
 e9 [rg [oO 2 (.assign (.c (.imm .exact [])))],rg [iV 3 0],e9 [rg [oM 9 0,oN 10 74 9,oO 11 (.move (u9I 0))],.block 0 (.loop (e9 [rg [gS 12 .lss 2 11 10],gp 12 .skip (.exit 0),.block 1 (e9 [rg [oI 13 74 9 11,oL 14 30 13,oA 5 14],rg [oM 15 3,oM 16 5,oN 17 30 16,gS 18 .add 2 15 17,oA 3 18],rg [oM 19 3,iu 20 .lss 2 19 0],gp 20 (.cond (.c .undef) .skip .skip) .skip]),rg [iu 22 .add 2 11 1,oM 11 22]]))],rg [oM 23 3,oO 24 (.call 2 (.f 384) [.c (.imm .exact []),.t 23]),oA 6 24],e9 [rg [oM 25 0,oN 26 74 25,oO 27 (.move (u9I 0))],.block 2 (.loop (e9 [rg [gS 28 .lss 2 27 26],gp 28 .skip (.exit 2),.block 3 (e9 [rg [oI 29 74 25 27,oL 30 30 29,oA 8 30],rg [oM 31 6,oM 32 8,oO 33 (.append 0 30 30 (.t 31) (.t 32)),oA 6 33]]),rg [iu 34 .add 2 27 1,oM 27 34]]))],rg [oM 35 6,oA 2 35],.ret]⟩
def f366:DFn := ⟨22,[.cell 2 55],
 e9 [rg [jO 2 55],rg [oO 6 (.build 55 [(0,u9I 3)]),jO 3 55,jL 55 3 6],e9 [rg [oM 7 0,oN 8 6 7,oO 9 (.move (u9I 0))],.block 0 (.loop (e9 [rg [gS 10 .lss 2 9 8],gp 10 .skip (.exit 0),.block 1 (e9 [rg [oI 11 6 7 9,oL 12 2 11,oA 5 12],rg [oF 13 55 3 3,oL 14 56 13,oM 15 5,oO 16 (.build 55 [(0,u9I 1),(1,.t 15)]),oO 17 (.bslice false 56 1 [(0,.t 16)]),oO 18 (.append 0 56 56 (.t 14) (.t 17)),oF 19 55 3 3,jL 56 19 18]]),rg [iu 20 .add 2 9 1,oM 9 20]]))],rg [oL 21 55 3,jL 55 2 21],.ret]⟩
def f367:DFn := ⟨6,[.tmp 2],
 e9 [rg [oO 2 (.assign (u9B false))],rg [oM 3 0,jb 4 368 [.t 3,u9I 0,u9I 7],jQ 5 4,oA 2 5],.ret]⟩
def f368:DFn := ⟨15,[.tmp 6],
 e9 [rg [oO 6 (.assign (u9B false))],rg [oM 7 1,oM 8 0,gS 9 .leq 2 7 8,oM 10 9,⟨some 11,.move (.t 0),some (10,true)⟩,⟨some 12,.move (.t 2),some (10,true)⟩,⟨some 13,.bin .leq 2 (.t 11) (.t 12),some (10,true)⟩,kY 14 10 13,oA 6 14],.ret]⟩
def f369:DFn := ⟨10,[.tmp 8],
 e9 [rg [oO 4 (.ibox 37 (.t 0)),oO 5 (.ibox 2 (.t 1)),oO 6 (.ibox 2 (.t 2)),oO 7 (.ibox 2 (.t 3)),oO 8 (.assign (.c .nilfn))],rg [oO 9 (.mkfn 385 [.t 5,.t 4,.t 6,.t 7]),oA 8 9],.ret]⟩
def f370:DFn := ⟨29,[.tmp 2],
 e9 [rg [oO 2 (.assign (.c (.imm .exact [])))],rg [oO 3 (.assign (.f 386))],e9 [rg [oM 6 0,oO 7 (.call 2 (.f 387) [.t 6]),oM 8 3,oO 9 (.call 2 (.f 388) [.t 7,.t 8]),oN 10 67 9,oO 11 (.move (u9I 0))],.block 0 (.loop (e9 [rg [gS 12 .lss 2 11 10],gp 12 .skip (.exit 0),.block 1 (e9 [rg [oI 13 67 9 11,oL 14 65 13,jO 5 65,jL 65 5 14],rg [oM 15 0,oL 16 65 5,oO 17 (.lookup 75 (.t 15) (.t 16) false),iu 18 .neq 2 17 0],gp 18 (.region true [] [oM 19 2,oL 20 65 5,oM 21 0,oL 22 65 5,oO 23 (.lookup 75 (.t 21) (.t 22) false),oO 24 (.build 72 [(0,.t 20),(1,.t 23)]),oO 25 (.bslice false 66 1 [(0,.t 24)]),oO 26 (.append 0 66 66 (.t 19) (.t 25)),oA 2 26]) .skip]),rg [iu 27 .add 2 11 1,oM 11 27]]))],rg [oM 28 2,oA 2 28],.ret]⟩
def f375:DFn := ⟨65,[.tmp 2],
 e9 [rg [oO 2 (.assign (u9B false))],e9 [rg [oM 7 0,oN 8 66 7,oO 9 (.move (u9I 0))],.block 0 (.loop (e9 [rg [gS 10 .lss 2 9 8],gp 10 .skip (.exit 0),.block 1 (e9 [rg [oM 11 9,oI 12 66 7 9,oL 13 72 12,jO 4 72,oA 3 11,jL 72 4 13],rg [oF 14 72 4 0,oL 15 65 14,jO 5 65,jL 65 5 15],e9 [rg [oF 16 65 5 0,oL 17 2 16,jb 18 368 [.t 17,u9I 1,u9I 4],jQ 19 18,oM 20 19,kM 21 65 5 1 20,ky 22 2 21 20,jr 23 368 [.t 22,.c (.int .i64 (-1)),u9I 4095] 20,j0 24 23 20,kX 25 20 24,oM 26 25,kM 27 72 4 1 26,ky 28 2 27 26,jr 29 368 [.t 28,.c (.int .i64 (-1099511627776)),u9I 1099511627776] 26,j0 30 29 26,kX 31 26 30,oM 32 31,kM 33 72 4 1 32,ky 34 2 33 32,iH 35 .eql 2 34 0 32,kX 36 32 35],gp 36 (e9 [rg [oO 2 (.assign (u9B false))],.ret]) .skip],rg [oM 37 3,iu 38 .gtr 2 37 0],gp 38 (e9 [rg [oM 39 0,oM 40 3,iu 41 .sub 2 40 1,oI 42 66 39 41,oF 43 72 42 0,oL 44 65 43,jO 6 65,jL 65 6 44],rg [oF 45 65 6 0,oL 46 2 45,oF 47 65 5 0,oL 48 2 47,gS 49 .gtr 2 46 48,oM 50 49,kM 51 65 6 0 50,ky 52 2 51 50,kM 53 65 5 0 50,ky 54 2 53 50,iE 55 .eql 2 52 54 50,u9G 56 (.move (.t 55)) 50,⟨some 57,.faddr 65 (.t 6) 1,some (56,true)⟩,⟨some 58,.load 2 (.t 57),some (56,true)⟩,⟨some 59,.faddr 65 (.t 5) 1,some (56,true)⟩,⟨some 60,.load 2 (.t 59),some (56,true)⟩,⟨some 61,.bin .geq 2 (.t 58) (.t 60),some (56,true)⟩,u9G 62 (.pick (.t 56) (.t 61) (u9B false)) 50,kX 63 50 62],gp 63 (e9 [rg [oO 2 (.assign (u9B false))],.ret]) .skip]) .skip]),rg [iu 64 .add 2 9 1,oM 9 64]]))],rg [oO 2 (.assign (u9B true))],.ret]⟩
def f380:DFn := ⟨28,[],
 e9 [rg [oL 7 70 1,oN 8 70 7,oO 9 (.move (u9I 0))],.block 0 (.loop (e9 [rg [gS 10 .lss 2 9 8],gp 10 .skip (.exit 0),.block 1 (e9 [rg [oI 11 70 7 9,oL 12 71 11,jO 4 71,jL 71 4 12],rg [oF 13 71 4 3,oL 14 66 13,oN 15 66 14,oO 16 (.move (u9I 0))],.block 2 (.loop (e9 [rg [gS 17 .lss 2 16 15],gp 17 .skip (.exit 2),.block 3 (e9 [rg [oI 18 66 14 16,oL 19 72 18,jO 6 72,jL 72 6 19],rg [oM 20 0,oF 21 71 4 1,oL 22 2 21,oL 23 72 6,oO 24 (.call 2 (.t 20) [.t 22,.t 23]),jQ 25 24],gp 25 .ret .skip]),rg [iu 26 .add 2 16 1,oM 16 26]]))]),rg [iu 27 .add 2 9 1,oM 9 27]]))]⟩
def f383:DFn := ⟨23,[],
 e9 [rg [oM 5 0,oN 6 30 5,oO 7 (.move (u9I 0))],.block 0 (.loop (e9 [rg [gS 8 .lss 2 7 6],gp 8 .skip (.exit 0),.block 1 (e9 [rg [oM 9 7,oA 4 9],rg [oM 10 0,oM 11 0,oN 12 30 11,iu 13 .sub 2 12 1,oM 14 4,gS 15 .sub 2 13 14,oM 16 1,oM 17 4,oO 18 (.bin .mul 2 (u9I 8) (.t 17)),gS 19 .shr 63 16 18,oO 20 (.conv 63 13 (.t 19)),oI 21 30 10 15,jL 13 21 20]]),rg [iu 22 .add 2 7 1,oM 7 22]]))]⟩
def f384:DFn := ⟨2,[.tmp 0],
 .seq (rg [⟨some 2,.mark false (u9I 0),none⟩])
 (.ifp (.t 2) (.cond (.c .undef) .skip .skip)
 (.seq (rg [⟨some 0,.append 1 30 30 (.t 0) (.c (.imm .exact [])),none⟩,⟨some 0,.len 30 (.t 0),none⟩,⟨some 0,.bin .eql 2 (.t 0) (u9I 0),none⟩, oE (.bin .lss 2 (.t 1) (u9I 0)), oE (.mkslice false 30 (.t 1) (.t 1))])
 (.cond (.t 0) (.seq (rg [⟨some 0,.append 0 30 30 (.c (.imm .exact [])) (.c (.imm .exact [])),none⟩]) .ret) (.cond (.c .undef) .skip .skip))))⟩
def f385:DFn := ⟨39,[],
 .region false [] [oM 6 0,oL 7 2 1,oO 8 (.build 65 [(0,u9I 1),(1,.t 7)]),oF 9 37 2 2,oL 10 2 9,oO 11 (.call 2 (.t 6) [.t 8,.t 10]),oM 12 11,⟨some 13,.move (.t 0),some (12,true)⟩,⟨some 14,.load 2 (.t 3),some (12,true)⟩,⟨some 15,.build 65 [(0,u9I 2),(1,.t 14)],some (12,true)⟩,⟨some 16,.faddr 37 (.t 2) 2,some (12,true)⟩,⟨some 17,.load 2 (.t 16),some (12,true)⟩,⟨some 18,.call 2 (.t 13) [.t 15,.t 17],some (12,true)⟩,kY 19 12 18,oM 20 19,⟨some 21,.move (.t 0),some (20,true)⟩,⟨some 22,.faddr 37 (.t 2) 0,some (20,true)⟩,⟨some 23,.load 2 (.t 22),some (20,true)⟩,⟨some 24,.build 65 [(0,u9I 3),(1,.t 23)],some (20,true)⟩,⟨some 25,.faddr 37 (.t 2) 2,some (20,true)⟩,⟨some 26,.load 2 (.t 25),some (20,true)⟩,⟨some 27,.un .neg (.t 26),some (20,true)⟩,⟨some 28,.call 2 (.t 21) [.t 24,.t 27],some (20,true)⟩,kY 29 20 28,oM 30 29,⟨some 31,.move (.t 0),some (30,true)⟩,⟨some 32,.load 2 (.t 4),some (30,true)⟩,⟨some 33,.build 65 [(0,u9I 4),(1,.t 32)],some (30,true)⟩,⟨some 34,.faddr 37 (.t 2) 2,some (30,true)⟩,⟨some 35,.load 2 (.t 34),some (30,true)⟩,⟨some 36,.un .neg (.t 35),some (30,true)⟩,⟨some 37,.call 2 (.t 31) [.t 33,.t 36],some (30,true)⟩,kY 38 30 37]⟩
def f386:DFn := ⟨17,[.tmp 4],
 e9 [rg [oO 2 (.ibox 65 (.t 0)),oO 3 (.ibox 65 (.t 1)),iV 4 0],.region true [] [oF 5 65 2 0,ld 6 2 5,oF 7 65 3 0,ld 8 2 7,jb 9 74 [.t 6,.t 8],oF 10 65 2 1,ld 11 2 10,oF 12 65 3 1,ld 13 2 12,jb 14 74 [.t 11,.t 13],oO 15 (.bslice false 6 2 [(0,.t 9),(1,.t 14)]),jb 16 105 [.t 15],oA 4 16],.ret]⟩
def f387:DFn := ⟨4,[.tmp 2],
 e9 [rg [oO 1 (.ibox 75 (.t 0)),oO 2 (.assign (.c .nilfn))],rg [oO 3 (.mkfn 409 [.t 1]),oA 2 3],.ret]⟩
def f388:DFn := ⟨2,[.tmp 1],
 .seq (rg [⟨some 2,.mark false (u9I 0),none⟩])
 (.ifp (.t 2) (.cond (.c .undef) .skip .skip) (.seq (rg [⟨some 1,.prim 1 [(.t 0),(.t 1)],none⟩]) .ret))⟩
def f404:DFn := ⟨144,[],
 e9 [rg [jO 4 80],e9 [rg [oO 14 (.move (u9I 0))],.block 0 (.loop (e9 [rg [iu 15 .lss 2 14 16],gp 15 .skip (.exit 0),.block 1 (e9 [rg [oM 16 14,oA 5 16],rg [oM 17 5,oM 18 1,oM 19 5,oO 20 (.bin .mul 2 (u9I 4) (.t 19)),oO 21 (.slice 30 (.t 18) (some (.t 20)) none none),oO 22 (.call 3 (.f 405) [.t 21]),oI 23 80 4 17,jL 78 23 22]]),rg [iu 24 .add 2 14 1,oM 14 24]]))],e9 [rg [iV 6 16],.block 2 (.loop (e9 [e9 [rg [oM 25 6,iu 26 .lss 2 25 64],gp 26 .skip (.exit 2)],.block 3 (e9 [.region true [] [oM 29 6,iu 30 .sub 2 29 15,oI 31 80 4 30,oL 32 78 31,oM 33 6,iu 34 .sub 2 33 2,oI 35 80 4 34,oL 36 78 35,oA 7 32,oA 8 36],.region true [] [oM 37 6,oM 38 6,iu 39 .sub 2 38 16,oI 40 80 4 39,oL 41 78 40,oM 42 7,jb 43 406 [.t 42,.c (.int .i64 (-7))],oM 44 7,jb 45 406 [.t 44,.c (.int .i64 (-18))],gS 46 .xor 78 43 45,oM 47 7,oO 48 (.bin .shr 78 (.t 47) (.c (.int .u64 3))),gS 49 .xor 78 46 48,gS 50 .add 78 41 49,oM 51 6,iu 52 .sub 2 51 7,oI 53 80 4 52,oL 54 78 53,gS 55 .add 78 50 54,oM 56 8,jb 57 406 [.t 56,.c (.int .i64 (-17))],oM 58 8,jb 59 406 [.t 58,.c (.int .i64 (-19))],gS 60 .xor 78 57 59,oM 61 8,oO 62 (.bin .shr 78 (.t 61) (.c (.int .u64 10))),gS 63 .xor 78 60 62,gS 64 .add 78 55 63,oI 65 80 4 37,jL 78 65 64]]),rg [oM 27 6,iu 28 .add 2 27 1,oA 6 28]]))],rg [oM 66 0,oO 67 (.nilc (.t 66)),oL 68 77 67,jO 9 77,jL 77 9 68],e9 [rg [oO 69 (.move (u9I 0))],.block 4 (.loop (e9 [rg [iu 70 .lss 2 69 64],gp 70 .skip (.exit 4),.block 5 (e9 [rg [oM 71 69,oA 10 71],.region true [] [oO 72 (.iaddr 77 (.t 9) (u9I 7)),oL 73 78 72,oO 74 (.iaddr 77 (.t 9) (u9I 4)),oL 75 78 74,jb 76 407 [.t 75,u9I 6,u9I 11,u9I 25],gS 77 .add 78 73 76,oO 78 (.iaddr 77 (.t 9) (u9I 6)),oL 79 78 78,oO 80 (.iaddr 77 (.t 9) (u9I 4)),oL 81 78 80,oO 82 (.iaddr 77 (.t 9) (u9I 5)),oL 83 78 82,oO 84 (.iaddr 77 (.t 9) (u9I 6)),oL 85 78 84,gS 86 .xor 78 83 85,gS 87 .and 78 81 86,gS 88 .xor 78 79 87,gS 89 .add 78 77 88,oM 90 10,oO 91 (.iaddr 80 (.c (.iptr [.int .u32 1116352408,.int .u32 1899447441,.int .u32 3049323471,.int .u32 3921009573,.int .u32 961987163,.int .u32 1508970993,.int .u32 2453635748,.int .u32 2870763221,.int .u32 3624381080,.int .u32 310598401,.int .u32 607225278,.int .u32 1426881987,.int .u32 1925078388,.int .u32 2162078206,.int .u32 2614888103,.int .u32 3248222580,.int .u32 3835390401,.int .u32 4022224774,.int .u32 264347078,.int .u32 604807628,.int .u32 770255983,.int .u32 1249150122,.int .u32 1555081692,.int .u32 1996064986,.int .u32 2554220882,.int .u32 2821834349,.int .u32 2952996808,.int .u32 3210313671,.int .u32 3336571891,.int .u32 3584528711,.int .u32 113926993,.int .u32 338241895,.int .u32 666307205,.int .u32 773529912,.int .u32 1294757372,.int .u32 1396182291,.int .u32 1695183700,.int .u32 1986661051,.int .u32 2177026350,.int .u32 2456956037,.int .u32 2730485921,.int .u32 2820302411,.int .u32 3259730800,.int .u32 3345764771,.int .u32 3516065817,.int .u32 3600352804,.int .u32 4094571909,.int .u32 275423344,.int .u32 430227734,.int .u32 506948616,.int .u32 659060556,.int .u32 883997877,.int .u32 958139571,.int .u32 1322822218,.int .u32 1537002063,.int .u32 1747873779,.int .u32 1955562222,.int .u32 2024104815,.int .u32 2227730452,.int .u32 2361852424,.int .u32 2428436474,.int .u32 2756734187,.int .u32 3204031479,.int .u32 3329325298])) (.t 90)),oL 92 78 91,gS 93 .add 78 89 92,oM 94 10,oI 95 80 4 94,oL 96 78 95,gS 97 .add 78 93 96,oA 11 97],.region true [] [oO 98 (.iaddr 77 (.t 9) (u9I 0)),oL 99 78 98,jb 100 407 [.t 99,u9I 2,u9I 13,u9I 22],oO 101 (.iaddr 77 (.t 9) (u9I 0)),oL 102 78 101,oO 103 (.iaddr 77 (.t 9) (u9I 1)),oL 104 78 103,gS 105 .and 78 102 104,oO 106 (.iaddr 77 (.t 9) (u9I 2)),oL 107 78 106,oO 108 (.iaddr 77 (.t 9) (u9I 0)),oL 109 78 108,oO 110 (.iaddr 77 (.t 9) (u9I 1)),oL 111 78 110,gS 112 .or 78 109 111,gS 113 .and 78 107 112,gS 114 .or 78 105 113,gS 115 .add 78 100 114,oA 12 115],.region true [] [oO 116 (.slice 77 (.t 9) (some (u9I 1)) none none),oO 117 (.slice 77 (.t 9) none (some (u9I 7)) none),oO 118 (.copy 81 81 (.t 116) (.t 117))],rg [oO 119 (.iaddr 77 (.t 9) (u9I 4)),oL 120 78 119,oM 121 11,gS 122 .add 78 120 121,oO 123 (.iaddr 77 (.t 9) (u9I 4)),jL 78 123 122],rg [oM 124 11,oM 125 12,gS 126 .add 78 124 125,oO 127 (.iaddr 77 (.t 9) (u9I 0)),jL 78 127 126]]),rg [iu 128 .add 2 69 1,oM 69 128]]))],rg [oO 129 (.move (u9I 0))],.block 6 (.loop (e9 [rg [iu 130 .lss 2 129 8],gp 130 .skip (.exit 6),.block 7 (e9 [rg [oM 131 129,oA 13 131],.region true [] [oM 132 0,oM 133 13,oO 134 (.nilc (.t 132)),oI 135 77 134 133,oL 136 78 135,oM 137 13,oI 138 77 9 137,oL 139 78 138,gS 140 .add 78 136 139,oO 141 (.nilc (.t 132)),oI 142 77 141 133,jL 78 142 140]]),rg [iu 143 .add 2 129 1,oM 129 143]]))]⟩
def f405:DFn := ⟨19,[.tmp 2],
 e9 [rg [oO 2 (.assign (.c (.int .u32 0)))],e9 [rg [oM 5 0,oO 6 (.slice 30 (.t 5) none (some (u9I 4)) none),oN 7 30 6,oO 8 (.move (u9I 0))],.block 0 (.loop (e9 [rg [gS 9 .lss 2 8 7],gp 9 .skip (.exit 0),.block 1 (e9 [rg [oI 10 30 6 8,oL 11 13 10,oA 4 11],rg [oM 12 2,oO 13 (.bin .shl 78 (.t 12) (.c (.int .u64 8))),oM 14 4,oO 15 (.conv 13 78 (.t 14)),gS 16 .or 78 13 15,oA 2 16]]),rg [iu 17 .add 2 8 1,oM 8 17]]))],rg [oM 18 2,oA 2 18],.ret]⟩
def f406:DFn := ⟨17,[.tmp 4],
 e9 [rg [oO 4 (.assign (.c (.int .u32 0)))],rg [oM 6 1,oO 7 (.conv 2 12 (.t 6)),oO 8 (.bin .and 12 (.t 7) (.c (.int .u64 31))),oA 5 8],rg [oM 9 0,oM 10 5,gS 11 .shl 78 9 10,oM 12 0,oM 13 5,oO 14 (.bin .sub 12 (.c (.int .u64 32)) (.t 13)),gS 15 .shr 78 12 14,gS 16 .or 78 11 15,oA 4 16],.ret]⟩
def f407:DFn := ⟨23,[.tmp 8],
 e9 [rg [oO 8 (.assign (.c (.int .u32 0)))],rg [oM 9 0,oM 10 1,oO 11 (.un .neg (.t 10)),jb 12 406 [.t 9,.t 11],oM 13 0,oM 14 2,oO 15 (.un .neg (.t 14)),jb 16 406 [.t 13,.t 15],gS 17 .xor 78 12 16,oM 18 0,oM 19 3,oO 20 (.un .neg (.t 19)),jb 21 406 [.t 18,.t 20],gS 22 .xor 78 17 21,oA 8 22],.ret]⟩
def f409:DFn := ⟨14,[],
 e9 [.cond (.c .undef) .skip .skip,.block 0 (.loop (e9 [.cond (.c .undef) .skip .skip,gp 7 .skip (.exit 0),.block 1 (e9 [.cond (.c .undef) .skip .skip,rg [oM 10 0,oL 11 65 3,oO 12 (.call 0 (.t 10) [.t 11]),jQ 13 12],gp 13 .ret .skip])]))]⟩
def f432:DFn := ⟨166,[.tmp 8],
 e9 [rg [oO 4 (.ibox 0 (.t 0)),oO 8 (.assign (u9B false))],e9 [rg [jb 22 339 [],jQ 23 22],gp 23 (e9 [rg [oO 8 (.assign (u9B false))],.ret]) .skip],e9 [rg [ld 24 0 4,oM 25 1,jb 26 179 [.t 24,.t 25],jQ 27 26,oM 28 27,u9G 29 (.iload 0 (.t 4)) 28,jr 30 2 [.t 29] 28,j0 31 30 28,kX 32 28 31,oM 33 32,u9G 34 (.move (.t 2)) 33,kT 35 6 34 33,iH 36 .gtr 2 35 20 33,kX 37 33 36],gp 37 (e9 [rg [oO 8 (.assign (u9B true))],.ret]) .skip],rg [ld 39 0 4,oM 40 1,jb 41 180 [.t 39,.t 40],oM 38 41,jI 42 38 0,jI 43 38 1,oA 9 42,oA 10 43],rg [ld 45 0 4,jb 46 184 [.t 45],oM 44 46,jI 47 44 0,jI 48 44 1,oA 11 47,oA 12 48],e9 [rg [oM 49 10,iu 50 .neq 3 49 0,oM 51 50,u9G 52 (.move (.t 12)) 51,iH 53 .neq 3 52 0 51,kX 54 51 53],gp 54 (e9 [rg [oM 55 10,iu 56 .neq 3 55 0,oM 57 56,⟨some 58,.move (.t 9),some (57,true)⟩,⟨some 59,.len 36 (.t 58),some (57,true)⟩,⟨some 60,.bin .eql 2 (.t 59) (u9I 0),some (57,true)⟩,kY 61 57 60,oA 8 61],.ret]) .skip],rg [ld 63 0 4,oM 64 2,oM 65 3,oO 66 (.bin .rem 13 (.t 65) (.c (.int .u8 4))),oO 67 (.conv 13 2 (.t 66)),oM 68 9,jb 69 340 [.t 63,.t 64,.t 67,.t 68],oM 62 69,jI 70 62 0,jI 71 62 1,oA 13 70,oA 14 71],e9 [rg [oM 72 14,iu 73 .neq 3 72 0],gp 73 (e9 [rg [oM 74 13,oN 75 66 74,iu 76 .eql 2 75 0,oA 8 76],.ret]) .skip],rg [iV 15 0,iV 16 0],e9 [rg [iV 17 0],.block 0 (.loop (e9 [e9 [rg [oM 77 17,oM 78 13,oN 79 66 78,gS 80 .lss 2 77 79],gp 80 .skip (.exit 0)],.block 1 (rg [oM 83 15,oM 84 13,oM 85 17,oI 86 66 84 85,oF 87 72 86 1,oL 88 2 87,gS 89 .add 2 83 88,oA 15 89]),rg [oM 81 17,iu 82 .add 2 81 1,oA 17 82]]))],e9 [rg [oM 90 15,iu 91 .neq 2 90 0,oM 92 91,u9G 93 (.move (.t 11)) 92,kT 94 6 93 92,kM 95 0 4 2 92,u9G 96 (.iload 14 (.t 95)) 92,kT 97 14 96 92,iE 98 .neq 2 94 97 92,kX 99 92 98],gp 99 (e9 [rg [oO 8 (.assign (u9B false))],.ret]) .skip],e9 [rg [iV 18 0],.block 2 (.loop (e9 [e9 [rg [oM 100 18,oF 101 0 4 2,ld 102 14 101,oN 103 14 102,gS 104 .lss 2 100 103],gp 104 .skip (.exit 2)],.block 3 (e9 [rg [iV 19 0],e9 [rg [iV 20 0],.block 4 (.loop (e9 [e9 [rg [oM 107 20,oF 108 0 4 2,ld 109 14 108,oN 110 14 109,gS 111 .lss 2 107 110],gp 111 .skip (.exit 4)],.block 5 (e9 [.region true [] [oF 114 0 4 2,ld 115 14 114,oM 116 20,oI 117 14 115 116,oF 118 15 117 0,oL 119 2 118,oF 120 0 4 2,ld 121 14 120,oM 122 18,oI 123 14 121 122,oF 124 15 123 0,oL 125 2 124,gS 126 .eql 2 119 125],gp 126 (rg [oM 127 19,oM 128 11,oM 129 20,oI 130 6 128 129,oL 131 2 130,gS 132 .add 2 127 131,oA 19 132]) .skip]),rg [oM 112 20,iu 113 .add 2 112 1,oA 20 113]]))],rg [oM 133 16,oM 134 11,oM 135 18,oI 136 6 134 135,oL 137 2 136,gS 138 .add 2 133 137,oA 16 138],rg [oF 139 0 4 2,ld 140 14 139,oM 141 18,oI 142 14 140 141,oF 143 15 142 0,oL 144 2 143,oA 21 144],rg [oM 145 21,iu 146 .geq 2 145 0,oM 147 146,⟨some 148,.move (.t 21),some (147,true)⟩,⟨some 149,.bin .leq 2 (.t 148) (u9I 4095),some (147,true)⟩,kY 150 147 149,oM 151 150,⟨some 152,.move (.t 13),some (151,true)⟩,⟨some 153,.move (.t 21),some (151,true)⟩,⟨some 154,.call 0 (.f 348) [.t 152,u9I 2,.t 153],some (151,true)⟩,⟨some 155,.move (.t 19),some (151,true)⟩,⟨some 156,.bin .neq 2 (.t 154) (.t 155),some (151,true)⟩,kY 157 151 156],gp 157 (e9 [rg [oO 8 (.assign (u9B false))],.ret]) .skip]),rg [oM 105 18,iu 106 .add 2 105 1,oA 18 106]]))],rg [oM 158 13,oM 159 3,oO 160 (.bin .rem 13 (.t 159) (.c (.int .u8 4))),oO 161 (.conv 13 2 (.t 160)),jb 162 348 [.t 158,u9I 4,.t 161],oM 163 16,oO 164 (.un .neg (.t 163)),gS 165 .eql 2 162 164,oA 8 165],.ret]⟩
def y46:Nat->TI
 | 0 => ⟨.struct [(0,10),(1,9),(2,14)],3,72,[(.imm .exact []),(.imm .exact []),(.imm .exact [])],false⟩
 | 1 => ⟨.slice 2,1,24,[(.imm .exact [])],false⟩
 | 2 => ⟨.int .i64,1,8,[(.int .i64 0)],false⟩
 | 3 => ⟨.int .i64,1,8,[(.int .i64 0)],false⟩
 | 4 => ⟨.slice 1,1,24,[(.imm .exact [])],false⟩
 | 6 => ⟨.slice 2,1,24,[(.imm .exact [])],false⟩
 | 7 => ⟨.bool,1,1,[(.bool false)],false⟩
 | 9 => ⟨.slice 6,1,24,[(.imm .exact [])],false⟩
 | 10 => ⟨.slice 20,1,24,[(.imm .exact [])],false⟩
 | 11 => ⟨.struct [(0,2),(1,2)],2,16,[(.int .i64 0),(.int .i64 0)],true⟩
 | 12 => ⟨.int .u64,1,8,[(.int .u64 0)],false⟩
 | 13 => ⟨.int .u8,1,1,[(.int .u8 0)],false⟩
 | 14 => ⟨.slice 15,1,24,[(.imm .exact [])],false⟩
 | 15 => ⟨.struct [(0,2),(1,2),(2,6),(3,16)],4,64,[(.int .i64 0),(.int .i64 0),(.imm .exact []),(.imm .exact [])],false⟩
 | 16 => ⟨.slice 17,1,24,[(.imm .exact [])],false⟩
 | 17 => ⟨.struct [(0,2),(1,2),(2,2),(3,18)],4,48,[(.int .i64 0),(.int .i64 0),(.int .i64 0),(.imm .exact [])],false⟩
 | 18 => ⟨.slice 19,1,24,[(.imm .exact [])],false⟩
 | 19 => ⟨.struct [(0,20),(3,2)],4,32,[(.bool false),(.int .i64 0),(.int .i64 0),(.int .i64 0)],true⟩
 | 20 => ⟨.struct [(0,7),(1,2),(2,2)],3,24,[(.bool false),(.int .i64 0),(.int .i64 0)],true⟩
 | 21 => ⟨.map 20 7,1,8,[(.map none)],false⟩
 | 22 => ⟨.arr 4 2,4,32,[(.int .i64 0),(.int .i64 0),(.int .i64 0),(.int .i64 0)],true⟩
 | 26 => ⟨.map 20 2,1,8,[(.map none)],false⟩
 | 28 => ⟨.struct [(0,4),(1,6),(2,6),(3,31)],4,96,[(.imm .exact []),(.imm .exact []),(.imm .exact []),(.imm .exact [])],false⟩
 | 29 => ⟨.struct [(0,6),(1,6),(2,31)],3,72,[(.imm .exact []),(.imm .exact []),(.imm .exact [])],false⟩
 | 30 => ⟨.slice 13,1,24,[(.imm .exact [])],false⟩
 | 31 => ⟨.slice 32,1,24,[(.imm .exact [])],false⟩
 | 32 => ⟨.struct [(0,1),(1,2),(2,9)],3,56,[(.imm .exact []),(.int .i64 0),(.imm .exact [])],false⟩
 | 33 => ⟨.func,1,8,[.nilfn],false⟩
 | 35 => ⟨.slice 1,1,24,[(.imm .exact [])],false⟩
 | 36 => ⟨.slice 37,1,24,[(.imm .exact [])],false⟩
 | 37 => ⟨.struct [(0,2),(1,2),(2,2)],3,24,[(.int .i64 0),(.int .i64 0),(.int .i64 0)],true⟩
 | 38 => ⟨.slice 39,1,24,[(.imm .exact [])],false⟩
 | 39 => ⟨.struct [(0,2),(1,9)],2,32,[(.int .i64 0),(.imm .exact [])],false⟩
 | 40 => ⟨.func,1,8,[.nilfn],false⟩
 | 53 => ⟨.str,1,16,[(.str [])],false⟩
 | 55 => ⟨.struct [(0,2),(1,2),(2,53),(3,56)],4,56,[(.int .i64 0),(.int .i64 0),(.str []),(.imm .exact [])],false⟩
 | 56 => ⟨.slice 55,1,24,[(.imm .exact [])],false⟩
 | 57 => ⟨.arr 4 58,4,32,[.nilfn,.nilfn,.nilfn,.nilfn],false⟩
 | 58 => ⟨.struct [(0,59)],1,8,[.nilfn],false⟩
 | 59 => ⟨.func,1,8,[.nilfn],false⟩
 | 62 => ⟨.ptr 57,1,8,[.nilp],false⟩
 | 63 => ⟨.int .u64,1,8,[(.int .u64 0)],false⟩
 | 64 => ⟨.arr 4 7,4,4,[(.bool false),(.bool false),(.bool false),(.bool false)],true⟩
 | 65 => ⟨.struct [(0,2),(1,2)],2,16,[(.int .i64 0),(.int .i64 0)],true⟩
 | 66 => ⟨.slice 72,1,24,[(.imm .exact [])],false⟩
 | 67 => ⟨.slice 65,1,24,[(.imm .exact [])],false⟩
 | 70 => ⟨.slice 71,1,24,[(.imm .exact [])],false⟩
 | 71 => ⟨.struct [(0,2),(1,2),(2,2),(3,66),(4,73)],36,80,[(.int .i64 0),(.int .i64 0),(.int .i64 0),(.imm .exact []),(.int .u8 0),(.int .u8 0),(.int .u8 0),(.int .u8 0),(.int .u8 0),(.int .u8 0),(.int .u8 0),(.int .u8 0),(.int .u8 0),(.int .u8 0),(.int .u8 0),(.int .u8 0),(.int .u8 0),(.int .u8 0),(.int .u8 0),(.int .u8 0),(.int .u8 0),(.int .u8 0),(.int .u8 0),(.int .u8 0),(.int .u8 0),(.int .u8 0),(.int .u8 0),(.int .u8 0),(.int .u8 0),(.int .u8 0),(.int .u8 0),(.int .u8 0),(.int .u8 0),(.int .u8 0),(.int .u8 0),(.int .u8 0)],false⟩
 | 72 => ⟨.struct [(0,65),(2,2)],3,24,[(.int .i64 0),(.int .i64 0),(.int .i64 0)],true⟩
 | 73 => ⟨.arr 32 13,32,32,[(.int .u8 0),(.int .u8 0),(.int .u8 0),(.int .u8 0),(.int .u8 0),(.int .u8 0),(.int .u8 0),(.int .u8 0),(.int .u8 0),(.int .u8 0),(.int .u8 0),(.int .u8 0),(.int .u8 0),(.int .u8 0),(.int .u8 0),(.int .u8 0),(.int .u8 0),(.int .u8 0),(.int .u8 0),(.int .u8 0),(.int .u8 0),(.int .u8 0),(.int .u8 0),(.int .u8 0),(.int .u8 0),(.int .u8 0),(.int .u8 0),(.int .u8 0),(.int .u8 0),(.int .u8 0),(.int .u8 0),(.int .u8 0)],true⟩
 | 74 => ⟨.slice 30,1,24,[(.imm .exact [])],false⟩
 | 75 => ⟨.map 65 2,1,8,[(.map none)],false⟩
 | 76 => ⟨.arr 8 78,8,32,[(.int .u32 0),(.int .u32 0),(.int .u32 0),(.int .u32 0),(.int .u32 0),(.int .u32 0),(.int .u32 0),(.int .u32 0)],true⟩
 | 77 => ⟨.arr 8 78,8,32,[(.int .u32 0),(.int .u32 0),(.int .u32 0),(.int .u32 0),(.int .u32 0),(.int .u32 0),(.int .u32 0),(.int .u32 0)],true⟩
 | 78 => ⟨.int .u32,1,4,[(.int .u32 0)],false⟩
 | 79 => ⟨.int .i64,1,8,[(.int .i64 0)],false⟩
 | 80 => ⟨.arr 64 78,64,256,[(.int .u32 0),(.int .u32 0),(.int .u32 0),(.int .u32 0),(.int .u32 0),(.int .u32 0),(.int .u32 0),(.int .u32 0),(.int .u32 0),(.int .u32 0),(.int .u32 0),(.int .u32 0),(.int .u32 0),(.int .u32 0),(.int .u32 0),(.int .u32 0),(.int .u32 0),(.int .u32 0),(.int .u32 0),(.int .u32 0),(.int .u32 0),(.int .u32 0),(.int .u32 0),(.int .u32 0),(.int .u32 0),(.int .u32 0),(.int .u32 0),(.int .u32 0),(.int .u32 0),(.int .u32 0),(.int .u32 0),(.int .u32 0),(.int .u32 0),(.int .u32 0),(.int .u32 0),(.int .u32 0),(.int .u32 0),(.int .u32 0),(.int .u32 0),(.int .u32 0),(.int .u32 0),(.int .u32 0),(.int .u32 0),(.int .u32 0),(.int .u32 0),(.int .u32 0),(.int .u32 0),(.int .u32 0),(.int .u32 0),(.int .u32 0),(.int .u32 0),(.int .u32 0),(.int .u32 0),(.int .u32 0),(.int .u32 0),(.int .u32 0),(.int .u32 0),(.int .u32 0),(.int .u32 0),(.int .u32 0),(.int .u32 0),(.int .u32 0),(.int .u32 0),(.int .u32 0)],true⟩
 | 81 => ⟨.slice 78,1,24,[(.imm .exact [])],false⟩
 | 82 => ⟨.int .u64,1,8,[(.int .u64 0)],false⟩
 |_ => ⟨.other,0,0,[],false⟩
def ylk:Nat->Option DFn
 | 2=>some f2
 | 3=>some f3
 | 7=>some f7
 | 14=>some f14
 | 15=>some f15
 | 22=>some f22
 | 61=>some f61
 | 62=>some f62
 | 63=>some f63
 | 66=>some f66
 | 67=>some f67
 | 68=>some f68
 | 69=>some f69
 | 70=>some f70
 | 71=>some f71
 | 72=>some f72
 | 73=>some f73
 | 74=>some f74
 | 75=>some f75
 | 76=>some f76
 | 83=>some f83
 | 84=>some f84
 | 87=>some f87
 | 94=>some f94
 | 96=>some f96
 | 102=>some f102
 | 104=>some f104
 | 105=>some f105
 | 106=>some f106
 | 107=>some f107
 | 110=>some f110
 | 113=>some f113
 | 122=>some f122
 | 123=>some f123
 | 129=>some f129
 | 131=>some f131
 | 133=>some f133
 | 139=>some f139
 | 140=>some f140
 | 142=>some f142
 | 150=>some f150
 | 151=>some f151
 | 157=>some f157
 | 158=>some f158
 | 159=>some f159
 | 160=>some f160
 | 161=>some f161
 | 162=>some f162
 | 165=>some f165
 | 166=>some f166
 | 167=>some f167
 | 168=>some f168
 | 169=>some f169
 | 172=>some f172
 | 173=>some f173
 | 174=>some f174
 | 175=>some f175
 | 176=>some f176
 | 179=>some f179
 | 180=>some f180
 | 181=>some f181
 | 184=>some f184
 | 191=>some f191
 | 192=>some f192
 | 193=>some f193
 | 194=>some f194
 | 195=>some f195
 | 198=>some f198
 | 199=>some f199
 | 200=>some f200
 | 201=>some f201
 | 202=>some f202
 | 264=>some f264
 | 281=>some f281
 | 282=>some f282
 | 297=>some f297
 | 298=>some f298
 | 299=>some f299
 | 300=>some f300
 | 311=>some f311
 | 312=>some f312
 | 316=>some f316
 | 318=>some f318
 | 324=>some f324
 | 325=>some f325
 | 331=>some f331
 | 334=>some f334
 | 335=>some f335
 | 339=>some f339
 | 340=>some f340
 | 342=>some f342
 | 345=>some f345
 | 346=>some f346
 | 348=>some f348
 | 350=>some f350
 | 352=>some f352
 | 354=>some f354
 | 355=>some f355
 | 356=>some f356
 | 359=>some f359
 | 361=>some f361
 | 362=>some f362
 | 363=>some f363
 | 364=>some f364
 | 365=>some f365
 | 366=>some f366
 | 367=>some f367
 | 368=>some f368
 | 369=>some f369
 | 370=>some f370
 | 375=>some f375
 | 380=>some f380
 | 383=>some f383
 | 384=>some f384
 | 385=>some f385
 | 386=>some f386
 | 387=>some f387
 | 388=>some f388
 | 404=>some f404
 | 405=>some f405
 | 406=>some f406
 | 407=>some f407
 | 409=>some f409
 | 432=>some f432
 |_ => none
def yds:Nat->Bool
 | 166 => true
 | 168 => true
 | 175 => true
 |_ => false
def yl6:Nat->Bool
 |_ => false
def E:Env := ⟨y46,ylk,yds,yl6,yd4⟩
end Dv
