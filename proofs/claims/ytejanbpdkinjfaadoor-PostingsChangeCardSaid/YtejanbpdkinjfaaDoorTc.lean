/- Texts that a proof of this claim uses, joined: Lw.TCode. -/
import Derived.Test.YtejanbpdkinjfaaDoorLwa
import Derived.Test.YtejanbpdkinjfaaDoorCode
import Derived.KernelRfl
set_option linter.all false
namespace Dv
open Go (IntKind BinOp UnOp)

abbrev u9A (i : Nat) (k : Int) : TS := .asg i (.c (.int .i64 k))
abbrev u9E (i : Nat) (o : DOp) (k : Xs) (r : Option Nat) : TS := .eff none (some i) o k r
abbrev xl (t a : Nat) (x : Xp) : Xp := .n (.load t (.t a)) (.cons a x .nil)
abbrev xn (t a : Nat) (x : Xp) : Xp := .n (.len t (.t a)) (.cons a x .nil)
abbrev xf (t a k : Nat) (x : Xp) : Xp := .n (.faddr t (.t a) k) (.cons a x .nil)
abbrev xe (a k : Nat) (x : Xp) : Xp := .n (.extract (.t a) k) (.cons a x .nil)
abbrev xi (t a b : Nat) (x y : Xp) : Xp := .n (.iaddr t (.t a) (.t b)) (.cons a x (.cons b y .nil))
abbrev xb (o : BinOp) (t a b : Nat) (x y : Xp) : Xp := .n (.bin o t (.t a) (.t b)) (.cons a x (.cons b y .nil))
abbrev xk (o : BinOp) (t a : Nat) (c : D) (x : Xp) : Xp := .n (.bin o t (.t a) (.c c)) (.cons a x .nil)

def tG (n : List Nat) (N : Nat) (f : DFn) : TC := (compC n N f.body).getD .skip
def n74 : List Nat := [0,1,4,5,6,11,12,13,16,19]
def t74 : TC := tG n74 20 f74
theorem c74 : TF E 74 n74 [(2,none)] t74 20 := zz (F := f74) rfl (by kernel_rfl) (by decide)

def n105 : List Nat := [0,2,3,5,6,7,8,9,14]
def t105 : TC := tG n105 18 f105
theorem c105 : TF E 105 n105 [(1,none)] t105 18 := zz (F := f105) rfl (by kernel_rfl) (by decide)

def n107 : List Nat := [0,2]
def t107 : TC := tG n107 6 f107
theorem c107 : TF E 107 n107 [(1,none)] t107 6 := zz (F := f107) rfl (by kernel_rfl) (by decide)

def n264 : List Nat := [0,1,2,3,4,8,10,18]
def t264 : TC := tG n264 19 f264
theorem c264 : TF E 264 n264 [(2,none),(3,none)] t264 19 := zz (F := f264) rfl (by kernel_rfl) (by decide)

def n281 : List Nat := [0,1,2,3,4,5,10,13]
def t281 : TC := tG n281 16 f281
theorem c281 : TF E 281 n281 [(2,none)] t281 16 := zz (F := f281) rfl (by kernel_rfl) (by decide)

def n282 : List Nat := [0,1,3]
def t282 : TC := tG n282 18 f282
theorem c282 : TF E 282 n282 [(0,none)] t282 18 := zz (F := f282) rfl (by kernel_rfl) (by decide)

def n297 : List Nat := [0,1,2,3,4,6,7,8,35,50,53,55,56,57,58,60,61,67]
def t297 : TC := tG n297 74 f297
theorem c297 : TF E 297 n297 [(2,none),(3,none)] t297 74 := zz (F := f297) rfl (by kernel_rfl) (by decide)

def n298 : List Nat := [0,1,3,4,7,11]
def t298 : TC := tG n298 12 f298
theorem c298 : TF E 298 n298 [(3,none)] t298 12 := zz (F := f298) rfl (by kernel_rfl) (by decide)

def n299 : List Nat := [0,1,3,4,7,12,15]
def t299 : TC := tG n299 16 f299
theorem c299 : TF E 299 n299 [(3,none)] t299 16 := zz (F := f299) rfl (by kernel_rfl) (by decide)

def n300 : List Nat := [0,1,2,4,5,7,10,15,17,18,19,20,22,32]
def t300 : TC := tG n300 35 f300
theorem c300 : TF E 300 n300 [(4,none)] t300 35 := zz (F := f300) rfl (by kernel_rfl) (by decide)

def n311 : List Nat := [0,2]
def t311 : TC := tG n311 10 f311
theorem c311 : TF E 311 n311 [(1,none)] t311 10 := zz (F := f311) rfl (by kernel_rfl) (by decide)

def n312 : List Nat := [0,1,4,6,14,19]
def t312 : TC := tG n312 20 f312
theorem c312 : TF E 312 n312 [(2,none)] t312 20 := zz (F := f312) rfl (by kernel_rfl) (by decide)

def n314 : List Nat := [0,1,2,3,4,5,7,8,10,12,13,14,15,16,17,18,20,21,22,23,24,25,27,32,38,41,43,49,50,52,56,58,64,70,75,78,80,85,135]
def t314 : TC := tG n314 210 f314
theorem c314 : TF E 314 n314 [(0,none)] t314 210 := zz (F := f314) rfl (by kernel_rfl) (by decide)

def n316 : List Nat := [0,1,2,3,8,9,10,11,12,13,14,20,24,38,45,49,52,55]
def t316 : TC := tG n316 56 f316
theorem c316 : TF E 316 n316 [(4,none),(5,none)] t316 56 := zz (F := f316) rfl (by kernel_rfl) (by decide)

def n318 : List Nat := [0,1,2,4,5,6,7,8,9,10,14,17,18,19,28]
def t318 : TC := tG n318 34 f318
theorem c318 : TF E 318 n318 [(5,some 2),(6,none)] t318 34 := zz (F := f318) rfl (by kernel_rfl) (by decide)

def n320 : List Nat := [0,1,4,5,10,14,26]
def t320 : TC := tG n320 27 f320
theorem c320 : TF E 320 n320 [(2,none)] t320 27 := zz (F := f320) rfl (by kernel_rfl) (by decide)

def n322 : List Nat := [0,2,4,5,6,7,8,10,14]
def t322 : TC := tG n322 19 f322
theorem c322 : TF E 322 n322 [(1,none)] t322 19 := zz (F := f322) rfl (by kernel_rfl) (by decide)

def n323 : List Nat := [0,2,4,5,6,7,8,9,10,12,13,25]
def t323 : TC := tG n323 29 f323
theorem c323 : TF E 323 n323 [(1,none)] t323 29 := zz (F := f323) rfl (by kernel_rfl) (by decide)

def n324 : List Nat := [0,2,3,6]
def t324 : TC := tG n324 9 f324
theorem c324 : TF E 324 n324 [(1,none)] t324 9 := zz (F := f324) rfl (by kernel_rfl) (by decide)

def n325 : List Nat := [0,2,4,6,7,8,13,15,17]
def t325 : TC := tG n325 18 f325
theorem c325 : TF E 325 n325 [(1,some 67)] t325 18 := zz (F := f325) rfl (by kernel_rfl) (by decide)

def n326 : List Nat := [0,1,2,3,5,6,8,9,10,11,12,13,14,16,17,18,20,21,23,25,26,27,28,29,30,31,32,34,37,40,42,45,57,91,95,96,97,98,100,105,113,115,125,129,130,131,132,134,136,137,138,139,141,145,157,158,159,160,163,170,177,188,211]
def t326 : TC := tG n326 214 f326
theorem c326 : TF E 326 n326 [(6,none)] t326 214 := zz (F := f326) rfl (by kernel_rfl) (by decide)

def n327 : List Nat := [0,1,4,5,10,14,25]
def t327 : TC := tG n327 26 f327
theorem c327 : TF E 327 n327 [(2,none)] t327 26 := zz (F := f327) rfl (by kernel_rfl) (by decide)

def n329 : List Nat := [0,2,3,5]
def t329 : TC := tG n329 8 f329
theorem c329 : TF E 329 n329 [(1,some 73),(2,none)] t329 8 := zz (F := f329) rfl (by kernel_rfl) (by decide)

def n331 : List Nat := [0,1,4,5,12]
def t331 : TC := tG n331 14 f331
theorem c331 : TF E 331 n331 [(2,some 73)] t331 14 := zz (F := f331) rfl (by kernel_rfl) (by decide)

def n334 : List Nat := [0,1,2,3,4,5,6,8,12,21,22,24,25,26,27,29,43,54,57]
def t334 : TC := tG n334 60 f334
theorem c334 : TF E 334 n334 [(2,none),(3,none)] t334 60 := zz (F := f334) rfl (by kernel_rfl) (by decide)

def n335 : List Nat := [0,1,2,3,4]
def t335 : TC := tG n335 10 f335
theorem c335 : TF E 335 n335 [(4,some 73)] t335 10 := zz (F := f335) rfl (by kernel_rfl) (by decide)

def n337 : List Nat := [0,1,2,3,4]
def t337 : TC := tG n337 38 f337
theorem c337 : TF E 337 n337 [(4,none)] t337 38 := zz (F := f337) rfl (by kernel_rfl) (by decide)

def n353 : List Nat := [0,2,10]
def t353 : TC := tG n353 11 f353
theorem c353 : TF E 353 n353 [(1,none)] t353 11 := zz (F := f353) rfl (by kernel_rfl) (by decide)

def n354 : List Nat := [0,2,3,5,6,7,8,9,10,14,16,17,18,19,21,25,30,31,32,33,36,61,63,67]
def t354 : TC := tG n354 74 f354
theorem c354 : TF E 354 n354 [(1,some 73),(2,none)] t354 74 := zz (F := f354) rfl (by kernel_rfl) (by decide)

def n355 : List Nat := [0,1,2,3,4,5,47,49,50,51,52,55,92,107,114]
def t355 : TC := tG n355 115 f355
theorem c355 : TF E 355 n355 [(2,none)] t355 115 := zz (F := f355) rfl (by kernel_rfl) (by decide)

def n356 : List Nat := [0,2,7]
def t356 : TC := tG n356 8 f356
theorem c356 : TF E 356 n356 [(1,none)] t356 8 := zz (F := f356) rfl (by kernel_rfl) (by decide)

def n359 : List Nat := [0,1,2]
def t359 : TC := tG n359 4 f359
theorem c359 : TF E 359 n359 [(2,none)] t359 4 := zz (F := f359) rfl (by kernel_rfl) (by decide)

def n362 : List Nat := [0,1,2,3,4]
def t362 : TC := tG n362 17 f362
theorem c362 : TF E 362 n362 [(4,none)] t362 17 := zz (F := f362) rfl (by kernel_rfl) (by decide)

def n363 : List Nat := [0,2,3,4,5,8,13,25,32,44,59]
def t363 : TC := tG n363 61 f363
theorem c363 : TF E 363 n363 [(1,none)] t363 61 := zz (F := f363) rfl (by kernel_rfl) (by decide)

def n364 : List Nat := [0,2,3,4,5,6,7,8,9,14,20,21,24,31,33,43,46,52,53,54,55,66]
def t364 : TC := tG n364 69 f364
theorem c364 : TF E 364 n364 [(1,some 73)] t364 69 := zz (F := f364) rfl (by kernel_rfl) (by decide)

def n365 : List Nat := [0,2,3,5,6,8,9,10,11,12,20,24,25,26,27,28,33]
def t365 : TC := tG n365 36 f365
theorem c365 : TF E 365 n365 [(1,none)] t365 36 := zz (F := f365) rfl (by kernel_rfl) (by decide)

def n366 : List Nat := [0,2,3,5,7,8,9,10,18]
def t366 : TC := tG n366 22 f366
theorem c366 : TF E 366 n366 [(1,some 55)] t366 22 := zz (F := f366) rfl (by kernel_rfl) (by decide)

def n380 : List Nat := [0,1,4,6,7,8,9,10,12,14,15,16,17,19,24,25]
def t380 : TC := tG n380 28 f380
theorem c380 : TF E 380 n380 [] t380 28 := zz (F := f380) rfl (by kernel_rfl) (by decide)

def n383 : List Nat := [0,1,4,6,7,8]
def t383 : TC := tG n383 23 f383
theorem c383 : TF E 383 n383 [] t383 23 := zz (F := f383) rfl (by kernel_rfl) (by decide)

def n404 : List Nat := [0,1,4,5,6,7,8,9,10,11,12,13,14,15,22,26,68,69,70,118,129,130]
def t404 : TC := tG n404 144 f404
theorem c404 : TF E 404 n404 [] t404 144 := zz (F := f404) rfl (by kernel_rfl) (by decide)

def n405 : List Nat := [0,2,4,6,7,8,9]
def t405 : TC := tG n405 19 f405
theorem c405 : TF E 405 n405 [(1,none)] t405 19 := zz (F := f405) rfl (by kernel_rfl) (by decide)

def n406 : List Nat := [0,1,4,5]
def t406 : TC := tG n406 17 f406
theorem c406 : TF E 406 n406 [(2,none)] t406 17 := zz (F := f406) rfl (by kernel_rfl) (by decide)

def n407 : List Nat := [0,1,2,3,8]
def t407 : TC := tG n407 23 f407
theorem c407 : TF E 407 n407 [(4,none)] t407 23 := zz (F := f407) rfl (by kernel_rfl) (by decide)

theorem ty_2 : E.ty 2 = ⟨.int .i64,1,8,[(.int .i64 0)],false⟩ := rfl
theorem ty_3 : E.ty 3 = ⟨.int .i64,1,8,[(.int .i64 0)],false⟩ := rfl
theorem ty_6 : E.ty 6 = ⟨.slice 2,1,24,[(.imm .exact [])],false⟩ := rfl
theorem ty_7 : E.ty 7 = ⟨.bool,1,1,[(.bool false)],false⟩ := rfl
theorem ty_12 : E.ty 12 = ⟨.int .u64,1,8,[(.int .u64 0)],false⟩ := rfl
theorem ty_13 : E.ty 13 = ⟨.int .u8,1,1,[(.int .u8 0)],false⟩ := rfl
theorem ty_30 : E.ty 30 = ⟨.slice 13,1,24,[(.imm .exact [])],false⟩ := rfl
theorem ty_53 : E.ty 53 = ⟨.str,1,16,[(.str [])],false⟩ := rfl
theorem ty_55 : E.ty 55 = ⟨.struct [(0,2),(1,2),(2,53),(3,56)],4,56,[(.int .i64 0),(.int .i64 0),(.str []),(.imm .exact [])],false⟩ := rfl
theorem ty_56 : E.ty 56 = ⟨.slice 55,1,24,[(.imm .exact [])],false⟩ := rfl
theorem ty_57 : E.ty 57 = ⟨.arr 4 58,4,32,[.nilfn,.nilfn,.nilfn,.nilfn],false⟩ := rfl
theorem ty_58 : E.ty 58 = ⟨.struct [(0,59)],1,8,[.nilfn],false⟩ := rfl
theorem ty_59 : E.ty 59 = ⟨.func,1,8,[.nilfn],false⟩ := rfl
theorem ty_62 : E.ty 62 = ⟨.ptr 57,1,8,[.nilp],false⟩ := rfl
theorem ty_63 : E.ty 63 = ⟨.int .u64,1,8,[(.int .u64 0)],false⟩ := rfl
theorem ty_64 : E.ty 64 = ⟨.arr 4 7,4,4,[(.bool false),(.bool false),(.bool false),(.bool false)],true⟩ := rfl
theorem ty_65 : E.ty 65 = ⟨.struct [(0,2),(1,2)],2,16,[(.int .i64 0),(.int .i64 0)],true⟩ := rfl
theorem ty_66 : E.ty 66 = ⟨.slice 72,1,24,[(.imm .exact [])],false⟩ := rfl
theorem ty_67 : E.ty 67 = ⟨.slice 65,1,24,[(.imm .exact [])],false⟩ := rfl
theorem ty_68 : E.ty 68 = ⟨.struct [(0,2),(1,2),(2,66)],3,40,[(.int .i64 0),(.int .i64 0),(.imm .exact [])],false⟩ := rfl
theorem ty_69 : E.ty 69 = ⟨.slice 68,1,24,[(.imm .exact [])],false⟩ := rfl
theorem ty_70 : E.ty 70 = ⟨.slice 71,1,24,[(.imm .exact [])],false⟩ := rfl
theorem ty_71 : E.ty 71 = ⟨.struct [(0,2),(1,2),(2,2),(3,66),(4,73)],36,80,[(.int .i64 0),(.int .i64 0),(.int .i64 0),(.imm .exact []),(.int .u8 0),(.int .u8 0),(.int .u8 0),(.int .u8 0),(.int .u8 0),(.int .u8 0),(.int .u8 0),(.int .u8 0),(.int .u8 0),(.int .u8 0),(.int .u8 0),(.int .u8 0),(.int .u8 0),(.int .u8 0),(.int .u8 0),(.int .u8 0),(.int .u8 0),(.int .u8 0),(.int .u8 0),(.int .u8 0),(.int .u8 0),(.int .u8 0),(.int .u8 0),(.int .u8 0),(.int .u8 0),(.int .u8 0),(.int .u8 0),(.int .u8 0),(.int .u8 0),(.int .u8 0),(.int .u8 0),(.int .u8 0)],false⟩ := rfl
theorem ty_72 : E.ty 72 = ⟨.struct [(0,65),(2,2)],3,24,[(.int .i64 0),(.int .i64 0),(.int .i64 0)],true⟩ := rfl
theorem ty_73 : E.ty 73 = ⟨.arr 32 13,32,32,[(.int .u8 0),(.int .u8 0),(.int .u8 0),(.int .u8 0),(.int .u8 0),(.int .u8 0),(.int .u8 0),(.int .u8 0),(.int .u8 0),(.int .u8 0),(.int .u8 0),(.int .u8 0),(.int .u8 0),(.int .u8 0),(.int .u8 0),(.int .u8 0),(.int .u8 0),(.int .u8 0),(.int .u8 0),(.int .u8 0),(.int .u8 0),(.int .u8 0),(.int .u8 0),(.int .u8 0),(.int .u8 0),(.int .u8 0),(.int .u8 0),(.int .u8 0),(.int .u8 0),(.int .u8 0),(.int .u8 0),(.int .u8 0)],true⟩ := rfl
theorem ty_74 : E.ty 74 = ⟨.slice 30,1,24,[(.imm .exact [])],false⟩ := rfl
theorem ty_76 : E.ty 76 = ⟨.arr 8 78,8,32,[(.int .u32 0),(.int .u32 0),(.int .u32 0),(.int .u32 0),(.int .u32 0),(.int .u32 0),(.int .u32 0),(.int .u32 0)],true⟩ := rfl
theorem ty_77 : E.ty 77 = ⟨.arr 8 78,8,32,[(.int .u32 0),(.int .u32 0),(.int .u32 0),(.int .u32 0),(.int .u32 0),(.int .u32 0),(.int .u32 0),(.int .u32 0)],true⟩ := rfl
theorem ty_78 : E.ty 78 = ⟨.int .u32,1,4,[(.int .u32 0)],false⟩ := rfl
theorem ty_79 : E.ty 79 = ⟨.int .i64,1,8,[(.int .i64 0)],false⟩ := rfl
theorem ty_80 : E.ty 80 = ⟨.arr 64 78,64,256,[(.int .u32 0),(.int .u32 0),(.int .u32 0),(.int .u32 0),(.int .u32 0),(.int .u32 0),(.int .u32 0),(.int .u32 0),(.int .u32 0),(.int .u32 0),(.int .u32 0),(.int .u32 0),(.int .u32 0),(.int .u32 0),(.int .u32 0),(.int .u32 0),(.int .u32 0),(.int .u32 0),(.int .u32 0),(.int .u32 0),(.int .u32 0),(.int .u32 0),(.int .u32 0),(.int .u32 0),(.int .u32 0),(.int .u32 0),(.int .u32 0),(.int .u32 0),(.int .u32 0),(.int .u32 0),(.int .u32 0),(.int .u32 0),(.int .u32 0),(.int .u32 0),(.int .u32 0),(.int .u32 0),(.int .u32 0),(.int .u32 0),(.int .u32 0),(.int .u32 0),(.int .u32 0),(.int .u32 0),(.int .u32 0),(.int .u32 0),(.int .u32 0),(.int .u32 0),(.int .u32 0),(.int .u32 0),(.int .u32 0),(.int .u32 0),(.int .u32 0),(.int .u32 0),(.int .u32 0),(.int .u32 0),(.int .u32 0),(.int .u32 0),(.int .u32 0),(.int .u32 0),(.int .u32 0),(.int .u32 0),(.int .u32 0),(.int .u32 0),(.int .u32 0),(.int .u32 0)],true⟩ := rfl
theorem ty_81 : E.ty 81 = ⟨.slice 78,1,24,[(.imm .exact [])],false⟩ := rfl
theorem ty_82 : E.ty 82 = ⟨.int .u64,1,8,[(.int .u64 0)],false⟩ := rfl

end Dv
