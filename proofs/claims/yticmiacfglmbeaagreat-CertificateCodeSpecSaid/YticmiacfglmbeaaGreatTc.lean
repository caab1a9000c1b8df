/- Texts that a proof of this claim uses, joined: Lw.TCode. -/
import Derived.Test.YticmiacfglmbeaaGreatLwa
import Derived.Test.YticmiacfglmbeaaGreatCode
import Derived.KernelRfl
set_option linter.all false
namespace Dv
open Go (IntKind BinOp UnOp)

abbrev u9A (i:Nat) (k:Int):TS := .asg i (.c (.int .i64 k))
abbrev u9E (i:Nat) (o:DOp) (k:Xs) (r:Option Nat):TS := .eff none (some i) o k r
abbrev xl (t a:Nat) (x:Xp):Xp := .n (.load t (.t a)) (.cons a x .nil)
abbrev xn (t a:Nat) (x:Xp):Xp := .n (.len t (.t a)) (.cons a x .nil)
abbrev xf (t a k:Nat) (x:Xp):Xp := .n (.faddr t (.t a) k) (.cons a x .nil)
abbrev xe (a k:Nat) (x:Xp):Xp := .n (.extract (.t a) k) (.cons a x .nil)
abbrev xi (t a b:Nat) (x y:Xp):Xp := .n (.iaddr t (.t a) (.t b)) (.cons a x (.cons b y .nil))
abbrev xb (o:BinOp) (t a b:Nat) (x y:Xp):Xp := .n (.bin o t (.t a) (.t b)) (.cons a x (.cons b y .nil))
abbrev xk (o:BinOp) (t a:Nat) (c:D) (x:Xp):Xp := .n (.bin o t (.t a) (.c c)) (.cons a x .nil)

def tG (n:List Nat) (N:Nat) (f:DFn):TC := (compC n N f.body).getD .skip
def n20:List Nat := [0,1,4,5,10,14,25]
def t20:TC := tG n20 26 f20
theorem c20:TF E 20 n20 [(2,none)] t20 26 := zx (F := f20)

def n213:List Nat := [0,1,2,3,8,17]
def t213:TC := tG n213 34 f213
theorem c213:TF E 213 n213 [(2,none)] t213 34 := zx (F := f213)

def n223:List Nat := [0,1,2,3,8,17]
def t223:TC := tG n223 28 f223
theorem c223:TF E 223 n223 [(2,none)] t223 28 := zx (F := f223)

def n228:List Nat := [0,5]
def t228:TC := tG n228 6 f228
theorem c228:TF E 228 n228 [] t228 6 := zx (F := f228)

def n229:List Nat := [0,1,5,8]
def t229:TC := tG n229 9 f229
theorem c229:TF E 229 n229 [] t229 9 := zx (F := f229)

def n248:List Nat := [0,1,2,3,4,5,6,7,8,9,10,11,12,13,14,15,16,17,18,19,20,27,32,39,47,52,57,62,67,72,126]
def t248:TC := tG n248 161 f248
theorem c248:TF E 248 n248 [(0,none)] t248 161 := zx (F := f248)

def n251:List Nat := [0,1,2,4,5,6,7,8,9,10,11,12,13,14,15,16,18,26,27,32,37,42,47,86,88,92]
def t251:TC := tG n251 106 f251
theorem c251:TF E 251 n251 [(3,none)] t251 106 := zx (F := f251)

def n252:List Nat := [0,1,2,3,15]
def t252:TC := tG n252 18 f252
theorem c252:TF E 252 n252 [(2,none),(3,none)] t252 18 := zx (F := f252)

def n253:List Nat := [0,1,2,3,6]
def t253:TC := tG n253 9 f253
theorem c253:TF E 253 n253 [(2,none),(3,none)] t253 9 := zx (F := f253)

def n254:List Nat := [0,2,3,4,5,6,7,13,15,19,23,27]
def t254:TC := tG n254 31 f254
theorem c254:TF E 254 n254 [(1,some 29),(2,some 3)] t254 31 := zx (F := f254)

def n255:List Nat := [0,2,3,4,5,6,7,8,9,10,11,12,13,14,20,39,41,49,71,74,94,97]
def t255:TC := tG n255 100 f255
theorem c255:TF E 255 n255 [(1,some 29),(2,none)] t255 100 := zx (F := f255)

def n256:List Nat := [0,1,2,3,4,5,28,33,47]
def t256:TC := tG n256 48 f256
theorem c256:TF E 256 n256 [(4,none)] t256 48 := zx (F := f256)

def n264:List Nat := [0,1,2,3,4,8,10,18]
def t264:TC := tG n264 19 f264
theorem c264:TF E 264 n264 [(2,none),(3,none)] t264 19 := zx (F := f264)

def n266:List Nat := [0,2]
def t266:TC := tG n266 5 f266
theorem c266:TF E 266 n266 [(1,some 55)] t266 5 := zx (F := f266)

def n267:List Nat := [0,1,4,5,7,9,10,11,12,14,21]
def t267:TC := tG n267 25 f267
theorem c267:TF E 267 n267 [(2,some 55)] t267 25 := zx (F := f267)

def n268:List Nat := [0,1,2]
def t268:TC := tG n268 14 f268
theorem c268:TF E 268 n268 [(2,some 55)] t268 14 := zx (F := f268)

def n269:List Nat := [0,1,2,3,4,5,6,12,24,40,62]
def t269:TC := tG n269 73 f269
theorem c269:TF E 269 n269 [(2,some 55)] t269 73 := zx (F := f269)

def n270:List Nat := [0,1,2,3,4,8]
def t270:TC := tG n270 12 f270
theorem c270:TF E 270 n270 [(2,none),(3,none)] t270 12 := zx (F := f270)

def n272:List Nat := [0,2,3,4,5,8,10,18]
def t272:TC := tG n272 20 f272
theorem c272:TF E 272 n272 [(1,some 55),(2,some 3)] t272 20 := zx (F := f272)

def n273:List Nat := [0,1,2,4,19]
def t273:TC := tG n273 22 f273
theorem c273:TF E 273 n273 [(3,none)] t273 22 := zx (F := f273)

def n274:List Nat := [0,1,2,4]
def t274:TC := tG n274 5 f274
theorem c274:TF E 274 n274 [(2,none)] t274 5 := zx (F := f274)

def n275:List Nat := [0,1,2,4,6,8,9,10,11,13,14,17,19]
def t275:TC := tG n275 22 f275
theorem c275:TF E 275 n275 [(3,none)] t275 22 := zx (F := f275)

def n276:List Nat := [0,1,2,3,5,9,13,17]
def t276:TC := tG n276 19 f276
theorem c276:TF E 276 n276 [(2,some 32)] t276 19 := zx (F := f276)

def n277:List Nat := [0,2,3,4,5,8,10,36]
def t277:TC := tG n277 39 f277
theorem c277:TF E 277 n277 [(1,some 55),(2,none)] t277 39 := zx (F := f277)

def n278:List Nat := [0,1,2,3,4,5,11,20,29]
def t278:TC := tG n278 34 f278
theorem c278:TF E 278 n278 [(2,none),(3,none)] t278 34 := zx (F := f278)

def n279:List Nat := [0,1,2,3,4,5,6,7,8,9,34,36,50,58,61,81]
def t279:TC := tG n279 85 f279
theorem c279:TF E 279 n279 [(2,some 32),(3,none)] t279 85 := zx (F := f279)

def n280:List Nat := [0,1,2,3,4,5,27,32,46]
def t280:TC := tG n280 47 f280
theorem c280:TF E 280 n280 [(4,none)] t280 47 := zx (F := f280)

def n281:List Nat := [0,1,2,3,4,5,10,13]
def t281:TC := tG n281 16 f281
theorem c281:TF E 281 n281 [(2,none)] t281 16 := zx (F := f281)

def n282:List Nat := [0,1,3]
def t282:TC := tG n282 18 f282
theorem c282:TF E 282 n282 [(0,none)] t282 18 := zx (F := f282)

def n283:List Nat := [0,1,4,5,7,9,10,11,12,21]
def t283:TC := tG n283 25 f283
theorem c283:TF E 283 n283 [(2,some 55)] t283 25 := zx (F := f283)

def n284:List Nat := [0,2]
def t284:TC := tG n284 5 f284
theorem c284:TF E 284 n284 [(1,some 55)] t284 5 := zx (F := f284)

def n285:List Nat := [0,1,4,5,7,9,10,11,12,21]
def t285:TC := tG n285 25 f285
theorem c285:TF E 285 n285 [(2,some 55)] t285 25 := zx (F := f285)

def n286:List Nat := [0,1,2,5,8]
def t286:TC := tG n286 9 f286
theorem c286:TF E 286 n286 [(2,none)] t286 9 := zx (F := f286)

def n287:List Nat := [0,1,2,3,4,6,7,14,15,23,26,33,38,48]
def t287:TC := tG n287 50 f287
theorem c287:TF E 287 n287 [(2,none)] t287 50 := zx (F := f287)

def n288:List Nat := [0,2,3,4,9,20]
def t288:TC := tG n288 23 f288
theorem c288:TF E 288 n288 [(1,some 55)] t288 23 := zx (F := f288)

def n289:List Nat := [0,2]
def t289:TC := tG n289 5 f289
theorem c289:TF E 289 n289 [(1,some 55)] t289 5 := zx (F := f289)

def n291:List Nat := [0,1,4,6,12,14,15,18,21,23,25,26,29,34,36,37,38,39,40,41,44,46]
def t291:TC := tG n291 50 f291
theorem c291:TF E 291 n291 [(2,some 55)] t291 50 := zx (F := f291)

def n292:List Nat := [1,5,6]
def t292:TC := tG n292 7 f292
theorem c292:TF E 292 n292 [] t292 7 := zx (F := f292)

def n293:List Nat := [0,1,2,4,6,8,9,10,11,13,14,17,19]
def t293:TC := tG n293 22 f293
theorem c293:TF E 293 n293 [(3,none)] t293 22 := zx (F := f293)

def n294:List Nat := [0,1,2,6]
def t294:TC := tG n294 9 f294
theorem c294:TF E 294 n294 [(2,none)] t294 9 := zx (F := f294)

def n295:List Nat := [0,1,2,4,6,8,9,10,11,13,14,17,19]
def t295:TC := tG n295 22 f295
theorem c295:TF E 295 n295 [(3,none)] t295 22 := zx (F := f295)

def n296:List Nat := [0,1,4,5,6,7,8,9,11,12,15,18,29,32,51,84,87,110,125,128,129,130,133,135]
def t296:TC := tG n296 142 f296
theorem c296:TF E 296 n296 [(2,some 55)] t296 142 := zx (F := f296)

def n297:List Nat := [0,1,2,3,4,6,7,8,35,50,53,55,56,57,58,60,61,67]
def t297:TC := tG n297 74 f297
theorem c297:TF E 297 n297 [(2,none),(3,none)] t297 74 := zx (F := f297)

def n298:List Nat := [0,1,3,4,7,11]
def t298:TC := tG n298 12 f298
theorem c298:TF E 298 n298 [(3,none)] t298 12 := zx (F := f298)

def n299:List Nat := [0,1,3,4,7,12,15]
def t299:TC := tG n299 16 f299
theorem c299:TF E 299 n299 [(3,none)] t299 16 := zx (F := f299)

def n300:List Nat := [0,1,2,4,5,7,10,15,17,18,19,20,22,32]
def t300:TC := tG n300 35 f300
theorem c300:TF E 300 n300 [(4,none)] t300 35 := zx (F := f300)

def n301:List Nat := [0,1,2,3,5,6,17,28,34,43]
def t301:TC := tG n301 52 f301
theorem c301:TF E 301 n301 [(2,none)] t301 52 := zx (F := f301)

def n302:List Nat := [0,1,2,3,4,7,12]
def t302:TC := tG n302 25 f302
theorem c302:TF E 302 n302 [(2,none)] t302 25 := zx (F := f302)

def n303:List Nat := [0,2,4]
def t303:TC := tG n303 14 f303
theorem c303:TF E 303 n303 [(1,none)] t303 14 := zx (F := f303)

def n304:List Nat := [0,2,4,16]
def t304:TC := tG n304 17 f304
theorem c304:TF E 304 n304 [(1,none)] t304 17 := zx (F := f304)

def n305:List Nat := [0,1,4,5,14]
def t305:TC := tG n305 32 f305
theorem c305:TF E 305 n305 [(2,none)] t305 32 := zx (F := f305)

def n306:List Nat := [0,2,3,4,8,26,36]
def t306:TC := tG n306 38 f306
theorem c306:TF E 306 n306 [(1,none)] t306 38 := zx (F := f306)

def n307:List Nat := [0,2]
def t307:TC := tG n307 11 f307
theorem c307:TF E 307 n307 [(1,none)] t307 11 := zx (F := f307)

def n308:List Nat := [0,2,3,5,15]
def t308:TC := tG n308 18 f308
theorem c308:TF E 308 n308 [(1,none)] t308 18 := zx (F := f308)

def n309:List Nat := [0,2,12]
def t309:TC := tG n309 34 f309
theorem c309:TF E 309 n309 [(1,none)] t309 34 := zx (F := f309)

def n310:List Nat := [0,2,3,4,5,10,14,28,41]
def t310:TC := tG n310 43 f310
theorem c310:TF E 310 n310 [(1,none)] t310 43 := zx (F := f310)

def n311:List Nat := [0,2]
def t311:TC := tG n311 10 f311
theorem c311:TF E 311 n311 [(1,none)] t311 10 := zx (F := f311)

def n312:List Nat := [0,1,4,6,14,19]
def t312:TC := tG n312 20 f312
theorem c312:TF E 312 n312 [(2,none)] t312 20 := zx (F := f312)

theorem ty_0:E.ty 0=⟨.struct [(0,10),(1,9),(2,14)],3,72,[(.imm .exact []),(.imm .exact []),(.imm .exact [])],false⟩ := rfl
theorem ty_1:E.ty 1=⟨.slice 2,1,24,[(.imm .exact [])],false⟩ := rfl
theorem ty_2:E.ty 2=⟨.int .i64,1,8,[(.int .i64 0)],false⟩ := rfl
theorem ty_3:E.ty 3=⟨.int .i64,1,8,[(.int .i64 0)],false⟩ := rfl
theorem ty_4:E.ty 4=⟨.slice 1,1,24,[(.imm .exact [])],false⟩ := rfl
theorem ty_6:E.ty 6=⟨.slice 2,1,24,[(.imm .exact [])],false⟩ := rfl
theorem ty_7:E.ty 7=⟨.bool,1,1,[(.bool false)],false⟩ := rfl
theorem ty_9:E.ty 9=⟨.slice 6,1,24,[(.imm .exact [])],false⟩ := rfl
theorem ty_10:E.ty 10=⟨.slice 20,1,24,[(.imm .exact [])],false⟩ := rfl
theorem ty_11:E.ty 11=⟨.struct [(0,2),(1,2)],2,16,[(.int .i64 0),(.int .i64 0)],true⟩ := rfl
theorem ty_12:E.ty 12=⟨.int .u64,1,8,[(.int .u64 0)],false⟩ := rfl
theorem ty_13:E.ty 13=⟨.int .u8,1,1,[(.int .u8 0)],false⟩ := rfl
theorem ty_14:E.ty 14=⟨.slice 15,1,24,[(.imm .exact [])],false⟩ := rfl
theorem ty_15:E.ty 15=⟨.struct [(0,2),(1,2),(2,6),(3,16)],4,64,[(.int .i64 0),(.int .i64 0),(.imm .exact []),(.imm .exact [])],false⟩ := rfl
theorem ty_16:E.ty 16=⟨.slice 17,1,24,[(.imm .exact [])],false⟩ := rfl
theorem ty_17:E.ty 17=⟨.struct [(0,2),(1,2),(2,2),(3,18)],4,48,[(.int .i64 0),(.int .i64 0),(.int .i64 0),(.imm .exact [])],false⟩ := rfl
theorem ty_18:E.ty 18=⟨.slice 19,1,24,[(.imm .exact [])],false⟩ := rfl
theorem ty_19:E.ty 19=⟨.struct [(0,20),(3,2)],4,32,[(.bool false),(.int .i64 0),(.int .i64 0),(.int .i64 0)],true⟩ := rfl
theorem ty_20:E.ty 20=⟨.struct [(0,7),(1,2),(2,2)],3,24,[(.bool false),(.int .i64 0),(.int .i64 0)],true⟩ := rfl
theorem ty_21:E.ty 21=⟨.map 20 7,1,8,[(.map none)],false⟩ := rfl
theorem ty_22:E.ty 22=⟨.arr 4 2,4,32,[(.int .i64 0),(.int .i64 0),(.int .i64 0),(.int .i64 0)],true⟩ := rfl
theorem ty_23:E.ty 23=⟨.arr 2 6,2,48,[(.imm .exact []),(.imm .exact [])],false⟩ := rfl
theorem ty_24:E.ty 24=⟨.slice 23,1,24,[(.imm .exact [])],false⟩ := rfl
theorem ty_25:E.ty 25=⟨.struct [(0,0),(3,1),(4,2),(5,9)],6,128,[(.imm .exact []),(.imm .exact []),(.imm .exact []),(.imm .exact []),(.int .i64 0),(.imm .exact [])],false⟩ := rfl
theorem ty_26:E.ty 26=⟨.map 20 2,1,8,[(.map none)],false⟩ := rfl
theorem ty_27:E.ty 27=⟨.func,1,8,[.nilfn],false⟩ := rfl
theorem ty_29:E.ty 29=⟨.struct [(0,6),(1,6),(2,31)],3,72,[(.imm .exact []),(.imm .exact []),(.imm .exact [])],false⟩ := rfl
theorem ty_30:E.ty 30=⟨.slice 13,1,24,[(.imm .exact [])],false⟩ := rfl
theorem ty_31:E.ty 31=⟨.slice 32,1,24,[(.imm .exact [])],false⟩ := rfl
theorem ty_32:E.ty 32=⟨.struct [(0,1),(1,2),(2,9)],3,56,[(.imm .exact []),(.int .i64 0),(.imm .exact [])],false⟩ := rfl
theorem ty_44:E.ty 44=⟨.struct [(0,3)],1,8,[(.int .i64 0)],true⟩ := rfl
theorem ty_47:E.ty 47=⟨.func,1,8,[.nilfn],false⟩ := rfl
theorem ty_48:E.ty 48=⟨.struct [(0,49)],4,32,[.nilfn,.nilfn,.nilfn,.nilfn],false⟩ := rfl
theorem ty_49:E.ty 49=⟨.arr 4 50,4,32,[.nilfn,.nilfn,.nilfn,.nilfn],false⟩ := rfl
theorem ty_50:E.ty 50=⟨.func,1,8,[.nilfn],false⟩ := rfl
theorem ty_51:E.ty 51=⟨.struct [(0,0),(3,6),(4,6)],5,120,[(.imm .exact []),(.imm .exact []),(.imm .exact []),(.imm .exact []),(.imm .exact [])],false⟩ := rfl
theorem ty_52:E.ty 52=⟨.slice 4,1,24,[(.imm .exact [])],false⟩ := rfl
theorem ty_53:E.ty 53=⟨.str,1,16,[(.str [])],false⟩ := rfl
theorem ty_55:E.ty 55=⟨.struct [(0,2),(1,2),(2,53),(3,56)],4,56,[(.int .i64 0),(.int .i64 0),(.str []),(.imm .exact [])],false⟩ := rfl
theorem ty_56:E.ty 56=⟨.slice 55,1,24,[(.imm .exact [])],false⟩ := rfl
theorem ty_57:E.ty 57=⟨.arr 4 58,4,32,[.nilfn,.nilfn,.nilfn,.nilfn],false⟩ := rfl
theorem ty_58:E.ty 58=⟨.struct [(0,59)],1,8,[.nilfn],false⟩ := rfl
theorem ty_59:E.ty 59=⟨.func,1,8,[.nilfn],false⟩ := rfl
theorem ty_60:E.ty 60=⟨.struct [(0,30)],1,24,[(.imm .exact [])],false⟩ := rfl
theorem ty_61:E.ty 61=⟨.struct [(0,30),(1,2),(2,7)],3,40,[(.imm .exact []),(.int .i64 0),(.bool false)],false⟩ := rfl
theorem ty_62:E.ty 62=⟨.ptr 57,1,8,[.nilp],false⟩ := rfl
theorem ty_63:E.ty 63=⟨.int .u64,1,8,[(.int .u64 0)],false⟩ := rfl
theorem ty_64:E.ty 64=⟨.arr 4 7,4,4,[(.bool false),(.bool false),(.bool false),(.bool false)],true⟩ := rfl
theorem zsf:E.mp 228=true := rfl
theorem zse:E.mp 229=true := rfl
theorem zsd:E.mp 241=true := rfl
theorem zsc:E.mp 242=true := rfl
theorem zsb:E.mp 243=true := rfl
theorem zsa:E.mp 246=true := rfl
theorem zs9:E.mp 273=true := rfl
theorem zs8:E.mp 274=true := rfl
theorem zs7:E.mp 275=true := rfl
theorem zs6:E.mp 276=true := rfl
theorem zs5:E.mp 291=true := rfl
theorem zs4:E.mp 292=true := rfl
theorem zs3:E.mp 293=true := rfl
theorem zs2:E.mp 294=true := rfl
theorem zs1:E.mp 295=true := rfl
theorem zs0:E.mp 305=true := rfl
theorem zrz:E.mp 306=true := rfl
theorem zry:E.mp 308=true := rfl

end Dv
