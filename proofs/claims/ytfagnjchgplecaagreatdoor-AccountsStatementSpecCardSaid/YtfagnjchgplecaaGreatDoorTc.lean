/- Texts that a proof of this claim uses, joined: Lw.TCode. -/
import Derived.Test.YtfagnjchgplecaaGreatDoorLwa
import Derived.Test.YtfagnjchgplecaaGreatDoorCode
import Derived.KernelRfl
set_option linter.all false
namespace Dv
open Go (IntKind BinOp UnOp)

abbrev u9A(i:Nat)(k:Int):TS := .asg i (.c (.int .i64 k))
abbrev u9E(i:Nat)(o:DOp)(k:Xs)(r:Option Nat):TS := .eff none (some i) o k r
abbrev xl(t a:Nat)(x:Xp):Xp := .n (.load t (.t a)) (.cons a x .nil)
abbrev xn(t a:Nat)(x:Xp):Xp := .n (.len t (.t a)) (.cons a x .nil)
abbrev xf(t a k:Nat)(x:Xp):Xp := .n (.faddr t (.t a) k) (.cons a x .nil)
abbrev xe(a k:Nat)(x:Xp):Xp := .n (.extract (.t a) k) (.cons a x .nil)
abbrev xi(t a b:Nat)(x y:Xp):Xp := .n (.iaddr t (.t a) (.t b)) (.cons a x (.cons b y .nil))
abbrev xb(o:BinOp)(t a b:Nat)(x y:Xp):Xp := .n (.bin o t (.t a) (.t b)) (.cons a x (.cons b y .nil))
abbrev xk(o:BinOp)(t a:Nat)(c:D)(x:Xp):Xp := .n (.bin o t (.t a) (.c c)) (.cons a x .nil)

def tG(n:List Nat)(N:Nat)(f:DFn):TC := (y2k n N f.body).getD .skip
def n15:List Nat := [0,1,2,3,5,7,9,11,12,14,37,38,40,41,42,43,45,53,58,59,60,61,73,76,77,78,79,81,119,121,122,123,124,126,151,153,154,155,156,158,169]
def t15:TC := tG n15 173 f15
theorem c15:TF E 15 n15 [(2,none)] t15 173 := zj (F := f15) rfl (by kernel_rfl) (by decide)

def n67:List Nat := [0,1,2,6]
def t67:TC := tG n67 15 f67
theorem c67:TF E 67 n67 [(3,none)] t67 15 := zj (F := f67) rfl (by kernel_rfl) (by decide)

def n69:List Nat := [0,1,4,5,9,23]
def t69:TC := tG n69 24 f69
theorem c69:TF E 69 n69 [(2,none)] t69 24 := zj (F := f69) rfl (by kernel_rfl) (by decide)

def n70:List Nat := [0,1,2,3,4,9,11]
def t70:TC := tG n70 24 f70
theorem c70:TF E 70 n70 [(4,none)] t70 24 := zj (F := f70) rfl (by kernel_rfl) (by decide)

def n71:List Nat := [0,1,4]
def t71:TC := tG n71 9 f71
theorem c71:TF E 71 n71 [(2,none)] t71 9 := zj (F := f71) rfl (by kernel_rfl) (by decide)

def n72:List Nat := [0,2]
def t72:TC := tG n72 6 f72
theorem c72:TF E 72 n72 [(1,none)] t72 6 := zj (F := f72) rfl (by kernel_rfl) (by decide)

def n73:List Nat := [0,1,4,5,9,23]
def t73:TC := tG n73 24 f73
theorem c73:TF E 73 n73 [(2,none)] t73 24 := zj (F := f73) rfl (by kernel_rfl) (by decide)

def n74:List Nat := [0,1,4,5,6,11,12,13,16,19]
def t74:TC := tG n74 20 f74
theorem c74:TF E 74 n74 [(2,none)] t74 20 := zj (F := f74) rfl (by kernel_rfl) (by decide)

def n75:List Nat := [0,1,4,5,9,23]
def t75:TC := tG n75 24 f75
theorem c75:TF E 75 n75 [(2,none)] t75 24 := zj (F := f75) rfl (by kernel_rfl) (by decide)

def n76:List Nat := [0,1,2,3,4]
def t76:TC := tG n76 10 f76
theorem c76:TF E 76 n76 [(4,none)] t76 10 := zj (F := f76) rfl (by kernel_rfl) (by decide)

def n105:List Nat := [0,2,3,5,6,7,8,9,14]
def t105:TC := tG n105 18 f105
theorem c105:TF E 105 n105 [(1,none)] t105 18 := zj (F := f105) rfl (by kernel_rfl) (by decide)

def n106:List Nat := [0,1,4,5,7,8,9,16]
def t106:TC := tG n106 19 f106
theorem c106:TF E 106 n106 [(2,none)] t106 19 := zj (F := f106) rfl (by kernel_rfl) (by decide)

def n107:List Nat := [0,2]
def t107:TC := tG n107 6 f107
theorem c107:TF E 107 n107 [(1,none)] t107 6 := zj (F := f107) rfl (by kernel_rfl) (by decide)

def n264:List Nat := [0,1,2,3,4,8,10,18]
def t264:TC := tG n264 19 f264
theorem c264:TF E 264 n264 [(2,none),(3,none)] t264 19 := zj (F := f264) rfl (by kernel_rfl) (by decide)

def n270:List Nat := [0,1,2,3,4,8]
def t270:TC := tG n270 12 f270
theorem c270:TF E 270 n270 [(2,none),(3,none)] t270 12 := zj (F := f270) rfl (by kernel_rfl) (by decide)

def n281:List Nat := [0,1,2,3,4,5,10,13]
def t281:TC := tG n281 16 f281
theorem c281:TF E 281 n281 [(2,none)] t281 16 := zj (F := f281) rfl (by kernel_rfl) (by decide)

def n282:List Nat := [0,1,3]
def t282:TC := tG n282 18 f282
theorem c282:TF E 282 n282 [(0,none)] t282 18 := zj (F := f282) rfl (by kernel_rfl) (by decide)

def n286:List Nat := [0,1,2,5,8]
def t286:TC := tG n286 9 f286
theorem c286:TF E 286 n286 [(2,none)] t286 9 := zj (F := f286) rfl (by kernel_rfl) (by decide)

def n287:List Nat := [0,1,2,3,4,6,7,14,15,23,26,33,38,48]
def t287:TC := tG n287 50 f287
theorem c287:TF E 287 n287 [(2,none)] t287 50 := zj (F := f287) rfl (by kernel_rfl) (by decide)

def n297:List Nat := [0,1,2,3,4,6,7,8,35,50,53,55,56,57,58,60,61,67]
def t297:TC := tG n297 74 f297
theorem c297:TF E 297 n297 [(2,none),(3,none)] t297 74 := zj (F := f297) rfl (by kernel_rfl) (by decide)

def n298:List Nat := [0,1,3,4,7,11]
def t298:TC := tG n298 12 f298
theorem c298:TF E 298 n298 [(3,none)] t298 12 := zj (F := f298) rfl (by kernel_rfl) (by decide)

def n299:List Nat := [0,1,3,4,7,12,15]
def t299:TC := tG n299 16 f299
theorem c299:TF E 299 n299 [(3,none)] t299 16 := zj (F := f299) rfl (by kernel_rfl) (by decide)

def n300:List Nat := [0,1,2,4,5,7,10,15,17,18,19,20,22,32]
def t300:TC := tG n300 35 f300
theorem c300:TF E 300 n300 [(4,none)] t300 35 := zj (F := f300) rfl (by kernel_rfl) (by decide)

def n301:List Nat := [0,1,2,3,5,6,17,28,34,43]
def t301:TC := tG n301 52 f301
theorem c301:TF E 301 n301 [(2,none)] t301 52 := zj (F := f301) rfl (by kernel_rfl) (by decide)

def n302:List Nat := [0,1,2,3,4,7,12]
def t302:TC := tG n302 25 f302
theorem c302:TF E 302 n302 [(2,none)] t302 25 := zj (F := f302) rfl (by kernel_rfl) (by decide)

def n303:List Nat := [0,2,4]
def t303:TC := tG n303 14 f303
theorem c303:TF E 303 n303 [(1,none)] t303 14 := zj (F := f303) rfl (by kernel_rfl) (by decide)

def n304:List Nat := [0,2,4,16]
def t304:TC := tG n304 17 f304
theorem c304:TF E 304 n304 [(1,none)] t304 17 := zj (F := f304) rfl (by kernel_rfl) (by decide)

def n311:List Nat := [0,2]
def t311:TC := tG n311 10 f311
theorem c311:TF E 311 n311 [(1,none)] t311 10 := zj (F := f311) rfl (by kernel_rfl) (by decide)

def n312:List Nat := [0,1,4,6,14,19]
def t312:TC := tG n312 20 f312
theorem c312:TF E 312 n312 [(2,none)] t312 20 := zj (F := f312) rfl (by kernel_rfl) (by decide)

def n316:List Nat := [0,1,2,3,8,9,10,11,12,13,14,20,24,38,45,49,52,55]
def t316:TC := tG n316 56 f316
theorem c316:TF E 316 n316 [(4,none),(5,none)] t316 56 := zj (F := f316) rfl (by kernel_rfl) (by decide)

def n317:List Nat := [0,1,2,3,8,9,10,11,12,13,14,15,21,26,32,50,52,56,59]
def t317:TC := tG n317 60 f317
theorem c317:TF E 317 n317 [(4,none),(5,none)] t317 60 := zj (F := f317) rfl (by kernel_rfl) (by decide)

def n318:List Nat := [0,1,2,4,5,6,7,8,9,10,14,17,18,19,28]
def t318:TC := tG n318 34 f318
theorem c318:TF E 318 n318 [(5,some 2),(6,none)] t318 34 := zj (F := f318) rfl (by kernel_rfl) (by decide)

def n319:List Nat := [0,1,2,4,6,7,8,9,10,11,15,20,30,52]
def t319:TC := tG n319 65 f319
theorem c319:TF E 319 n319 [(4,none),(5,none)] t319 65 := zj (F := f319) rfl (by kernel_rfl) (by decide)

def n324:List Nat := [0,2,3,6]
def t324:TC := tG n324 9 f324
theorem c324:TF E 324 n324 [(1,none)] t324 9 := zj (F := f324) rfl (by kernel_rfl) (by decide)

def n325:List Nat := [0,2,4,6,7,8,13,15,17]
def t325:TC := tG n325 18 f325
theorem c325:TF E 325 n325 [(1,some 67)] t325 18 := zj (F := f325) rfl (by kernel_rfl) (by decide)

def n331:List Nat := [0,1,4,5,12]
def t331:TC := tG n331 14 f331
theorem c331:TF E 331 n331 [(2,some 73)] t331 14 := zj (F := f331) rfl (by kernel_rfl) (by decide)

def n334:List Nat := [0,1,2,3,4,5,6,8,12,21,22,24,25,26,27,29,43,54,57]
def t334:TC := tG n334 60 f334
theorem c334:TF E 334 n334 [(2,none),(3,none)] t334 60 := zj (F := f334) rfl (by kernel_rfl) (by decide)

def n335:List Nat := [0,1,2,3,4]
def t335:TC := tG n335 10 f335
theorem c335:TF E 335 n335 [(4,some 73)] t335 10 := zj (F := f335) rfl (by kernel_rfl) (by decide)

def n339:List Nat := [0,1,2,3,4,5,6,7,8,9,10,11,12,13,15,16,17,18,19,20,21,30,38,43,49,53,58,63,65,67,72,119]
def t339:TC := tG n339 165 f339
theorem c339:TF E 339 n339 [(0,none)] t339 165 := zj (F := f339) rfl (by kernel_rfl) (by decide)

def n340:List Nat := [0,1,2,3,4,8,9,10,11,13,14,15,19,41,42,43,44,45,46,48,79,94,95,96,103,106]
def t340:TC := tG n340 107 f340
theorem c340:TF E 340 n340 [(5,none),(6,none)] t340 107 := zj (F := f340) rfl (by kernel_rfl) (by decide)

def n342:List Nat := [0,1,4,5,10,14,25]
def t342:TC := tG n342 26 f342
theorem c342:TF E 342 n342 [(2,none)] t342 26 := zj (F := f342) rfl (by kernel_rfl) (by decide)

def n344:List Nat := [0,2,3,7,16]
def t344:TC := tG n344 20 f344
theorem c344:TF E 344 n344 [(1,none)] t344 20 := zj (F := f344) rfl (by kernel_rfl) (by decide)

def n345:List Nat := [0,1,2,6,7,8,10,12,14,15,19,23,24,25,26,27,28,30,39,41,42,43,44,46,48,49,50,51,53,57,66,70,73,81]
def t345:TC := tG n345 84 f345
theorem c345:TF E 345 n345 [(3,none),(4,none)] t345 84 := zj (F := f345) rfl (by kernel_rfl) (by decide)

def n346:List Nat := [0,1,4,5,10,14,80]
def t346:TC := tG n346 81 f346
theorem c346:TF E 346 n346 [(2,none)] t346 81 := zj (F := f346) rfl (by kernel_rfl) (by decide)

def n350:List Nat := [0,2,3,4,5,7,9,13,16,17,18,20,21,22,23,25,33,35,36,37,38,40,48]
def t350:TC := tG n350 50 f350
theorem c350:TF E 350 n350 [(1,none),(2,none)] t350 50 := zj (F := f350) rfl (by kernel_rfl) (by decide)

def n352:List Nat := [0,1,2,6,7,9,10,11,15,19,21,22,23,24,26,30,31,39,46]
def t352:TC := tG n352 49 f352
theorem c352:TF E 352 n352 [(3,none),(4,none)] t352 49 := zj (F := f352) rfl (by kernel_rfl) (by decide)

def n354:List Nat := [0,2,3,5,6,7,8,9,10,14,16,17,18,19,21,25,30,31,32,33,36,61,63,67]
def t354:TC := tG n354 74 f354
theorem c354:TF E 354 n354 [(1,some 73),(2,none)] t354 74 := zj (F := f354) rfl (by kernel_rfl) (by decide)

def n355:List Nat := [0,1,2,3,4,5,47,49,50,51,52,55,92,107,114]
def t355:TC := tG n355 115 f355
theorem c355:TF E 355 n355 [(2,none)] t355 115 := zj (F := f355) rfl (by kernel_rfl) (by decide)

def n356:List Nat := [0,2,7]
def t356:TC := tG n356 8 f356
theorem c356:TF E 356 n356 [(1,none)] t356 8 := zj (F := f356) rfl (by kernel_rfl) (by decide)

def n357:List Nat := [0,2,3,4,5,6,10,17]
def t357:TC := tG n357 27 f357
theorem c357:TF E 357 n357 [(1,some 73),(2,none)] t357 27 := zj (F := f357) rfl (by kernel_rfl) (by decide)

def n358:List Nat := [0,1,2,38,42]
def t358:TC := tG n358 43 f358
theorem c358:TF E 358 n358 [(2,none)] t358 43 := zj (F := f358) rfl (by kernel_rfl) (by decide)

def n359:List Nat := [0,1,2]
def t359:TC := tG n359 4 f359
theorem c359:TF E 359 n359 [(2,none)] t359 4 := zj (F := f359) rfl (by kernel_rfl) (by decide)

def n360:List Nat := [0,2,3,4,5,6,9,13,22,28,64]
def t360:TC := tG n360 71 f360
theorem c360:TF E 360 n360 [(1,none)] t360 71 := zj (F := f360) rfl (by kernel_rfl) (by decide)

def n362:List Nat := [0,1,2,3,4]
def t362:TC := tG n362 17 f362
theorem c362:TF E 362 n362 [(4,none)] t362 17 := zj (F := f362) rfl (by kernel_rfl) (by decide)

def n363:List Nat := [0,2,3,4,5,8,13,25,32,44,59]
def t363:TC := tG n363 61 f363
theorem c363:TF E 363 n363 [(1,none)] t363 61 := zj (F := f363) rfl (by kernel_rfl) (by decide)

def n364:List Nat := [0,2,3,4,5,6,7,8,9,14,20,21,24,31,33,43,46,52,53,54,55,66]
def t364:TC := tG n364 69 f364
theorem c364:TF E 364 n364 [(1,some 73)] t364 69 := zj (F := f364) rfl (by kernel_rfl) (by decide)

def n365:List Nat := [0,2,3,5,6,8,9,10,11,12,20,24,25,26,27,28,33]
def t365:TC := tG n365 36 f365
theorem c365:TF E 365 n365 [(1,none)] t365 36 := zj (F := f365) rfl (by kernel_rfl) (by decide)

def n366:List Nat := [0,2,3,5,7,8,9,10,18]
def t366:TC := tG n366 22 f366
theorem c366:TF E 366 n366 [(1,some 55)] t366 22 := zj (F := f366) rfl (by kernel_rfl) (by decide)

def n367:List Nat := [0,2]
def t367:TC := tG n367 6 f367
theorem c367:TF E 367 n367 [(1,none)] t367 6 := zj (F := f367) rfl (by kernel_rfl) (by decide)

def n368:List Nat := [0,1,2,6]
def t368:TC := tG n368 15 f368
theorem c368:TF E 368 n368 [(3,none)] t368 15 := zj (F := f368) rfl (by kernel_rfl) (by decide)

def n369:List Nat := [0,1,2,3,4,5,6,7,8]
def t369:TC := tG n369 10 f369
theorem c369:TF E 369 n369 [(8,none)] t369 10 := zj (F := f369) rfl (by kernel_rfl) (by decide)

def n370:List Nat := [0,2,3,5,7,9,10,11,12,14,18,26]
def t370:TC := tG n370 29 f370
theorem c370:TF E 370 n370 [(1,none)] t370 29 := zj (F := f370) rfl (by kernel_rfl) (by decide)

def n371:List Nat := [0,1,2,6]
def t371:TC := tG n371 15 f371
theorem c371:TF E 371 n371 [(3,none)] t371 15 := zj (F := f371) rfl (by kernel_rfl) (by decide)

def n373:List Nat := [0,1,2,4,6,7,8,9,22,37,40,57,62,67]
def t373:TC := tG n373 68 f373
theorem c373:TF E 373 n373 [(4,none)] t373 68 := zj (F := f373) rfl (by kernel_rfl) (by decide)

def n374:List Nat := [0,2,3,4,9,17,24]
def t374:TC := tG n374 26 f374
theorem c374:TF E 374 n374 [(1,none)] t374 26 := zj (F := f374) rfl (by kernel_rfl) (by decide)

def n375:List Nat := [0,2,3,4,5,6,7,8,9,10,13,15,36,38,44,63]
def t375:TC := tG n375 65 f375
theorem c375:TF E 375 n375 [(1,none)] t375 65 := zj (F := f375) rfl (by kernel_rfl) (by decide)

def n376:List Nat := [0]
def t376:TC := tG n376 2 f376
theorem c376:TF E 376 n376 [(0,some 73)] t376 2 := zj (F := f376) rfl (by kernel_rfl) (by decide)

def n377:List Nat := [0,1,2,3,4,5,7,11]
def t377:TC := tG n377 16 f377
theorem c377:TF E 377 n377 [(4,some 73)] t377 16 := zj (F := f377) rfl (by kernel_rfl) (by decide)

def n378:List Nat := [0,2,3,4,12,16,22,44,73]
def t378:TC := tG n378 74 f378
theorem c378:TF E 378 n378 [(1,none)] t378 74 := zj (F := f378) rfl (by kernel_rfl) (by decide)

def n379:List Nat := [0,2,3,4,8]
def t379:TC := tG n379 19 f379
theorem c379:TF E 379 n379 [(1,none)] t379 19 := zj (F := f379) rfl (by kernel_rfl) (by decide)

def n380:List Nat := [0,1,4,6,7,8,9,10,12,14,15,16,17,19,24,25]
def t380:TC := tG n380 28 f380
theorem c380:TF E 380 n380 [] t380 28 := zj (F := f380) rfl (by kernel_rfl) (by decide)

def n383:List Nat := [0,1,4,6,7,8]
def t383:TC := tG n383 23 f383
theorem c383:TF E 383 n383 [] t383 23 := zj (F := f383) rfl (by kernel_rfl) (by decide)

def n385:List Nat := [0,1,2,3,4,11,18,28,37,38]
def t385:TC := tG n385 39 f385
theorem c385:TF E 385 n385 [] t385 39 := zj (F := f385) rfl (by kernel_rfl) (by decide)

def n386:List Nat := [0,1,2,3,4]
def t386:TC := tG n386 17 f386
theorem c386:TF E 386 n386 [(4,none)] t386 17 := zj (F := f386) rfl (by kernel_rfl) (by decide)

def n387:List Nat := [0,1,2]
def t387:TC := tG n387 4 f387
theorem c387:TF E 387 n387 [(2,none)] t387 4 := zj (F := f387) rfl (by kernel_rfl) (by decide)

def n389:List Nat := [0,1,2,3,4]
def t389:TC := tG n389 24 f389
theorem c389:TF E 389 n389 [(4,none)] t389 24 := zj (F := f389) rfl (by kernel_rfl) (by decide)

def n390:List Nat := [0,1,4,5,11,13]
def t390:TC := tG n390 15 f390
theorem c390:TF E 390 n390 [(2,some 73)] t390 15 := zj (F := f390) rfl (by kernel_rfl) (by decide)

def n391:List Nat := [0,1,2,3,4,5,6,7,8,12,19,26,42,61]
def t391:TC := tG n391 64 f391
theorem c391:TF E 391 n391 [(2,none),(3,none)] t391 64 := zj (F := f391) rfl (by kernel_rfl) (by decide)

def n392:List Nat := [0,1,2,3,4,7,9]
def t392:TC := tG n392 11 f392
theorem c392:TF E 392 n392 [(4,some 73)] t392 11 := zj (F := f392) rfl (by kernel_rfl) (by decide)

def n393:List Nat := [0,1,2,3,4]
def t393:TC := tG n393 24 f393
theorem c393:TF E 393 n393 [(4,none)] t393 24 := zj (F := f393) rfl (by kernel_rfl) (by decide)

def n404:List Nat := [0,1,4,5,6,7,8,9,10,11,12,13,14,15,22,26,68,69,70,118,129,130]
def t404:TC := tG n404 144 f404
theorem c404:TF E 404 n404 [] t404 144 := zj (F := f404) rfl (by kernel_rfl) (by decide)

def n405:List Nat := [0,2,4,6,7,8,9]
def t405:TC := tG n405 19 f405
theorem c405:TF E 405 n405 [(1,none)] t405 19 := zj (F := f405) rfl (by kernel_rfl) (by decide)

def n406:List Nat := [0,1,4,5]
def t406:TC := tG n406 17 f406
theorem c406:TF E 406 n406 [(2,none)] t406 17 := zj (F := f406) rfl (by kernel_rfl) (by decide)

def n407:List Nat := [0,1,2,3,8]
def t407:TC := tG n407 23 f407
theorem c407:TF E 407 n407 [(4,none)] t407 23 := zj (F := f407) rfl (by kernel_rfl) (by decide)

def n410:List Nat := [0,2,3,4,5,6,7,14,26]
def t410:TC := tG n410 42 f410
theorem c410:TF E 410 n410 [(1,some 73)] t410 42 := zj (F := f410) rfl (by kernel_rfl) (by decide)

def n411:List Nat := [0,2]
def t411:TC := tG n411 5 f411
theorem c411:TF E 411 n411 [(1,some 55)] t411 5 := zj (F := f411) rfl (by kernel_rfl) (by decide)

def n418:List Nat := [0,2,3,4,5,8,10,14,17,23,33]
def t418:TC := tG n418 35 f418
theorem c418:TF E 418 n418 [(1,none)] t418 35 := zj (F := f418) rfl (by kernel_rfl) (by decide)

def n419:List Nat := [0,1,2,4,5,6,7,8,9,10,11,12,13,14,15,16,17,18,19,20,21,24,38,96]
def t419:TC := tG n419 191 f419
theorem c419:TF E 419 n419 [(3,some 76)] t419 191 := zj (F := f419) rfl (by kernel_rfl) (by decide)

def n421:List Nat := [0,2]
def t421:TC := tG n421 25 f421
theorem c421:TF E 421 n421 [(1,none)] t421 25 := zj (F := f421) rfl (by kernel_rfl) (by decide)

def n422:List Nat := [0,1,4]
def t422:TC := tG n422 13 f422
theorem c422:TF E 422 n422 [(2,none)] t422 13 := zj (F := f422) rfl (by kernel_rfl) (by decide)

def n423:List Nat := [0]
def t423:TC := .seq (.run 0 [u9E 0 (.alloc 80) .nil none]) (.seq (.run 0 [.eff none none (.store 80 (.t 0) (.t 1)) (.cons 0 (.v 0) (.cons 1 (.n (.build 80 [(0,(.c (.int .u32
 1116352408))),(1,(.c (.int .u32 1899447441))),(2,(.c (.int .u32 3049323471))),(3,(.c (.int .u32 3921009573))),(4,(.c (.int .u32 961987163))),(5,(.c (.int .u32 1508970993))),
 (6,(.c (.int .u32 2453635748))),(7,(.c (.int .u32 2870763221))),(8,(.c (.int .u32 3624381080))),(9,(.c (.int .u32 310598401))),(10,(.c (.int .u32 607225278))),(11,
 (.c (.int .u32 1426881987))),(12,(.c (.int .u32 1925078388))),(13,(.c (.int .u32 2162078206))),(14,(.c (.int .u32 2614888103))),(15,(.c (.int .u32 3248222580))),(16,
 (.c (.int .u32 3835390401))),(17,(.c (.int .u32 4022224774))),(18,(.c (.int .u32 264347078))),(19,(.c (.int .u32 604807628))),(20,(.c (.int .u32 770255983))),(21,
 (.c (.int .u32 1249150122))),(22,(.c (.int .u32 1555081692))),(23,(.c (.int .u32 1996064986))),(24,(.c (.int .u32 2554220882))),(25,(.c (.int .u32 2821834349))),(26,
 (.c (.int .u32 2952996808))),(27,(.c (.int .u32 3210313671))),(28,(.c (.int .u32 3336571891))),(29,(.c (.int .u32 3584528711))),(30,(.c (.int .u32 113926993))),(31,
 (.c (.int .u32 338241895))),(32,(.c (.int .u32 666307205))),(33,(.c (.int .u32 773529912))),(34,(.c (.int .u32 1294757372))),(35,(.c (.int .u32 1396182291))),(36,
 (.c (.int .u32 1695183700))),(37,(.c (.int .u32 1986661051))),(38,(.c (.int .u32 2177026350))),(39,(.c (.int .u32 2456956037))),(40,(.c (.int .u32 2730485921))),(41,
 (.c (.int .u32 2820302411))),(42,(.c (.int .u32 3259730800))),(43,(.c (.int .u32 3345764771))),(44,(.c (.int .u32 3516065817))),(45,(.c (.int .u32 3600352804))),(46,
 (.c (.int .u32 4094571909))),(47,(.c (.int .u32 275423344))),(48,(.c (.int .u32 430227734))),(49,(.c (.int .u32 506948616))),(50,(.c (.int .u32 659060556))),(51,(.c
 (.int .u32 883997877))),(52,(.c (.int .u32 958139571))),(53,(.c (.int .u32 1322822218))),(54,(.c (.int .u32 1537002063))),(55,(.c (.int .u32 1747873779))),(56,(.c
 (.int .u32 1955562222))),(57,(.c (.int .u32 2024104815))),(58,(.c (.int .u32 2227730452))),(59,(.c (.int .u32 2361852424))),(60,(.c (.int .u32 2428436474))),(61,(.c
 (.int .u32 2756734187))),(62,(.c (.int .u32 3204031479))),(63,(.c (.int .u32 3329325298)))]) .nil) .nil)) none]) (.ret))
theorem c423:TF E 423 n423 [(0,some 80)] t423 2 := zj (F := f423) rfl (by kernel_rfl) (by decide)

def n427:List Nat := [0,1,2,6,7,8,9,10,12,20,21,28]
def t427:TC := tG n427 43 f427
theorem c427:TF E 427 n427 [(3,none)] t427 43 := zj (F := f427) rfl (by kernel_rfl) (by decide)

def n428:List Nat := [0,1,2,6,7,8,9,13,17,23,31]
def t428:TC := tG n428 34 f428
theorem c428:TF E 428 n428 [(3,none),(4,none)] t428 34 := zj (F := f428) rfl (by kernel_rfl) (by decide)

def n429:List Nat := [0,1,2,6,7,8,9,10,11,12,13,14,16,19,20,27,34,39]
def t429:TC := tG n429 69 f429
theorem c429:TF E 429 n429 [(3,none)] t429 69 := zj (F := f429) rfl (by kernel_rfl) (by decide)

def n430:List Nat := [0,1,2,6,7,8,9,10,11,12,17,21,28,37,38,47,56]
def t430:TC := tG n430 58 f430
theorem c430:TF E 430 n430 [(3,none),(4,none)] t430 58 := zj (F := f430) rfl (by kernel_rfl) (by decide)

def n431:List Nat := [0,2,3,4,5,6,7,8,9,14,21,27,30,43,48]
def t431:TC := tG n431 49 f431
theorem c431:TF E 431 n431 [(1,none),(2,none)] t431 49 := zj (F := f431) rfl (by kernel_rfl) (by decide)

def n433:List Nat := [0,2,3,4,8,15,57]
def t433:TC := tG n433 58 f433
theorem c433:TF E 433 n433 [(1,none)] t433 58 := zj (F := f433) rfl (by kernel_rfl) (by decide)

def n434:List Nat := [0,1,4,5,6,7,8,11,15,25,35,39]
def t434:TC := tG n434 49 f434
theorem c434:TF E 434 n434 [(2,none)] t434 49 := zj (F := f434) rfl (by kernel_rfl) (by decide)

def n435:List Nat := [0,2,3,4,5,10,20]
def t435:TC := tG n435 35 f435
theorem c435:TF E 435 n435 [(1,none)] t435 35 := zj (F := f435) rfl (by kernel_rfl) (by decide)

def n436:List Nat := [0,1,3,4,5,6,18,32,38,42,47]
def t436:TC := tG n436 48 f436
theorem c436:TF E 436 n436 [(3,none)] t436 48 := zj (F := f436) rfl (by kernel_rfl) (by decide)

theorem ty_0:E.ty 0=⟨.struct [(0,10),(1,9),(2,14)],3,72,[(.imm .exact []),(.imm .exact []),(.imm .exact [])],false⟩ := rfl
theorem ty_1:E.ty 1=⟨.slice 2,1,24,[(.imm .exact [])],false⟩ := rfl
theorem ty_2:E.ty 2=⟨.int .i64,1,8,[(.int .i64 0)],false⟩ := rfl
theorem ty_3:E.ty 3=⟨.int .i64,1,8,[(.int .i64 0)],false⟩ := rfl
theorem ty_4:E.ty 4=⟨.slice 1,1,24,[(.imm .exact [])],false⟩ := rfl
theorem ty_6:E.ty 6=⟨.slice 2,1,24,[(.imm .exact [])],false⟩ := rfl
theorem ty_7:E.ty 7=⟨.bool,1,1,[(.bool false)],false⟩ := rfl
theorem ty_9:E.ty 9=⟨.slice 6,1,24,[(.imm .exact [])],false⟩ := rfl
theorem yev:E.ty 10=⟨.slice 20,1,24,[(.imm .exact [])],false⟩ := rfl
theorem yeu:E.ty 11=⟨.struct [(0,2),(1,2)],2,16,[(.int .i64 0),(.int .i64 0)],true⟩ := rfl
theorem yet:E.ty 12=⟨.int .u64,1,8,[(.int .u64 0)],false⟩ := rfl
theorem yer:E.ty 13=⟨.int .u8,1,1,[(.int .u8 0)],false⟩ := rfl
theorem yeq:E.ty 14=⟨.slice 15,1,24,[(.imm .exact [])],false⟩ := rfl
theorem yep:E.ty 15=⟨.struct [(0,2),(1,2),(2,6),(3,16)],4,64,[(.int .i64 0),(.int .i64 0),(.imm .exact []),(.imm .exact [])],false⟩ := rfl
theorem yeo:E.ty 16=⟨.slice 17,1,24,[(.imm .exact [])],false⟩ := rfl
theorem yen:E.ty 17=⟨.struct [(0,2),(1,2),(2,2),(3,18)],4,48,[(.int .i64 0),(.int .i64 0),(.int .i64 0),(.imm .exact [])],false⟩ := rfl
theorem yem:E.ty 18=⟨.slice 19,1,24,[(.imm .exact [])],false⟩ := rfl
theorem yel:E.ty 19=⟨.struct [(0,20),(3,2)],4,32,[(.bool false),(.int .i64 0),(.int .i64 0),(.int .i64 0)],true⟩ := rfl
theorem yek:E.ty 20=⟨.struct [(0,7),(1,2),(2,2)],3,24,[(.bool false),(.int .i64 0),(.int .i64 0)],true⟩ := rfl
theorem yej:E.ty 21=⟨.map 20 7,1,8,[(.map none)],false⟩ := rfl
theorem yei:E.ty 22=⟨.arr 4 2,4,32,[(.int .i64 0),(.int .i64 0),(.int .i64 0),(.int .i64 0)],true⟩ := rfl
theorem yeh:E.ty 26=⟨.map 20 2,1,8,[(.map none)],false⟩ := rfl
theorem yeg:E.ty 28=⟨.struct [(0,4),(1,6),(2,6),(3,31)],4,96,[(.imm .exact []),(.imm .exact []),(.imm .exact []),(.imm .exact [])],false⟩ := rfl
theorem yef:E.ty 29=⟨.struct [(0,6),(1,6),(2,31)],3,72,[(.imm .exact []),(.imm .exact []),(.imm .exact [])],false⟩ := rfl
theorem yee:E.ty 30=⟨.slice 13,1,24,[(.imm .exact [])],false⟩ := rfl
theorem yed:E.ty 31=⟨.slice 32,1,24,[(.imm .exact [])],false⟩ := rfl
theorem yec:E.ty 32=⟨.struct [(0,1),(1,2),(2,9)],3,56,[(.imm .exact []),(.int .i64 0),(.imm .exact [])],false⟩ := rfl
theorem yeb:E.ty 33=⟨.func,1,8,[.nilfn],false⟩ := rfl
theorem yea:E.ty 35=⟨.slice 1,1,24,[(.imm .exact [])],false⟩ := rfl
theorem ye9:E.ty 36=⟨.slice 37,1,24,[(.imm .exact [])],false⟩ := rfl
theorem ye8:E.ty 37=⟨.struct [(0,2),(1,2),(2,2)],3,24,[(.int .i64 0),(.int .i64 0),(.int .i64 0)],true⟩ := rfl
theorem ye7:E.ty 38=⟨.slice 39,1,24,[(.imm .exact [])],false⟩ := rfl
theorem ye6:E.ty 39=⟨.struct [(0,2),(1,9)],2,32,[(.int .i64 0),(.imm .exact [])],false⟩ := rfl
theorem ye5:E.ty 40=⟨.func,1,8,[.nilfn],false⟩ := rfl
theorem ye4:E.ty 53=⟨.str,1,16,[(.str [])],false⟩ := rfl
theorem ye3:E.ty 55=⟨.struct [(0,2),(1,2),(2,53),(3,56)],4,56,[(.int .i64 0),(.int .i64 0),(.str []),(.imm .exact [])],false⟩ := rfl
theorem ye2:E.ty 56=⟨.slice 55,1,24,[(.imm .exact [])],false⟩ := rfl
theorem ye1:E.ty 57=⟨.arr 4 58,4,32,[.nilfn,.nilfn,.nilfn,.nilfn],false⟩ := rfl
theorem ye0:E.ty 58=⟨.struct [(0,59)],1,8,[.nilfn],false⟩ := rfl
theorem ydz:E.ty 59=⟨.func,1,8,[.nilfn],false⟩ := rfl
theorem ydy:E.ty 62=⟨.ptr 57,1,8,[.nilp],false⟩ := rfl
theorem ydx:E.ty 63=⟨.int .u64,1,8,[(.int .u64 0)],false⟩ := rfl
theorem ydw:E.ty 64=⟨.arr 4 7,4,4,[(.bool false),(.bool false),(.bool false),(.bool false)],true⟩ := rfl
theorem ydv:E.ty 65=⟨.struct [(0,2),(1,2)],2,16,[(.int .i64 0),(.int .i64 0)],true⟩ := rfl
theorem ydu:E.ty 66=⟨.slice 72,1,24,[(.imm .exact [])],false⟩ := rfl
theorem ydt:E.ty 67=⟨.slice 65,1,24,[(.imm .exact [])],false⟩ := rfl
theorem yds:E.ty 70=⟨.slice 71,1,24,[(.imm .exact [])],false⟩ := rfl
theorem ydr:E.ty 71=⟨.struct [(0,2),(1,2),(2,2),(3,66),(4,73)],36,80,[(.int .i64 0),(.int .i64 0),(.int .i64 0),(.imm .exact []),(.int .u8 0),(.int .u8 0),(.int .u8 0),(.int .u8 0),(.int .u8 0),(.int .u8 0),(.int .u8 0),(.int .u8 0),(.int .u8 0),(.int .u8 0),(.int .u8 0),(.int .u8 0),(.int .u8 0),(.int .u8 0),(.int .u8 0),(.int .u8 0),(.int .u8 0),(.int .u8 0),(.int .u8 0),(.int .u8 0),(.int .u8 0),(.int .u8 0),(.int .u8 0),(.int .u8 0),(.int .u8 0),(.int .u8 0),(.int .u8 0),(.int .u8 0),(.int .u8 0),(.int .u8 0),(.int .u8 0),(.int .u8 0)],false⟩ := rfl
theorem ydq:E.ty 72=⟨.struct [(0,65),(2,2)],3,24,[(.int .i64 0),(.int .i64 0),(.int .i64 0)],true⟩ := rfl
theorem ydp:E.ty 73=⟨.arr 32 13,32,32,[(.int .u8 0),(.int .u8 0),(.int .u8 0),(.int .u8 0),(.int .u8 0),(.int .u8 0),(.int .u8 0),(.int .u8 0),(.int .u8 0),(.int .u8 0),(.int .u8 0),(.int .u8 0),(.int .u8 0),(.int .u8 0),(.int .u8 0),(.int .u8 0),(.int .u8 0),(.int .u8 0),(.int .u8 0),(.int .u8 0),(.int .u8 0),(.int .u8 0),(.int .u8 0),(.int .u8 0),(.int .u8 0),(.int .u8 0),(.int .u8 0),(.int .u8 0),(.int .u8 0),(.int .u8 0),(.int .u8 0),(.int .u8 0)],true⟩ := rfl
theorem ydo:E.ty 74=⟨.slice 30,1,24,[(.imm .exact [])],false⟩ := rfl
theorem ydn:E.ty 75=⟨.map 65 2,1,8,[(.map none)],false⟩ := rfl
theorem ydm:E.ty 76=⟨.arr 8 78,8,32,[(.int .u32 0),(.int .u32 0),(.int .u32 0),(.int .u32 0),(.int .u32 0),(.int .u32 0),(.int .u32 0),(.int .u32 0)],true⟩ := rfl
theorem ydl:E.ty 77=⟨.arr 8 78,8,32,[(.int .u32 0),(.int .u32 0),(.int .u32 0),(.int .u32 0),(.int .u32 0),(.int .u32 0),(.int .u32 0),(.int .u32 0)],true⟩ := rfl
theorem ydk:E.ty 78=⟨.int .u32,1,4,[(.int .u32 0)],false⟩ := rfl
theorem ydj:E.ty 79=⟨.int .i64,1,8,[(.int .i64 0)],false⟩ := rfl
theorem ydi:E.ty 80=⟨.arr 64 78,64,256,[(.int .u32 0),(.int .u32 0),(.int .u32 0),(.int .u32 0),(.int .u32 0),(.int .u32 0),(.int .u32 0),(.int .u32 0),(.int .u32 0),(.int .u32 0),(.int .u32 0),(.int .u32 0),(.int .u32 0),(.int .u32 0),(.int .u32 0),(.int .u32 0),(.int .u32 0),(.int .u32 0),(.int .u32 0),(.int .u32 0),(.int .u32 0),(.int .u32 0),(.int .u32 0),(.int .u32 0),(.int .u32 0),(.int .u32 0),(.int .u32 0),(.int .u32 0),(.int .u32 0),(.int .u32 0),(.int .u32 0),(.int .u32 0),(.int .u32 0),(.int .u32 0),(.int .u32 0),(.int .u32 0),(.int .u32 0),(.int .u32 0),(.int .u32 0),(.int .u32 0),(.int .u32 0),(.int .u32 0),(.int .u32 0),(.int .u32 0),(.int .u32 0),(.int .u32 0),(.int .u32 0),(.int .u32 0),(.int .u32 0),(.int .u32 0),(.int .u32 0),(.int .u32 0),(.int .u32 0),(.int .u32 0),(.int .u32 0),(.int .u32 0),(.int .u32 0),(.int .u32 0),(.int .u32 0),(.int .u32 0),(.int .u32 0),(.int .u32 0),(.int .u32 0),(.int .u32 0)],true⟩ := rfl
theorem ydh:E.ty 81=⟨.slice 78,1,24,[(.imm .exact [])],false⟩ := rfl
theorem ydg:E.ty 82=⟨.int .u64,1,8,[(.int .u64 0)],false⟩ := rfl

end Dv
