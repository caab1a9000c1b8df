/- Texts that a proof of this claim uses, joined: Lw.TCode. -/
import Derived.Test.YtpekfakljjogjaaLwa
import Derived.Test.YtpekfakljjogjaaCode
import Derived.KernelRfl
set_option linter.all false
/- The tidy code of the functions, as printed by program. -/
namespace Dv
open Go (IntKind BinOp UnOp)

def n2 : List Nat := [0, 1, 2, 3, 4, 5, 6, 22, 27, 36, 41, 48, 58, 63, 73]
def t2 : TC := .seq (.run 0 [.eff none (some 1) (.box 0 (.t 0)) (.cons 0 (.v 0) .nil) none,
     .asg 2 (.c (.bool false))])
  (.seq (.seq (.run 0 [.asg 7 (.ite (.ite (.n (.bin .gtr 2 (.t 9) (.c (.int .i64 12))) (.cons 9 (.n (.len 10 (.t 8)) (.cons 8 (.n (.load 10 (.t 7)) (.cons 7 (.n (.faddr 0 (.t 1) 0) (.cons 1 (.v 1) .nil)) .nil)) .nil)) .nil)) (.c (.bool true)) (.n (.bin .gtr 2 (.t 14) (.c (.int .i64 4))) (.cons 14 (.n (.len 9 (.t 13)) (.cons 13 (.n (.load 9 (.t 12)) (.cons 12 (.n (.faddr 0 (.t 1) 1) (.cons 1 (.v 1) .nil)) .nil)) .nil)) .nil))) (.c (.bool true)) (.n (.bin .gtr 2 (.t 20) (.c (.int .i64 6))) (.cons 20 (.n (.len 14 (.t 19)) (.cons 19 (.n (.load 14 (.t 18)) (.cons 18 (.n (.faddr 0 (.t 1) 2) (.cons 1 (.v 1) .nil)) .nil)) .nil)) .nil)))])
   (.cond 7 (.seq (.run 0 [.asg 2 (.c (.bool false))])
     (.ret)) (.skip)))
  (.seq (.seq (.run 0 [.asg 3 (.c (.int .i64 0))])
   (.block 0 (.loop (
       .seq (.seq (.run 0 [.asg 8 (.n (.bin .lss 2 (.t 23) (.t 26)) (.cons 23 (.v 3) (.cons 26 (.n (.len 9 (.t 25)) (.cons 25 (.n (.load 9 (.t 24)) (.cons 24 (.n (.faddr 0 (.t 1) 1) (.cons 1 (.v 1) .nil)) .nil)) .nil)) .nil)))])
        (.cond 8 (.skip) (.exit 0)))
       (.seq (.block 1 (.seq (.run 0 [.asg 9 (.n (.bin .gtr 2 (.t 35) (.c (.int .i64 16))) (.cons 35 (.n (.len 6 (.t 34)) (.cons 34 (.n (.load 6 (.t 33)) (.cons 33 (.n (.iaddr 9 (.t 31) (.t 32)) (.cons 31 (.n (.load 9 (.t 30)) (.cons 30 (.n (.faddr 0 (.t 1) 1) (.cons 1 (.v 1) .nil)) .nil)) (.cons 32 (.v 3) .nil))) .nil)) .nil)) .nil))])
          (.cond 9 (.seq (.run 0 [.asg 2 (.c (.bool false))])
            (.ret)) (.skip))))
       (.run 0 [.asg 3 (.n (.bin .add 2 (.t 28) (.c (.int .i64 1))) (.cons 28 (.v 3) .nil))]))))))
  (.seq (.seq (.run 0 [.asg 4 (.c (.int .i64 0))])
   (.block 2 (.loop (
       .seq (.seq (.run 0 [.asg 10 (.n (.bin .lss 2 (.t 37) (.t 40)) (.cons 37 (.v 4) (.cons 40 (.n (.len 14 (.t 39)) (.cons 39 (.n (.load 14 (.t 38)) (.cons 38 (.n (.faddr 0 (.t 1) 2) (.cons 1 (.v 1) .nil)) .nil)) .nil)) .nil)))])
        (.cond 10 (.skip) (.exit 2)))
       (.seq (.block 3 (.seq (.run 0 [.asg 11 (.n (.load 15 (.t 47)) (.cons 47 (.n (.iaddr 14 (.t 45) (.t 46)) (.cons 45 (.n (.load 14 (.t 44)) (.cons 44 (.n (.faddr 0 (.t 1) 2) (.cons 1 (.v 1) .nil)) .nil)) (.cons 46 (.v 4) .nil))) .nil)),
             .eff none (some 5) (.alloc 15) .nil none,
             .eff none none (.store 15 (.t 5) (.t 48)) (.cons 5 (.v 5) (.cons 48 (.v 11) .nil)) none])
          (.seq (.seq (.run 0 [.asg 12 (.ite (.n (.bin .gtr 2 (.t 51) (.c (.int .i64 8))) (.cons 51 (.n (.len 6 (.t 50)) (.cons 50 (.n (.load 6 (.t 49)) (.cons 49 (.n (.faddr 15 (.t 5) 2) (.cons 5 (.v 5) .nil)) .nil)) .nil)) .nil)) (.c (.bool true)) (.n (.bin .gtr 2 (.t 56) (.c (.int .i64 8))) (.cons 56 (.n (.len 16 (.t 55)) (.cons 55 (.n (.load 16 (.t 54)) (.cons 54 (.n (.faddr 15 (.t 5) 3) (.cons 5 (.v 5) .nil)) .nil)) .nil)) .nil)))])
           (.cond 12 (.seq (.run 0 [.asg 2 (.c (.bool false))])
             (.ret)) (.skip)))
          (.seq (.run 0 [.asg 6 (.c (.int .i64 0))])
          (.block 4 (.loop (
              .seq (.seq (.run 0 [.asg 13 (.n (.bin .lss 2 (.t 59) (.t 62)) (.cons 59 (.v 6) (.cons 62 (.n (.len 16 (.t 61)) (.cons 61 (.n (.load 16 (.t 60)) (.cons 60 (.n (.faddr 15 (.t 5) 3) (.cons 5 (.v 5) .nil)) .nil)) .nil)) .nil)))])
               (.cond 13 (.skip) (.exit 4)))
              (.seq (.block 5 (.seq (.run 0 [.asg 14 (.n (.bin .gtr 2 (.t 72) (.c (.int .i64 12))) (.cons 72 (.n (.len 18 (.t 71)) (.cons 71 (.n (.load 18 (.t 70)) (.cons 70 (.n (.faddr 17 (.t 69) 3) (.cons 69 (.n (.iaddr 16 (.t 67) (.t 68)) (.cons 67 (.n (.load 16 (.t 66)) (.cons 66 (.n (.faddr 15 (.t 5) 3) (.cons 5 (.v 5) .nil)) .nil)) (.cons 68 (.v 6) .nil))) .nil)) .nil)) .nil)) .nil))])
                 (.cond 14 (.seq (.run 0 [.asg 2 (.c (.bool false))])
                   (.ret)) (.skip))))
              (.run 0 [.asg 6 (.n (.bin .add 2 (.t 64) (.c (.int .i64 1))) (.cons 64 (.v 6) .nil))])))))))))
       (.run 0 [.asg 4 (.n (.bin .add 2 (.t 42) (.c (.int .i64 1))) (.cons 42 (.v 4) .nil))]))))))
  (.seq (.run 0 [.asg 2 (.n (.bin .lss 2 (.t 75) (.c (.int .i64 2000))) (.cons 75 (.n (.call 0 (.f 61) [(.t 74), (.c (.int .i64 2000))]) (.cons 74 (.n (.load 0 (.t 1)) (.cons 1 (.v 1) .nil)) .nil)) .nil))])
  (.ret)))))
theorem c2 : TF E 2 n2 [(2, none)] t2 77 := tf_of (F := f2) rfl (by kernel_rfl) (by decide)

def n3 : List Nat := [0, 1, 2, 4, 5, 6, 7, 8, 10, 11, 12, 13, 18, 20, 22, 23, 24, 25, 29, 35, 36, 37, 38, 39, 59, 60, 61]
def t3 : TC := .seq (.run 0 [.eff none (some 2) (.box 0 (.t 0)) (.cons 0 (.v 0) .nil) none,
     .eff none (some 3) (.alloc 6) .nil none,
     .asg 4 (.c (.int .i64 0))])
  (.seq (.seq (.run 0 [.asg 4 (.n (.call 0 (.f 62) [(.t 14), (.t 15)]) (.cons 14 (.n (.load 0 (.t 2)) (.cons 2 (.v 2) .nil)) (.cons 15 (.v 1) .nil)))])
   (.seq (.run 0 [.asg 12 (.n (.bin .neq 3 (.t 17) (.c (.int .i64 0))) (.cons 17 (.v 4) .nil))])
   (.cond 12 (.seq (.run 0 [.eff none none (.store 6 (.t 4) (.c (.imm .exact []))) (.cons 4 (.v 3) .nil) none,
        .asg 4 (.v 4)])
     (.ret)) (.skip))))
  (.seq (.run 0 [.eff none (some 13) (.mkslice true 6 (.c (.int .i64 4)) (.c (.int .i64 4))) .nil none,
     .eff none none (.store 6 (.t 4) (.t 20)) (.cons 4 (.v 3) (.cons 20 (.v 13) .nil)) none])
  (.seq (.seq (.run 0 [.asg 14 (.n (.load 9 (.t 21)) (.cons 21 (.n (.faddr 0 (.t 2) 1) (.cons 2 (.v 2) .nil)) .nil)),
      .asg 15 (.n (.len 9 (.t 22)) (.cons 22 (.v 14) .nil)),
      .asg 16 (.c (.int .i64 0))])
   (.block 0 (.loop (
       .seq (.run 0 [.asg 17 (.n (.bin .lss 2 (.t 24) (.t 23)) (.cons 24 (.v 16) (.cons 23 (.v 15) .nil)))])
       (.seq (.cond 17 (.skip) (.exit 0))
       (.seq (.block 1 (.seq (.run 0 [.asg 5 (.v 16),
             .asg 6 (.n (.load 6 (.t 27)) (.cons 27 (.n (.iaddr 9 (.t 22) (.t 24)) (.cons 22 (.v 14) (.cons 24 (.v 16) .nil))) .nil))])
          (.seq (.run 0 [.asg 18 (.n (.call 0 (.f 14) [(.t 30), (.t 31), (.t 32)]) (.cons 30 (.n (.load 0 (.t 2)) (.cons 2 (.v 2) .nil)) (.cons 31 (.v 1) (.cons 32 (.v 5) .nil)))),
             .asg 19 (.n (.extract (.t 29) 1) (.cons 29 (.v 18) .nil)),
             .asg 7 (.n (.extract (.t 29) 0) (.cons 29 (.v 18) .nil))])
          (.seq (.run 0 [.asg 20 (.v 7),
             .asg 21 (.n (.len 6 (.t 36)) (.cons 36 (.v 20) .nil)),
             .asg 22 (.c (.int .i64 0))])
          (.block 2 (.loop (
              .seq (.run 0 [.asg 23 (.n (.bin .lss 2 (.t 38) (.t 37)) (.cons 38 (.v 22) (.cons 37 (.v 21) .nil)))])
              (.seq (.cond 23 (.skip) (.exit 2))
              (.seq (.block 3 (.seq (.run 0 [.asg 8 (.v 22),
                    .asg 9 (.n (.load 2 (.t 41)) (.cons 41 (.n (.iaddr 6 (.t 36) (.t 38)) (.cons 36 (.v 20) (.cons 38 (.v 22) .nil))) .nil))])
                 (.run 13 [.eff none none (.store 2 (.t 54) (.t 53)) (.cons 54 (.n (.iaddr 6 (.t 43) (.c (.int .i64 0))) (.cons 43 (.n (.load 6 (.t 4)) (.cons 4 (.v 3) .nil)) .nil)) (.cons 53 (.n (.bin .add 2 (.t 45) (.t 52)) (.cons 45 (.n (.load 2 (.t 44)) (.cons 44 (.n (.iaddr 6 (.t 43) (.c (.int .i64 0))) (.cons 43 (.n (.load 6 (.t 4)) (.cons 4 (.v 3) .nil)) .nil)) .nil)) (.cons 52 (.n (.maxi [(.t 51), (.c (.int .i64 0))]) (.cons 51 (.n (.bin .sub 2 (.t 46) (.t 50)) (.cons 46 (.v 9) (.cons 50 (.n (.load 2 (.t 49)) (.cons 49 (.n (.iaddr 6 (.t 47) (.t 48)) (.cons 47 (.v 6) (.cons 48 (.v 8) .nil))) .nil)) .nil))) .nil)) .nil))) .nil)) (some 12)])))
              (.run 0 [.asg 22 (.n (.bin .add 2 (.t 38) (.c (.int .i64 1))) (.cons 38 (.v 22) .nil))]))))))))))
       (.run 0 [.asg 16 (.n (.bin .add 2 (.t 24) (.c (.int .i64 1))) (.cons 24 (.v 16) .nil))])))))))
  (.seq (.seq (.run 0 [.asg 24 (.n (.call 0 (.f 63) [(.t 57), (.t 58)]) (.cons 57 (.n (.load 0 (.t 2)) (.cons 2 (.v 2) .nil)) (.cons 58 (.v 1) .nil)))])
   (.block 4 (.rfunc 24 [25, 26] (.seq (.run 0 [.asg 10 (.v 25)])
       (.run 0 [.eff none (some 11) (.alloc 17) .nil none,
         .eff none none (.store 17 (.t 13) (.t 61)) (.cons 13 (.v 11) (.cons 61 (.v 26) .nil)) none])) (
       .block 5 (.seq (.run 9 [.eff none none (.store 2 (.t 69) (.t 68)) (.cons 69 (.n (.iaddr 6 (.t 62) (.c (.int .i64 1))) (.cons 62 (.n (.load 6 (.t 4)) (.cons 4 (.v 3) .nil)) .nil)) (.cons 68 (.n (.maxi [(.t 65), (.t 67)]) (.cons 65 (.n (.load 2 (.t 64)) (.cons 64 (.n (.iaddr 6 (.t 63) (.c (.int .i64 1))) (.cons 63 (.n (.load 6 (.t 4)) (.cons 4 (.v 3) .nil)) .nil)) .nil)) (.cons 67 (.n (.load 2 (.t 66)) (.cons 66 (.n (.faddr 17 (.t 13) 0) (.cons 13 (.v 11) .nil)) .nil)) .nil))) .nil)) (some 8)])
         (.seq (.run 10 [.eff none none (.store 2 (.t 78) (.t 77)) (.cons 78 (.n (.iaddr 6 (.t 70) (.c (.int .i64 2))) (.cons 70 (.n (.load 6 (.t 4)) (.cons 4 (.v 3) .nil)) .nil)) (.cons 77 (.n (.bin .add 2 (.t 72) (.t 76)) (.cons 72 (.n (.load 2 (.t 71)) (.cons 71 (.n (.iaddr 6 (.t 70) (.c (.int .i64 2))) (.cons 70 (.n (.load 6 (.t 4)) (.cons 4 (.v 3) .nil)) .nil)) .nil)) (.cons 76 (.n (.bin .mul 2 (.t 74) (.t 75)) (.cons 74 (.n (.load 2 (.t 73)) (.cons 73 (.n (.faddr 17 (.t 13) 1) (.cons 13 (.v 11) .nil)) .nil)) (.cons 75 (.v 10) .nil))) .nil))) .nil)) (some 9)])
         (.run 10 [.eff none none (.store 2 (.t 87) (.t 86)) (.cons 87 (.n (.iaddr 6 (.t 79) (.c (.int .i64 3))) (.cons 79 (.n (.load 6 (.t 4)) (.cons 4 (.v 3) .nil)) .nil)) (.cons 86 (.n (.bin .add 2 (.t 81) (.t 85)) (.cons 81 (.n (.load 2 (.t 80)) (.cons 80 (.n (.iaddr 6 (.t 79) (.c (.int .i64 3))) (.cons 79 (.n (.load 6 (.t 4)) (.cons 4 (.v 3) .nil)) .nil)) .nil)) (.cons 85 (.n (.bin .mul 2 (.t 83) (.t 84)) (.cons 83 (.n (.load 2 (.t 82)) (.cons 82 (.n (.faddr 17 (.t 13) 2) (.cons 13 (.v 11) .nil)) .nil)) (.cons 84 (.v 10) .nil))) .nil))) .nil)) (some 9)])))))))
  (.seq (.run 0 [.eff none none (.store 6 (.t 4) (.t 88)) (.cons 4 (.v 3) (.cons 88 (.n (.load 6 (.t 4)) (.cons 4 (.v 3) .nil)) .nil)) none,
     .asg 4 (.c (.int .i64 0))])
  (.ret))))))
theorem c3 : TF E 3 n3 [(3, some 6), (4, none)] t3 89 := tf_of (F := f3) rfl (by kernel_rfl) (by decide)

def n7 : List Nat := [0, 1, 2, 4, 5, 6, 7, 12, 20, 27, 28, 29, 38, 40]
def t7 : TC := .seq (.run 0 [.eff none (some 2) (.box 0 (.t 0)) (.cons 0 (.v 0) .nil) none,
     .asg 3 (.c (.imm .exact [])),
     .asg 4 (.c (.int .i64 0))])
  (.seq (.seq (.run 0 [.asg 4 (.n (.call 0 (.f 62) [(.t 8), (.t 9)]) (.cons 8 (.n (.load 0 (.t 2)) (.cons 2 (.v 2) .nil)) (.cons 9 (.v 1) .nil)))])
   (.seq (.run 0 [.asg 7 (.n (.bin .neq 3 (.t 11) (.c (.int .i64 0))) (.cons 11 (.v 4) .nil))])
   (.cond 7 (.seq (.run 0 [.asg 3 (.c (.imm .exact [])),
        .asg 4 (.v 4)])
     (.ret)) (.skip))))
  (.seq (.run 0 [.asg 5 (.n (.len 1 (.t 14)) (.cons 14 (.v 1) .nil))])
  (.seq (.seq (.run 0 [.asg 8 (.n (.bin .eql 2 (.t 16) (.t 19)) (.cons 16 (.v 5) (.cons 19 (.n (.len 14 (.t 18)) (.cons 18 (.n (.load 14 (.t 17)) (.cons 17 (.n (.faddr 0 (.t 2) 2) (.cons 2 (.v 2) .nil)) .nil)) .nil)) .nil)))])
   (.cond 8 (.seq (.run 0 [.asg 3 (.c (.imm .exact [])),
        .asg 4 (.c (.int .i64 280))])
     (.ret)) (.skip)))
  (.seq (.seq (.run 0 [.asg 9 (.n (.len 16 (.t 26)) (.cons 26 (.n (.load 16 (.t 25)) (.cons 25 (.n (.faddr 15 (.t 24) 3) (.cons 24 (.n (.iaddr 14 (.t 22) (.t 23)) (.cons 22 (.n (.load 14 (.t 21)) (.cons 21 (.n (.faddr 0 (.t 2) 2) (.cons 2 (.v 2) .nil)) .nil)) (.cons 23 (.v 5) .nil))) .nil)) .nil)) .nil)),
      .asg 10 (.c (.int .i64 0))])
   (.block 0 (.loop (
       .seq (.run 0 [.asg 11 (.n (.bin .lss 2 (.t 28) (.t 27)) (.cons 28 (.v 10) (.cons 27 (.v 9) .nil)))])
       (.seq (.cond 11 (.skip) (.exit 0))
       (.seq (.block 1 (.seq (.run 0 [.asg 6 (.v 10)])
          (.run 0 [.eff none (some 12) (.append 0 1 1 (.t 35) (.t 37)) (.cons 35 (.n (.slice 1 (.t 32) none (some (.t 33)) (some (.t 34))) (.cons 32 (.v 1) (.cons 33 (.v 5) (.cons 34 (.v 5) .nil)))) (.cons 37 (.n (.bslice false 1 1 [(0, (.t 36))]) (.cons 36 (.v 6) .nil)) .nil)) none,
            .eff none (some 13) (.append 0 4 4 (.t 31) (.t 39)) (.cons 31 (.v 3) (.cons 39 (.n (.bslice false 4 1 [(0, (.t 38))]) (.cons 38 (.v 12) .nil)) .nil)) none,
            .asg 3 (.v 13)])))
       (.run 0 [.asg 10 (.n (.bin .add 2 (.t 28) (.c (.int .i64 1))) (.cons 28 (.v 10) .nil))])))))))
  (.seq (.run 0 [.asg 3 (.v 3),
     .asg 4 (.c (.int .i64 0))])
  (.ret))))))
theorem c7 : TF E 7 n7 [(3, none), (4, none)] t7 43 := tf_of (F := f7) rfl (by kernel_rfl) (by decide)

def n14 : List Nat := [0, 1, 2, 3, 6, 7, 12, 20]
def t14 : TC := .seq (.run 0 [.eff none (some 3) (.box 0 (.t 0)) (.cons 0 (.v 0) .nil) none,
     .asg 4 (.c (.imm .exact [])),
     .asg 5 (.c (.int .i64 0))])
  (.seq (.seq (.run 0 [.asg 5 (.n (.call 0 (.f 66) [(.t 8), (.t 9)]) (.cons 8 (.n (.load 0 (.t 3)) (.cons 3 (.v 3) .nil)) (.cons 9 (.v 1) .nil)))])
   (.seq (.run 0 [.asg 6 (.n (.bin .neq 3 (.t 11) (.c (.int .i64 0))) (.cons 11 (.v 5) .nil))])
   (.cond 6 (.seq (.run 0 [.asg 4 (.c (.imm .exact [])),
        .asg 5 (.v 5)])
     (.ret)) (.skip))))
  (.seq (.seq (.run 0 [.asg 7 (.n (.un .not (.t 19)) (.cons 19 (.n (.call 0 (.f 67) [(.t 14), (.c (.int .i64 0)), (.t 18)]) (.cons 14 (.v 2) (.cons 18 (.n (.bin .sub 2 (.t 17) (.c (.int .i64 1))) (.cons 17 (.n (.len 9 (.t 16)) (.cons 16 (.n (.load 9 (.t 15)) (.cons 15 (.n (.faddr 0 (.t 3) 1) (.cons 3 (.v 3) .nil)) .nil)) .nil)) .nil)) .nil))) .nil))])
   (.cond 7 (.seq (.run 0 [.asg 4 (.c (.imm .exact [])),
        .asg 5 (.c (.int .i64 270))])
     (.ret)) (.skip)))
  (.seq (.run 0 [.asg 4 (.n (.load 6 (.t 25)) (.cons 25 (.n (.iaddr 9 (.t 23) (.t 24)) (.cons 23 (.n (.call 0 (.f 68) [(.t 21), (.t 22)]) (.cons 21 (.n (.load 0 (.t 3)) (.cons 3 (.v 3) .nil)) (.cons 22 (.v 1) .nil))) (.cons 24 (.v 2) .nil))) .nil)),
     .asg 5 (.c (.int .i64 0))])
  (.ret))))
theorem c14 : TF E 14 n14 [(4, none), (5, none)] t14 27 := tf_of (F := f14) rfl (by kernel_rfl) (by decide)

def n15 : List Nat := [0, 1, 2, 3, 5, 7, 9, 11, 12, 14, 37, 38, 40, 41, 42, 43, 45, 53, 58, 59, 60, 61, 73, 76, 77, 78, 79, 81, 119, 121, 122, 123, 124, 126, 151, 153, 154, 155, 156, 158, 169]
def t15 : TC := .seq (.run 0 [.eff none (some 1) (.box 0 (.t 0)) (.cons 0 (.v 0) .nil) none,
     .asg 2 (.c (.int .i64 0))])
  (.seq (.seq (.run 0 [.asg 10 (.ite (.ite (.ite (.n (.bin .gtr 2 (.t 17) (.c (.int .i64 4096))) (.cons 17 (.n (.len 10 (.t 16)) (.cons 16 (.n (.load 10 (.t 15)) (.cons 15 (.n (.faddr 0 (.t 1) 0) (.cons 1 (.v 1) .nil)) .nil)) .nil)) .nil)) (.c (.bool true)) (.n (.un .not (.t 23)) (.cons 23 (.n (.call 0 (.f 67) [(.t 22), (.c (.int .i64 1)), (.c (.int .i64 32))]) (.cons 22 (.n (.len 9 (.t 21)) (.cons 21 (.n (.load 9 (.t 20)) (.cons 20 (.n (.faddr 0 (.t 1) 1) (.cons 1 (.v 1) .nil)) .nil)) .nil)) .nil)) .nil))) (.c (.bool true)) (.n (.bin .gtr 2 (.t 29) (.c (.int .i64 64))) (.cons 29 (.n (.len 14 (.t 28)) (.cons 28 (.n (.load 14 (.t 27)) (.cons 27 (.n (.faddr 0 (.t 1) 2) (.cons 1 (.v 1) .nil)) .nil)) .nil)) .nil))) (.c (.bool true)) (.n (.un .not (.t 35)) (.cons 35 (.n (.call 0 (.f 69) [(.t 34), (.f 70)]) (.cons 34 (.n (.load 10 (.t 33)) (.cons 33 (.n (.faddr 0 (.t 1) 0) (.cons 1 (.v 1) .nil)) .nil)) .nil)) .nil)))])
   (.cond 10 (.seq (.run 0 [.asg 2 (.c (.int .i64 270))])
     (.ret)) (.skip)))
  (.seq (.run 0 [.eff none (some 11) (.mkmap 21) .nil none,
     .asg 3 (.v 11)])
  (.seq (.seq (.run 0 [.asg 12 (.n (.load 10 (.t 39)) (.cons 39 (.n (.faddr 0 (.t 1) 0) (.cons 1 (.v 1) .nil)) .nil)),
      .asg 13 (.n (.len 10 (.t 40)) (.cons 40 (.v 12) .nil)),
      .asg 14 (.c (.int .i64 0))])
   (.block 0 (.loop (
       .seq (.run 0 [.asg 15 (.n (.bin .lss 2 (.t 42) (.t 41)) (.cons 42 (.v 14) (.cons 41 (.v 13) .nil)))])
       (.seq (.cond 15 (.skip) (.exit 0))
       (.seq (.block 1 (.seq (.run 0 [.asg 16 (.n (.load 20 (.t 44)) (.cons 44 (.n (.iaddr 10 (.t 40) (.t 42)) (.cons 40 (.v 12) (.cons 42 (.v 14) .nil))) .nil)),
             .eff none (some 4) (.alloc 20) .nil none,
             .eff none none (.store 20 (.t 5) (.t 45)) (.cons 5 (.v 4) (.cons 45 (.v 16) .nil)) none])
          (.seq (.seq (.run 0 [.asg 17 (.ite (.n (.bin .lss 2 (.t 47) (.c (.int .i64 0))) (.cons 47 (.n (.load 2 (.t 46)) (.cons 46 (.n (.faddr 20 (.t 5) 1) (.cons 5 (.v 4) .nil)) .nil)) .nil)) (.c (.bool true)) (.n (.bin .lss 2 (.t 51) (.c (.int .i64 0))) (.cons 51 (.n (.load 2 (.t 50)) (.cons 50 (.n (.faddr 20 (.t 5) 2) (.cons 5 (.v 4) .nil)) .nil)) .nil)))])
           (.cond 17 (.seq (.run 0 [.asg 2 (.c (.int .i64 270))])
             (.ret)) (.skip)))
          (.run 0 [.eff none none (.mapset 21 (.t 54) (.t 55) (.c (.bool true))) (.cons 54 (.v 3) (.cons 55 (.n (.load 20 (.t 5)) (.cons 5 (.v 4) .nil)) .nil)) none]))))
       (.run 0 [.asg 14 (.n (.bin .add 2 (.t 42) (.c (.int .i64 1))) (.cons 42 (.v 14) .nil))])))))))
  (.seq (.seq (.run 0 [.asg 18 (.n (.load 9 (.t 57)) (.cons 57 (.n (.faddr 0 (.t 1) 1) (.cons 1 (.v 1) .nil)) .nil)),
      .asg 19 (.n (.len 9 (.t 58)) (.cons 58 (.v 18) .nil)),
      .asg 20 (.c (.int .i64 0))])
   (.block 2 (.loop (
       .seq (.run 0 [.asg 21 (.n (.bin .lss 2 (.t 60) (.t 59)) (.cons 60 (.v 20) (.cons 59 (.v 19) .nil)))])
       (.seq (.cond 21 (.skip) (.exit 2))
       (.seq (.block 3 (.seq (.run 0 [.asg 5 (.n (.load 6 (.t 62)) (.cons 62 (.n (.iaddr 9 (.t 58) (.t 60)) (.cons 58 (.v 18) (.cons 60 (.v 20) .nil))) .nil))])
          (.seq (.run 0 [.asg 22 (.ite (.n (.bin .neq 2 (.t 65) (.t 68)) (.cons 65 (.n (.len 6 (.t 64)) (.cons 64 (.v 5) .nil)) (.cons 68 (.n (.len 10 (.t 67)) (.cons 67 (.n (.load 10 (.t 66)) (.cons 66 (.n (.faddr 0 (.t 1) 0) (.cons 1 (.v 1) .nil)) .nil)) .nil)) .nil))) (.c (.bool true)) (.n (.call 0 (.f 71) [(.t 71), (.f 72)]) (.cons 71 (.v 5) .nil)))])
          (.cond 22 (.seq (.run 0 [.asg 2 (.c (.int .i64 270))])
            (.ret)) (.skip)))))
       (.run 0 [.asg 20 (.n (.bin .add 2 (.t 60) (.c (.int .i64 1))) (.cons 60 (.v 20) .nil))])))))))
  (.seq (.seq (.run 0 [.asg 23 (.n (.load 14 (.t 75)) (.cons 75 (.n (.faddr 0 (.t 1) 2) (.cons 1 (.v 1) .nil)) .nil)),
      .asg 24 (.n (.len 14 (.t 76)) (.cons 76 (.v 23) .nil)),
      .asg 25 (.c (.int .i64 0))])
   (.block 4 (.loop (
       .seq (.run 0 [.asg 26 (.n (.bin .lss 2 (.t 78) (.t 77)) (.cons 78 (.v 25) (.cons 77 (.v 24) .nil)))])
       (.seq (.cond 26 (.skip) (.exit 4))
       (.seq (.block 5 (.seq (.run 0 [.asg 27 (.n (.load 15 (.t 80)) (.cons 80 (.n (.iaddr 14 (.t 76) (.t 78)) (.cons 76 (.v 23) (.cons 78 (.v 25) .nil))) .nil)),
             .eff none (some 6) (.alloc 15) .nil none,
             .eff none none (.store 15 (.t 9) (.t 81)) (.cons 9 (.v 6) (.cons 81 (.v 27) .nil)) none])
          (.seq (.seq (.run 38 [.asg 28 (.ite (.ite (.ite (.ite (.n (.bin .eql 2 (.t 84) (.c (.int .i64 0))) (.cons 84 (.n (.len 6 (.t 83)) (.cons 83 (.n (.load 6 (.t 82)) (.cons 82 (.n (.faddr 15 (.t 9) 2) (.cons 9 (.v 6) .nil)) .nil)) .nil)) .nil)) (.c (.bool true)) (.n (.un .not (.t 90)) (.cons 90 (.n (.call 0 (.f 67) [(.t 89), (.c (.int .i64 1)), (.c (.int .i64 96))]) (.cons 89 (.n (.len 16 (.t 88)) (.cons 88 (.n (.load 16 (.t 87)) (.cons 87 (.n (.faddr 15 (.t 9) 3) (.cons 9 (.v 6) .nil)) .nil)) .nil)) .nil)) .nil))) (.c (.bool true)) (.n (.un .not (.t 96)) (.cons 96 (.n (.call 0 (.f 73) [(.t 95), (.f 74)]) (.cons 95 (.n (.load 6 (.t 94)) (.cons 94 (.n (.faddr 15 (.t 9) 2) (.cons 9 (.v 6) .nil)) .nil)) .nil)) .nil))) (.c (.bool true)) (.n (.bin .lss 2 (.t 103) (.c (.int .i64 0))) (.cons 103 (.n (.load 2 (.t 102)) (.cons 102 (.n (.iaddr 6 (.t 101) (.c (.int .i64 0))) (.cons 101 (.n (.load 6 (.t 100)) (.cons 100 (.n (.faddr 15 (.t 9) 2) (.cons 9 (.v 6) .nil)) .nil)) .nil)) .nil)) .nil))) (.c (.bool true)) (.n (.bin .geq 2 (.t 114) (.t 117)) (.cons 114 (.n (.load 2 (.t 113)) (.cons 113 (.n (.iaddr 6 (.t 108) (.t 112)) (.cons 108 (.n (.load 6 (.t 107)) (.cons 107 (.n (.faddr 15 (.t 9) 2) (.cons 9 (.v 6) .nil)) .nil)) (.cons 112 (.n (.bin .sub 2 (.t 111) (.c (.int .i64 1))) (.cons 111 (.n (.len 6 (.t 110)) (.cons 110 (.n (.load 6 (.t 109)) (.cons 109 (.n (.faddr 15 (.t 9) 2) (.cons 9 (.v 6) .nil)) .nil)) .nil)) .nil)) .nil))) .nil)) (.cons 117 (.n (.len 9 (.t 116)) (.cons 116 (.n (.load 9 (.t 115)) (.cons 115 (.n (.faddr 0 (.t 1) 1) (.cons 1 (.v 1) .nil)) .nil)) .nil)) .nil))))])
           (.cond 28 (.seq (.run 0 [.asg 2 (.c (.int .i64 270))])
             (.ret)) (.skip)))
          (.seq (.run 0 [.asg 29 (.n (.load 16 (.t 120)) (.cons 120 (.n (.faddr 15 (.t 9) 3) (.cons 9 (.v 6) .nil)) .nil)),
             .asg 30 (.n (.len 16 (.t 121)) (.cons 121 (.v 29) .nil)),
             .asg 31 (.c (.int .i64 0))])
          (.block 6 (.loop (
              .seq (.run 0 [.asg 32 (.n (.bin .lss 2 (.t 123) (.t 122)) (.cons 123 (.v 31) (.cons 122 (.v 30) .nil)))])
              (.seq (.cond 32 (.skip) (.exit 6))
              (.seq (.block 7 (.seq (.run 0 [.asg 33 (.n (.load 17 (.t 125)) (.cons 125 (.n (.iaddr 16 (.t 121) (.t 123)) (.cons 121 (.v 29) (.cons 123 (.v 31) .nil))) .nil)),
                    .eff none (some 7) (.alloc 17) .nil none,
                    .eff none none (.store 17 (.t 11) (.t 126)) (.cons 11 (.v 7) (.cons 126 (.v 33) .nil)) none])
                 (.seq (.run 0 [.asg 8 (.c (.int .i64 1048576))])
                 (.seq (.seq (.run 0 [.asg 34 (.ite (.ite (.ite (.n (.un .not (.t 130)) (.cons 130 (.n (.call 0 (.f 67) [(.t 128), (.c (.int .i64 0)), (.t 129)]) (.cons 128 (.n (.load 2 (.t 127)) (.cons 127 (.n (.faddr 17 (.t 11) 0) (.cons 11 (.v 7) .nil)) .nil)) (.cons 129 (.v 8) .nil))) .nil)) (.c (.bool true)) (.n (.un .not (.t 136)) (.cons 136 (.n (.call 0 (.f 67) [(.t 134), (.c (.int .i64 0)), (.t 135)]) (.cons 134 (.n (.load 2 (.t 133)) (.cons 133 (.n (.faddr 17 (.t 11) 1) (.cons 11 (.v 7) .nil)) .nil)) (.cons 135 (.v 8) .nil))) .nil))) (.c (.bool true)) (.n (.un .not (.t 143)) (.cons 143 (.n (.call 0 (.f 67) [(.t 141), (.c (.int .i64 0)), (.t 142)]) (.cons 141 (.n (.load 2 (.t 140)) (.cons 140 (.n (.faddr 17 (.t 11) 2) (.cons 11 (.v 7) .nil)) .nil)) (.cons 142 (.v 8) .nil))) .nil))) (.c (.bool true)) (.n (.un .not (.t 149)) (.cons 149 (.n (.call 0 (.f 75) [(.t 148), (.f 76)]) (.cons 148 (.n (.load 18 (.t 147)) (.cons 147 (.n (.faddr 17 (.t 11) 3) (.cons 11 (.v 7) .nil)) .nil)) .nil)) .nil)))])
                  (.cond 34 (.seq (.run 0 [.asg 2 (.c (.int .i64 270))])
                    (.ret)) (.skip)))
                 (.seq (.run 0 [.asg 35 (.n (.load 18 (.t 152)) (.cons 152 (.n (.faddr 17 (.t 11) 3) (.cons 11 (.v 7) .nil)) .nil)),
                    .asg 36 (.n (.len 18 (.t 153)) (.cons 153 (.v 35) .nil)),
                    .asg 37 (.c (.int .i64 0))])
                 (.block 8 (.loop (
                     .seq (.run 0 [.asg 38 (.n (.bin .lss 2 (.t 155) (.t 154)) (.cons 155 (.v 37) (.cons 154 (.v 36) .nil)))])
                     (.seq (.cond 38 (.skip) (.exit 8))
                     (.seq (.block 9 (.seq (.run 0 [.asg 39 (.n (.load 19 (.t 157)) (.cons 157 (.n (.iaddr 18 (.t 153) (.t 155)) (.cons 153 (.v 35) (.cons 155 (.v 37) .nil))) .nil)),
                           .eff none (some 9) (.alloc 19) .nil none,
                           .eff none none (.store 19 (.t 14) (.t 158)) (.cons 14 (.v 9) (.cons 158 (.v 39) .nil)) none])
                        (.seq (.run 0 [.asg 40 (.ite (.n (.un .not (.t 162)) (.cons 162 (.n (.lookup 21 (.t 159) (.t 161) false) (.cons 159 (.v 3) (.cons 161 (.n (.load 20 (.t 160)) (.cons 160 (.n (.faddr 19 (.t 14) 0) (.cons 14 (.v 9) .nil)) .nil)) .nil))) .nil)) (.c (.bool true)) (.n (.un .not (.t 167)) (.cons 167 (.n (.call 0 (.f 67) [(.t 166), (.c (.int .i64 1)), (.c (.int .i64 8))]) (.cons 166 (.n (.load 2 (.t 165)) (.cons 165 (.n (.faddr 19 (.t 14) 1) (.cons 14 (.v 9) .nil)) .nil)) .nil)) .nil)))])
                        (.cond 40 (.seq (.run 0 [.asg 2 (.c (.int .i64 270))])
                          (.ret)) (.skip)))))
                     (.run 0 [.asg 37 (.n (.bin .add 2 (.t 155) (.c (.int .i64 1))) (.cons 155 (.v 37) .nil))])))))))))))
              (.run 0 [.asg 31 (.n (.bin .add 2 (.t 123) (.c (.int .i64 1))) (.cons 123 (.v 31) .nil))]))))))))))
       (.run 0 [.asg 25 (.n (.bin .add 2 (.t 78) (.c (.int .i64 1))) (.cons 78 (.v 25) .nil))])))))))
  (.seq (.run 0 [.asg 2 (.c (.int .i64 0))])
  (.ret)))))))
theorem c15 : TF E 15 n15 [(2, none)] t15 173 := tf_of (F := f15) rfl (by kernel_rfl) (by decide)

def n20 : List Nat := [0, 1, 4, 5, 10, 14, 25]
def t20 : TC := .seq (.run 0 [.asg 2 (.c (.bool false))])
  (.seq (.seq (.run 0 [.asg 4 (.n (.bin .neq 2 (.t 7) (.t 9)) (.cons 7 (.n (.len 6 (.t 6)) (.cons 6 (.v 0) .nil)) (.cons 9 (.n (.len 6 (.t 8)) (.cons 8 (.v 1) .nil)) .nil)))])
   (.cond 4 (.seq (.run 0 [.asg 2 (.c (.bool false))])
     (.ret)) (.skip)))
  (.seq (.seq (.run 0 [.asg 3 (.c (.int .i64 0))])
   (.block 0 (.loop (
       .seq (.seq (.run 0 [.asg 5 (.n (.bin .lss 2 (.t 11) (.t 13)) (.cons 11 (.v 3) (.cons 13 (.n (.len 6 (.t 12)) (.cons 12 (.v 0) .nil)) .nil)))])
        (.cond 5 (.skip) (.exit 0)))
       (.seq (.block 1 (.seq (.run 9 [.asg 6 (.n (.bin .neq 2 (.t 20) (.t 24)) (.cons 20 (.n (.load 2 (.t 19)) (.cons 19 (.n (.iaddr 6 (.t 17) (.t 18)) (.cons 17 (.v 0) (.cons 18 (.v 3) .nil))) .nil)) (.cons 24 (.n (.load 2 (.t 23)) (.cons 23 (.n (.iaddr 6 (.t 21) (.t 22)) (.cons 21 (.v 1) (.cons 22 (.v 3) .nil))) .nil)) .nil)))])
          (.cond 6 (.seq (.run 0 [.asg 2 (.c (.bool false))])
            (.ret)) (.skip))))
       (.run 0 [.asg 3 (.n (.bin .add 2 (.t 15) (.c (.int .i64 1))) (.cons 15 (.v 3) .nil))]))))))
  (.seq (.run 0 [.asg 2 (.c (.bool true))])
  (.ret))))
theorem c20 : TF E 20 n20 [(2, none)] t20 26 := tf_of (F := f20) rfl (by kernel_rfl) (by decide)

def n22 : List Nat := [0, 1, 2, 4, 5, 6, 8, 9, 10, 11, 12, 17, 21, 22, 23, 29, 30, 31, 32, 44, 45, 49, 50, 51]
def t22 : TC := .seq (.run 0 [.eff none (some 2) (.box 0 (.t 0)) (.cons 0 (.v 0) .nil) none,
     .asg 3 (.c (.imm .exact [])),
     .asg 4 (.c (.int .i64 0))])
  (.seq (.seq (.run 0 [.asg 4 (.n (.call 0 (.f 83) [(.t 13), (.t 14)]) (.cons 13 (.n (.load 0 (.t 2)) (.cons 2 (.v 2) .nil)) (.cons 14 (.v 1) .nil)))])
   (.seq (.run 0 [.asg 11 (.n (.bin .neq 3 (.t 16) (.c (.int .i64 0))) (.cons 16 (.v 4) .nil))])
   (.cond 11 (.seq (.run 0 [.asg 3 (.c (.imm .exact [])),
        .asg 4 (.v 4)])
     (.ret)) (.skip))))
  (.seq (.run 0 [.eff none (some 5) (.alloc 22) .nil none])
  (.seq (.seq (.run 0 [.asg 12 (.n (.call 0 (.f 84) [(.t 19), (.t 20)]) (.cons 19 (.n (.load 0 (.t 2)) (.cons 2 (.v 2) .nil)) (.cons 20 (.v 1) .nil)))])
   (.block 0 (.rfunc 12 [13, 14] (.run 0 [.asg 6 (.v 14)]) (
       .block 1 (.run 0 [.eff none none (.store 2 (.t 28) (.t 27)) (.cons 28 (.n (.iaddr 22 (.t 6) (.c (.int .i64 0))) (.cons 6 (.v 5) .nil)) (.cons 27 (.n (.bin .add 2 (.t 25) (.t 26)) (.cons 25 (.n (.load 2 (.t 24)) (.cons 24 (.n (.iaddr 22 (.t 6) (.c (.int .i64 0))) (.cons 6 (.v 5) .nil)) .nil)) (.cons 26 (.v 6) .nil))) .nil)) none])))))
  (.seq (.seq (.run 0 [.asg 15 (.v 1),
      .asg 16 (.n (.len 6 (.t 29)) (.cons 29 (.v 15) .nil)),
      .asg 17 (.c (.int .i64 0))])
   (.block 2 (.loop (
       .seq (.run 0 [.asg 18 (.n (.bin .lss 2 (.t 31) (.t 30)) (.cons 31 (.v 17) (.cons 30 (.v 16) .nil)))])
       (.seq (.cond 18 (.skip) (.exit 2))
       (.seq (.block 3 (.seq (.run 0 [.asg 7 (.v 17),
             .asg 8 (.n (.load 2 (.t 34)) (.cons 34 (.n (.iaddr 6 (.t 29) (.t 31)) (.cons 29 (.v 15) (.cons 31 (.v 17) .nil))) .nil))])
          (.seq (.seq (.run 19 [.asg 19 (.n (.load 17 (.t 43)) (.cons 43 (.n (.iaddr 16 (.t 41) (.t 42)) (.cons 41 (.n (.load 16 (.t 40)) (.cons 40 (.n (.faddr 15 (.t 39) 3) (.cons 39 (.n (.iaddr 14 (.t 37) (.t 38)) (.cons 37 (.n (.load 14 (.t 36)) (.cons 36 (.n (.faddr 0 (.t 2) 2) (.cons 2 (.v 2) .nil)) .nil)) (.cons 38 (.v 7) .nil))) .nil)) .nil)) (.cons 42 (.v 8) .nil))) .nil)),
              .asg 20 (.n (.faddr 0 (.t 2) 2) (.cons 2 (.v 2) .nil)),
              .asg 21 (.n (.faddr 15 (.t 48) 2) (.cons 48 (.n (.iaddr 14 (.t 46) (.t 47)) (.cons 46 (.n (.load 14 (.t 45)) (.cons 45 (.v 20) .nil)) (.cons 47 (.v 7) .nil))) .nil)),
              .asg 22 (.n (.load 6 (.t 49)) (.cons 49 (.v 21) .nil)),
              .asg 23 (.n (.len 6 (.t 50)) (.cons 50 (.v 22) .nil)),
              .eff none (some 9) (.alloc 17) .nil (some 16),
              .eff none none (.store 17 (.t 11) (.t 44)) (.cons 11 (.v 9) (.cons 44 (.v 19) .nil)) (some 17),
              .asg 10 (.v 23)])
           (.chk [(20, 9), (21, 9), (22, 9)]))
          (.seq (.run 0 [.eff none none (.store 2 (.t 57) (.t 56)) (.cons 57 (.n (.iaddr 22 (.t 6) (.c (.int .i64 1))) (.cons 6 (.v 5) .nil)) (.cons 56 (.n (.maxi [(.t 53), (.t 55)]) (.cons 53 (.n (.load 2 (.t 52)) (.cons 52 (.n (.iaddr 22 (.t 6) (.c (.int .i64 1))) (.cons 6 (.v 5) .nil)) .nil)) (.cons 55 (.n (.load 2 (.t 54)) (.cons 54 (.n (.faddr 17 (.t 11) 0) (.cons 11 (.v 9) .nil)) .nil)) .nil))) .nil)) none])
          (.seq (.run 0 [.eff none none (.store 2 (.t 65) (.t 64)) (.cons 65 (.n (.iaddr 22 (.t 6) (.c (.int .i64 2))) (.cons 6 (.v 5) .nil)) (.cons 64 (.n (.bin .add 2 (.t 59) (.t 63)) (.cons 59 (.n (.load 2 (.t 58)) (.cons 58 (.n (.iaddr 22 (.t 6) (.c (.int .i64 2))) (.cons 6 (.v 5) .nil)) .nil)) (.cons 63 (.n (.bin .mul 2 (.t 61) (.t 62)) (.cons 61 (.n (.load 2 (.t 60)) (.cons 60 (.n (.faddr 17 (.t 11) 1) (.cons 11 (.v 9) .nil)) .nil)) (.cons 62 (.v 10) .nil))) .nil))) .nil)) none])
          (.run 0 [.eff none none (.store 2 (.t 73) (.t 72)) (.cons 73 (.n (.iaddr 22 (.t 6) (.c (.int .i64 3))) (.cons 6 (.v 5) .nil)) (.cons 72 (.n (.bin .add 2 (.t 67) (.t 71)) (.cons 67 (.n (.load 2 (.t 66)) (.cons 66 (.n (.iaddr 22 (.t 6) (.c (.int .i64 3))) (.cons 6 (.v 5) .nil)) .nil)) (.cons 71 (.n (.bin .mul 2 (.t 69) (.t 70)) (.cons 69 (.n (.load 2 (.t 68)) (.cons 68 (.n (.faddr 17 (.t 11) 2) (.cons 11 (.v 9) .nil)) .nil)) (.cons 70 (.v 10) .nil))) .nil))) .nil)) none]))))))
       (.run 0 [.asg 17 (.n (.bin .add 2 (.t 31) (.c (.int .i64 1))) (.cons 31 (.v 17) .nil))])))))))
  (.seq (.run 0 [.asg 3 (.n (.slice 22 (.t 6) none none none) (.cons 6 (.v 5) .nil)),
     .asg 4 (.c (.int .i64 0))])
  (.ret))))))
theorem c22 : TF E 22 n22 [(3, none), (4, none)] t22 76 := tf_of (F := f22) rfl (by kernel_rfl) (by decide)

def n30 : List Nat := [0, 1, 4, 5, 10]
def t30 : TC := .seq (.run 0 [.asg 2 (.c (.int .i64 0)),
     .asg 3 (.c (.int .i64 0))])
  (.seq (.seq (.run 0 [.asg 4 (.n (.bin .neq 2 (.t 7) (.t 9)) (.cons 7 (.n (.len 6 (.t 6)) (.cons 6 (.v 0) .nil)) (.cons 9 (.n (.len 6 (.t 8)) (.cons 8 (.v 1) .nil)) .nil)))])
   (.cond 4 (.seq (.run 0 [.asg 2 (.c (.int .i64 0)),
        .asg 3 (.c (.int .i64 60))])
     (.ret)) (.skip)))
  (.seq (.run 0 [.asg 2 (.n (.call 0 (.f 87) [(.t 11), (.t 12)]) (.cons 11 (.v 0) (.cons 12 (.v 1) .nil))),
     .asg 3 (.c (.int .i64 0))])
  (.ret)))
theorem c30 : TF E 30 n30 [(2, none), (3, none)] t30 14 := tf_of (F := f30) rfl (by kernel_rfl) (by decide)

def n61 : List Nat := [0, 1, 2, 4, 5, 6, 16]
def t61 : TC := .seq (.run 0 [.eff none (some 2) (.box 0 (.t 0)) (.cons 0 (.v 0) .nil) none,
     .asg 3 (.c (.int .i64 0))])
  (.seq (.run 0 [.asg 4 (.c (.int .i64 1))])
  (.seq (.seq (.run 0 [.asg 5 (.c (.int .i64 0))])
   (.block 0 (.loop (
       .seq (.seq (.run 0 [.asg 6 (.ite (.n (.bin .lss 2 (.t 7) (.t 10)) (.cons 7 (.v 5) (.cons 10 (.n (.len 14 (.t 9)) (.cons 9 (.n (.load 14 (.t 8)) (.cons 8 (.n (.faddr 0 (.t 2) 2) (.cons 2 (.v 2) .nil)) .nil)) .nil)) .nil))) (.n (.bin .lss 2 (.t 13) (.t 14)) (.cons 13 (.v 4) (.cons 14 (.v 1) .nil))) (.c (.bool false)))])
        (.cond 6 (.skip) (.exit 0)))
       (.seq (.block 1 (.run 0 [.asg 4 (.n (.bin .mul 2 (.t 19) (.t 27)) (.cons 19 (.v 4) (.cons 27 (.n (.maxi [(.c (.int .i64 1)), (.t 26)]) (.cons 26 (.n (.len 16 (.t 25)) (.cons 25 (.n (.load 16 (.t 24)) (.cons 24 (.n (.faddr 15 (.t 23) 3) (.cons 23 (.n (.iaddr 14 (.t 21) (.t 22)) (.cons 21 (.n (.load 14 (.t 20)) (.cons 20 (.n (.faddr 0 (.t 2) 2) (.cons 2 (.v 2) .nil)) .nil)) (.cons 22 (.v 5) .nil))) .nil)) .nil)) .nil)) .nil)) .nil)))]))
       (.run 0 [.asg 5 (.n (.bin .add 2 (.t 17) (.c (.int .i64 1))) (.cons 17 (.v 5) .nil))]))))))
  (.seq (.run 0 [.asg 3 (.n (.mini [(.t 29), (.t 30)]) (.cons 29 (.v 4) (.cons 30 (.v 1) .nil)))])
  (.ret))))
theorem c61 : TF E 61 n61 [(3, none)] t61 32 := tf_of (F := f61) rfl (by kernel_rfl) (by decide)

def n62 : List Nat := [0, 1, 2, 4, 5, 6, 10, 17, 18, 19, 20, 21, 37]
def t62 : TC := .seq (.run 0 [.eff none (some 2) (.box 0 (.t 0)) (.cons 0 (.v 0) .nil) none,
     .asg 3 (.c (.int .i64 0))])
  (.seq (.seq (.run 0 [.asg 3 (.n (.call 0 (.f 15) [(.t 7)]) (.cons 7 (.n (.load 0 (.t 2)) (.cons 2 (.v 2) .nil)) .nil))])
   (.seq (.run 0 [.asg 6 (.n (.bin .neq 3 (.t 9) (.c (.int .i64 0))) (.cons 9 (.v 3) .nil))])
   (.cond 6 (.seq (.run 0 [.asg 3 (.v 3)])
     (.ret)) (.skip))))
  (.seq (.seq (.run 0 [.asg 7 (.n (.bin .gtr 2 (.t 13) (.t 16)) (.cons 13 (.n (.len 1 (.t 12)) (.cons 12 (.v 1) .nil)) (.cons 16 (.n (.len 14 (.t 15)) (.cons 15 (.n (.load 14 (.t 14)) (.cons 14 (.n (.faddr 0 (.t 2) 2) (.cons 2 (.v 2) .nil)) .nil)) .nil)) .nil)))])
   (.cond 7 (.seq (.run 0 [.asg 3 (.c (.int .i64 280))])
     (.ret)) (.skip)))
  (.seq (.seq (.run 0 [.asg 8 (.v 1),
      .asg 9 (.n (.len 1 (.t 18)) (.cons 18 (.v 8) .nil)),
      .asg 10 (.c (.int .i64 0))])
   (.block 0 (.loop (
       .seq (.run 0 [.asg 11 (.n (.bin .lss 2 (.t 20) (.t 19)) (.cons 20 (.v 10) (.cons 19 (.v 9) .nil)))])
       (.seq (.cond 11 (.skip) (.exit 0))
       (.seq (.block 1 (.seq (.run 0 [.asg 4 (.v 10),
             .asg 5 (.n (.load 2 (.t 23)) (.cons 23 (.n (.iaddr 1 (.t 18) (.t 20)) (.cons 18 (.v 8) (.cons 20 (.v 10) .nil))) .nil))])
          (.seq (.run 0 [.asg 12 (.ite (.n (.bin .lss 2 (.t 25) (.c (.int .i64 0))) (.cons 25 (.v 5) .nil)) (.c (.bool true)) (.n (.bin .geq 2 (.t 28) (.t 35)) (.cons 28 (.v 5) (.cons 35 (.n (.len 16 (.t 34)) (.cons 34 (.n (.load 16 (.t 33)) (.cons 33 (.n (.faddr 15 (.t 32) 3) (.cons 32 (.n (.iaddr 14 (.t 30) (.t 31)) (.cons 30 (.n (.load 14 (.t 29)) (.cons 29 (.n (.faddr 0 (.t 2) 2) (.cons 2 (.v 2) .nil)) .nil)) (.cons 31 (.v 4) .nil))) .nil)) .nil)) .nil)) .nil))))])
          (.cond 12 (.seq (.run 0 [.asg 3 (.c (.int .i64 280))])
            (.ret)) (.skip)))))
       (.run 0 [.asg 10 (.n (.bin .add 2 (.t 20) (.c (.int .i64 1))) (.cons 20 (.v 10) .nil))])))))))
  (.seq (.run 0 [.asg 3 (.c (.int .i64 0))])
  (.ret)))))
theorem c62 : TF E 62 n62 [(3, none)] t62 39 := tf_of (F := f62) rfl (by kernel_rfl) (by decide)

def n63 : List Nat := [0, 1, 2, 3, 4]
def t63 : TC := .seq (.run 0 [.eff none (some 2) (.box 0 (.t 0)) (.cons 0 (.v 0) .nil) none,
     .eff none (some 3) (.box 1 (.t 1)) (.cons 1 (.v 1) .nil) none,
     .asg 4 (.c .nilfn)])
  (.seq (.run 0 [.asg 4 (.n (.mkfn 102 [(.t 2), (.t 3)]) (.cons 2 (.v 2) (.cons 3 (.v 3) .nil)))])
  (.ret))
theorem c63 : TF E 63 n63 [(4, none)] t63 6 := tf_of (F := f63) rfl (by kernel_rfl) (by decide)

def n66 : List Nat := [0, 1, 2, 4, 5, 6, 7, 11, 18, 19, 20, 21, 22, 36]
def t66 : TC := .seq (.run 0 [.eff none (some 2) (.box 0 (.t 0)) (.cons 0 (.v 0) .nil) none,
     .asg 3 (.c (.int .i64 0))])
  (.seq (.seq (.run 0 [.asg 4 (.n (.call 0 (.f 15) [(.t 8)]) (.cons 8 (.n (.load 0 (.t 2)) (.cons 2 (.v 2) .nil)) .nil))])
   (.seq (.run 0 [.asg 7 (.n (.bin .neq 3 (.t 10) (.c (.int .i64 0))) (.cons 10 (.v 4) .nil))])
   (.cond 7 (.seq (.run 0 [.asg 3 (.v 4)])
     (.ret)) (.skip))))
  (.seq (.seq (.run 0 [.asg 8 (.n (.bin .gtr 2 (.t 14) (.t 17)) (.cons 14 (.n (.len 6 (.t 13)) (.cons 13 (.v 1) .nil)) (.cons 17 (.n (.len 14 (.t 16)) (.cons 16 (.n (.load 14 (.t 15)) (.cons 15 (.n (.faddr 0 (.t 2) 2) (.cons 2 (.v 2) .nil)) .nil)) .nil)) .nil)))])
   (.cond 8 (.seq (.run 0 [.asg 3 (.c (.int .i64 270))])
     (.ret)) (.skip)))
  (.seq (.seq (.run 0 [.asg 9 (.v 1),
      .asg 10 (.n (.len 6 (.t 19)) (.cons 19 (.v 9) .nil)),
      .asg 11 (.c (.int .i64 0))])
   (.block 0 (.loop (
       .seq (.run 0 [.asg 12 (.n (.bin .lss 2 (.t 21) (.t 20)) (.cons 21 (.v 11) (.cons 20 (.v 10) .nil)))])
       (.seq (.cond 12 (.skip) (.exit 0))
       (.seq (.block 1 (.seq (.run 0 [.asg 5 (.v 11),
             .asg 6 (.n (.load 2 (.t 24)) (.cons 24 (.n (.iaddr 6 (.t 19) (.t 21)) (.cons 19 (.v 9) (.cons 21 (.v 11) .nil))) .nil))])
          (.seq (.run 0 [.asg 13 (.n (.un .not (.t 35)) (.cons 35 (.n (.call 0 (.f 67) [(.t 26), (.c (.int .i64 0)), (.t 34)]) (.cons 26 (.v 6) (.cons 34 (.n (.bin .sub 2 (.t 33) (.c (.int .i64 1))) (.cons 33 (.n (.len 16 (.t 32)) (.cons 32 (.n (.load 16 (.t 31)) (.cons 31 (.n (.faddr 15 (.t 30) 3) (.cons 30 (.n (.iaddr 14 (.t 28) (.t 29)) (.cons 28 (.n (.load 14 (.t 27)) (.cons 27 (.n (.faddr 0 (.t 2) 2) (.cons 2 (.v 2) .nil)) .nil)) (.cons 29 (.v 5) .nil))) .nil)) .nil)) .nil)) .nil)) .nil))) .nil))])
          (.cond 13 (.seq (.run 0 [.asg 3 (.c (.int .i64 270))])
            (.ret)) (.skip)))))
       (.run 0 [.asg 11 (.n (.bin .add 2 (.t 21) (.c (.int .i64 1))) (.cons 21 (.v 11) .nil))])))))))
  (.seq (.run 0 [.asg 3 (.c (.int .i64 0))])
  (.ret)))))
theorem c66 : TF E 66 n66 [(3, none)] t66 38 := tf_of (F := f66) rfl (by kernel_rfl) (by decide)

def n67 : List Nat := [0, 1, 2, 6]
def t67 : TC := .seq (.run 0 [.asg 3 (.c (.bool false))])
  (.seq (.run 0 [.asg 3 (.ite (.n (.bin .leq 2 (.t 7) (.t 8)) (.cons 7 (.v 1) (.cons 8 (.v 0) .nil))) (.n (.bin .leq 2 (.t 11) (.t 12)) (.cons 11 (.v 0) (.cons 12 (.v 2) .nil))) (.c (.bool false)))])
  (.ret))
theorem c67 : TF E 67 n67 [(3, none)] t67 15 := tf_of (F := f67) rfl (by kernel_rfl) (by decide)

def n68 : List Nat := [0, 1, 2, 4, 5, 6, 7, 8, 9, 10, 11, 12, 14, 15, 16, 17, 20, 27, 28, 30, 31, 32, 34, 38, 39, 44, 45, 46, 50, 54]
def t68 : TC := .seq (.run 0 [.eff none (some 2) (.box 0 (.t 0)) (.cons 0 (.v 0) .nil) none,
     .asg 3 (.c (.imm .exact []))])
  (.seq (.run 0 [.eff none (some 11) (.mkmap 26) .nil none,
     .eff none (some 4) (.alloc 26) .nil none,
     .eff none none (.store 26 (.t 5) (.t 12)) (.cons 5 (.v 4) (.cons 12 (.v 11) .nil)) none])
  (.seq (.seq (.run 0 [.asg 12 (.n (.load 10 (.t 13)) (.cons 13 (.n (.faddr 0 (.t 2) 0) (.cons 2 (.v 2) .nil)) .nil)),
      .asg 13 (.n (.len 10 (.t 14)) (.cons 14 (.v 12) .nil)),
      .asg 14 (.c (.int .i64 0))])
   (.block 0 (.loop (
       .seq (.run 0 [.asg 15 (.n (.bin .lss 2 (.t 16) (.t 15)) (.cons 16 (.v 14) (.cons 15 (.v 13) .nil)))])
       (.seq (.cond 15 (.skip) (.exit 0))
       (.seq (.block 1 (.seq (.run 0 [.asg 16 (.n (.load 20 (.t 19)) (.cons 19 (.n (.iaddr 10 (.t 14) (.t 16)) (.cons 14 (.v 12) (.cons 16 (.v 14) .nil))) .nil)),
             .eff none (some 6) (.alloc 20) .nil none,
             .asg 5 (.v 14),
             .eff none none (.store 20 (.t 7) (.t 20)) (.cons 7 (.v 6) (.cons 20 (.v 16) .nil)) none])
          (.run 0 [.eff none none (.mapset 26 (.t 21) (.t 22) (.t 23)) (.cons 21 (.n (.load 26 (.t 5)) (.cons 5 (.v 4) .nil)) (.cons 22 (.n (.load 20 (.t 7)) (.cons 7 (.v 6) .nil)) (.cons 23 (.v 5) .nil))) none])))
       (.run 0 [.asg 14 (.n (.bin .add 2 (.t 16) (.c (.int .i64 1))) (.cons 16 (.v 14) .nil))])))))))
  (.seq (.run 0 [.asg 17 (.n (.len 9 (.t 26)) (.cons 26 (.n (.load 9 (.t 25)) (.cons 25 (.n (.faddr 0 (.t 2) 1) (.cons 2 (.v 2) .nil)) .nil)) .nil)),
     .eff none (some 18) (.mkslice true 9 (.t 27) (.t 27)) (.cons 27 (.v 17) (.cons 27 (.v 17) .nil)) none,
     .eff none (some 7) (.alloc 9) .nil none,
     .eff none none (.store 9 (.t 8) (.t 28)) (.cons 8 (.v 7) (.cons 28 (.v 18) .nil)) none])
  (.seq (.seq (.run 0 [.asg 19 (.n (.len 9 (.t 29)) (.cons 29 (.n (.load 9 (.t 8)) (.cons 8 (.v 7) .nil)) .nil)),
      .asg 20 (.c (.int .i64 0))])
   (.block 2 (.loop (
       .seq (.run 0 [.asg 21 (.n (.bin .lss 2 (.t 31) (.t 30)) (.cons 31 (.v 20) (.cons 30 (.v 19) .nil)))])
       (.seq (.cond 21 (.skip) (.exit 2))
       (.seq (.block 3 (.seq (.run 0 [.asg 8 (.v 20)])
          (.run 8 [.asg 22 (.n (.load 9 (.t 8)) (.cons 8 (.v 7) .nil)),
            .asg 23 (.n (.len 10 (.t 37)) (.cons 37 (.n (.load 10 (.t 36)) (.cons 36 (.n (.faddr 0 (.t 2) 0) (.cons 2 (.v 2) .nil)) .nil)) .nil)),
            .eff none (some 24) (.mkslice true 6 (.t 38) (.t 38)) (.cons 38 (.v 23) (.cons 38 (.v 23) .nil)) (some 5),
            .eff none none (.store 6 (.t 40) (.t 39)) (.cons 40 (.n (.iaddr 9 (.t 34) (.t 35)) (.cons 34 (.v 22) (.cons 35 (.v 8) .nil))) (.cons 39 (.v 24) .nil)) (some 7)])))
       (.run 0 [.asg 20 (.n (.bin .add 2 (.t 31) (.c (.int .i64 1))) (.cons 31 (.v 20) .nil))])))))))
  (.seq (.seq (.run 0 [.asg 25 (.n (.call 0 (.f 104) [(.t 42), (.t 43)]) (.cons 42 (.n (.load 0 (.t 2)) (.cons 2 (.v 2) .nil)) (.cons 43 (.v 1) .nil)))])
   (.block 4 (.rfunc 25 [26, 27] (.seq (.run 0 [.asg 9 (.v 26)])
       (.run 0 [.eff none (some 10) (.alloc 19) .nil none,
         .eff none none (.store 19 (.t 11) (.t 46)) (.cons 11 (.v 10) (.cons 46 (.v 27) .nil)) none])) (
       .block 5 (.run 15 [.asg 28 (.n (.load 6 (.t 49)) (.cons 49 (.n (.iaddr 9 (.t 47) (.t 48)) (.cons 47 (.n (.load 9 (.t 8)) (.cons 8 (.v 7) .nil)) (.cons 48 (.v 9) .nil))) .nil)),
           .asg 29 (.n (.lookup 26 (.t 51) (.t 53) false) (.cons 51 (.n (.load 26 (.t 5)) (.cons 5 (.v 4) .nil)) (.cons 53 (.n (.load 20 (.t 52)) (.cons 52 (.n (.faddr 19 (.t 11) 0) (.cons 11 (.v 10) .nil)) .nil)) .nil))),
           .eff none none (.store 2 (.t 60) (.t 59)) (.cons 60 (.n (.iaddr 6 (.t 50) (.t 54)) (.cons 50 (.v 28) (.cons 54 (.v 29) .nil))) (.cons 59 (.n (.bin .add 2 (.t 56) (.t 58)) (.cons 56 (.n (.load 2 (.t 55)) (.cons 55 (.n (.iaddr 6 (.t 50) (.t 54)) (.cons 50 (.v 28) (.cons 54 (.v 29) .nil))) .nil)) (.cons 58 (.n (.load 2 (.t 57)) (.cons 57 (.n (.faddr 19 (.t 11) 1) (.cons 11 (.v 10) .nil)) .nil)) .nil))) .nil)) (some 14)])))))
  (.seq (.run 0 [.asg 3 (.n (.load 9 (.t 8)) (.cons 8 (.v 7) .nil))])
  (.ret)))))))
theorem c68 : TF E 68 n68 [(3, none)] t68 62 := tf_of (F := f68) rfl (by kernel_rfl) (by decide)

def n69 : List Nat := [0, 1, 4, 5, 9, 23]
def t69 : TC := .seq (.run 0 [.asg 2 (.c (.bool false))])
  (.seq (.seq (.run 0 [.asg 3 (.c (.int .i64 1))])
   (.block 0 (.loop (
       .seq (.seq (.run 0 [.asg 4 (.n (.bin .lss 2 (.t 6) (.t 8)) (.cons 6 (.v 3) (.cons 8 (.n (.len 10 (.t 7)) (.cons 7 (.v 0) .nil)) .nil)))])
        (.cond 4 (.skip) (.exit 0)))
       (.seq (.block 1 (.seq (.run 12 [.asg 5 (.n (.bin .geq 2 (.t 22) (.c (.int .i64 0))) (.cons 22 (.n (.call 0 (.t 12) [(.t 17), (.t 21)]) (.cons 12 (.v 1) (.cons 17 (.n (.load 20 (.t 16)) (.cons 16 (.n (.iaddr 10 (.t 13) (.t 15)) (.cons 13 (.v 0) (.cons 15 (.n (.bin .sub 2 (.t 14) (.c (.int .i64 1))) (.cons 14 (.v 3) .nil)) .nil))) .nil)) (.cons 21 (.n (.load 20 (.t 20)) (.cons 20 (.n (.iaddr 10 (.t 18) (.t 19)) (.cons 18 (.v 0) (.cons 19 (.v 3) .nil))) .nil)) .nil)))) .nil))])
          (.cond 5 (.seq (.run 0 [.asg 2 (.c (.bool false))])
            (.ret)) (.skip))))
       (.run 0 [.asg 3 (.n (.bin .add 2 (.t 10) (.c (.int .i64 1))) (.cons 10 (.v 3) .nil))]))))))
  (.seq (.run 0 [.asg 2 (.c (.bool true))])
  (.ret)))
theorem c69 : TF E 69 n69 [(2, none)] t69 24 := tf_of (F := f69) rfl (by kernel_rfl) (by decide)

def n70 : List Nat := [0, 1, 2, 3, 4, 9, 11]
def t70 : TC := .seq (.run 0 [.eff none (some 2) (.box 20 (.t 0)) (.cons 0 (.v 0) .nil) none,
     .eff none (some 3) (.box 20 (.t 1)) (.cons 1 (.v 1) .nil) none,
     .asg 4 (.c (.int .i64 0))])
  (.seq (.seq (.run 0 [.asg 5 (.n (.bin .neq 7 (.t 6) (.t 8)) (.cons 6 (.n (.load 7 (.t 5)) (.cons 5 (.n (.faddr 20 (.t 2) 0) (.cons 2 (.v 2) .nil)) .nil)) (.cons 8 (.n (.load 7 (.t 7)) (.cons 7 (.n (.faddr 20 (.t 3) 0) (.cons 3 (.v 3) .nil)) .nil)) .nil)))])
   (.cond 5 (.seq (.seq (.run 0 [.asg 6 (.n (.load 7 (.t 10)) (.cons 10 (.n (.faddr 20 (.t 3) 0) (.cons 3 (.v 3) .nil)) .nil))])
      (.cond 6 (.seq (.run 0 [.asg 4 (.c (.int .i64 (-1)))])
        (.ret)) (.skip)))
     (.seq (.run 0 [.asg 4 (.c (.int .i64 1))])
     (.ret))) (.skip)))
  (.seq (.run 13 [.asg 4 (.n (.call 0 (.f 105) [(.t 22)]) (.cons 22 (.n (.bslice false 6 2 [(0, (.t 16)), (1, (.t 21))]) (.cons 16 (.n (.call 0 (.f 74) [(.t 13), (.t 15)]) (.cons 13 (.n (.load 2 (.t 12)) (.cons 12 (.n (.faddr 20 (.t 2) 1) (.cons 2 (.v 2) .nil)) .nil)) (.cons 15 (.n (.load 2 (.t 14)) (.cons 14 (.n (.faddr 20 (.t 3) 1) (.cons 3 (.v 3) .nil)) .nil)) .nil))) (.cons 21 (.n (.call 0 (.f 74) [(.t 18), (.t 20)]) (.cons 18 (.n (.load 2 (.t 17)) (.cons 17 (.n (.faddr 20 (.t 2) 2) (.cons 2 (.v 2) .nil)) .nil)) (.cons 20 (.n (.load 2 (.t 19)) (.cons 19 (.n (.faddr 20 (.t 3) 2) (.cons 3 (.v 3) .nil)) .nil)) .nil))) .nil))) .nil))])
  (.ret)))
theorem c70 : TF E 70 n70 [(4, none)] t70 24 := tf_of (F := f70) rfl (by kernel_rfl) (by decide)

def n71 : List Nat := [0, 1, 4]
def t71 : TC := .seq (.run 0 [.asg 2 (.c (.bool false))])
  (.seq (.run 0 [.asg 2 (.n (.bin .geq 2 (.t 7) (.c (.int .i64 0))) (.cons 7 (.n (.call 0 (.f 106) [(.t 5), (.t 6)]) (.cons 5 (.v 0) (.cons 6 (.v 1) .nil))) .nil))])
  (.ret))
theorem c71 : TF E 71 n71 [(2, none)] t71 9 := tf_of (F := f71) rfl (by kernel_rfl) (by decide)

def n72 : List Nat := [0, 2]
def t72 : TC := .seq (.run 0 [.asg 1 (.c (.bool false))])
  (.seq (.run 0 [.asg 1 (.n (.un .not (.t 4)) (.cons 4 (.n (.call 0 (.f 67) [(.t 3), (.c (.int .i64 0)), (.c (.int .i64 4096))]) (.cons 3 (.v 0) .nil)) .nil))])
  (.ret))
theorem c72 : TF E 72 n72 [(1, none)] t72 6 := tf_of (F := f72) rfl (by kernel_rfl) (by decide)

def n73 : List Nat := [0, 1, 4, 5, 9, 23]
def t73 : TC := .seq (.run 0 [.asg 2 (.c (.bool false))])
  (.seq (.seq (.run 0 [.asg 3 (.c (.int .i64 1))])
   (.block 0 (.loop (
       .seq (.seq (.run 0 [.asg 4 (.n (.bin .lss 2 (.t 6) (.t 8)) (.cons 6 (.v 3) (.cons 8 (.n (.len 6 (.t 7)) (.cons 7 (.v 0) .nil)) .nil)))])
        (.cond 4 (.skip) (.exit 0)))
       (.seq (.block 1 (.seq (.run 12 [.asg 5 (.n (.bin .geq 2 (.t 22) (.c (.int .i64 0))) (.cons 22 (.n (.call 0 (.t 12) [(.t 17), (.t 21)]) (.cons 12 (.v 1) (.cons 17 (.n (.load 2 (.t 16)) (.cons 16 (.n (.iaddr 6 (.t 13) (.t 15)) (.cons 13 (.v 0) (.cons 15 (.n (.bin .sub 2 (.t 14) (.c (.int .i64 1))) (.cons 14 (.v 3) .nil)) .nil))) .nil)) (.cons 21 (.n (.load 2 (.t 20)) (.cons 20 (.n (.iaddr 6 (.t 18) (.t 19)) (.cons 18 (.v 0) (.cons 19 (.v 3) .nil))) .nil)) .nil)))) .nil))])
          (.cond 5 (.seq (.run 0 [.asg 2 (.c (.bool false))])
            (.ret)) (.skip))))
       (.run 0 [.asg 3 (.n (.bin .add 2 (.t 10) (.c (.int .i64 1))) (.cons 10 (.v 3) .nil))]))))))
  (.seq (.run 0 [.asg 2 (.c (.bool true))])
  (.ret)))
theorem c73 : TF E 73 n73 [(2, none)] t73 24 := tf_of (F := f73) rfl (by kernel_rfl) (by decide)

def n74 : List Nat := [0, 1, 4, 5, 6, 11, 12, 13, 16, 19]
def t74 : TC := .seq (.run 0 [.asg 2 (.c (.int .i64 0))])
  (.seq (.run 0 [.asg 3 (.n (.call 0 (.f 107) [(.t 7)]) (.cons 7 (.v 0) .nil))])
  (.seq (.run 0 [.asg 4 (.n (.call 0 (.f 107) [(.t 9)]) (.cons 9 (.v 1) .nil))])
  (.seq (.seq (.run 0 [.asg 5 (.v 3)])
   (.cond 5 (.seq (.seq (.run 0 [.asg 6 (.v 4)])
      (.cond 6 (.seq (.run 0 [.asg 2 (.c (.int .i64 0))])
        (.ret)) (.skip)))
     (.seq (.run 0 [.asg 2 (.c (.int .i64 (-1)))])
     (.ret))) (.skip)))
  (.seq (.seq (.run 0 [.asg 7 (.v 4)])
   (.cond 7 (.seq (.run 0 [.asg 2 (.c (.int .i64 1))])
     (.ret)) (.skip)))
  (.seq (.seq (.run 0 [.asg 8 (.n (.bin .lss 2 (.t 14) (.t 15)) (.cons 14 (.v 0) (.cons 15 (.v 1) .nil)))])
   (.cond 8 (.seq (.run 0 [.asg 2 (.c (.int .i64 (-1)))])
     (.ret)) (.skip)))
  (.seq (.seq (.run 0 [.asg 9 (.n (.bin .gtr 2 (.t 17) (.t 18)) (.cons 17 (.v 0) (.cons 18 (.v 1) .nil)))])
   (.cond 9 (.seq (.run 0 [.asg 2 (.c (.int .i64 1))])
     (.ret)) (.skip)))
  (.seq (.run 0 [.asg 2 (.c (.int .i64 0))])
  (.ret))))))))
theorem c74 : TF E 74 n74 [(2, none)] t74 20 := tf_of (F := f74) rfl (by kernel_rfl) (by decide)

def n75 : List Nat := [0, 1, 4, 5, 9, 23]
def t75 : TC := .seq (.run 0 [.asg 2 (.c (.bool false))])
  (.seq (.seq (.run 0 [.asg 3 (.c (.int .i64 1))])
   (.block 0 (.loop (
       .seq (.seq (.run 0 [.asg 4 (.n (.bin .lss 2 (.t 6) (.t 8)) (.cons 6 (.v 3) (.cons 8 (.n (.len 18 (.t 7)) (.cons 7 (.v 0) .nil)) .nil)))])
        (.cond 4 (.skip) (.exit 0)))
       (.seq (.block 1 (.seq (.run 12 [.asg 5 (.n (.bin .geq 2 (.t 22) (.c (.int .i64 0))) (.cons 22 (.n (.call 0 (.t 12) [(.t 17), (.t 21)]) (.cons 12 (.v 1) (.cons 17 (.n (.load 19 (.t 16)) (.cons 16 (.n (.iaddr 18 (.t 13) (.t 15)) (.cons 13 (.v 0) (.cons 15 (.n (.bin .sub 2 (.t 14) (.c (.int .i64 1))) (.cons 14 (.v 3) .nil)) .nil))) .nil)) (.cons 21 (.n (.load 19 (.t 20)) (.cons 20 (.n (.iaddr 18 (.t 18) (.t 19)) (.cons 18 (.v 0) (.cons 19 (.v 3) .nil))) .nil)) .nil)))) .nil))])
          (.cond 5 (.seq (.run 0 [.asg 2 (.c (.bool false))])
            (.ret)) (.skip))))
       (.run 0 [.asg 3 (.n (.bin .add 2 (.t 10) (.c (.int .i64 1))) (.cons 10 (.v 3) .nil))]))))))
  (.seq (.run 0 [.asg 2 (.c (.bool true))])
  (.ret)))
theorem c75 : TF E 75 n75 [(2, none)] t75 24 := tf_of (F := f75) rfl (by kernel_rfl) (by decide)

def n76 : List Nat := [0, 1, 2, 3, 4]
def t76 : TC := .seq (.run 0 [.eff none (some 2) (.box 19 (.t 0)) (.cons 0 (.v 0) .nil) none,
     .eff none (some 3) (.box 19 (.t 1)) (.cons 1 (.v 1) .nil) none,
     .asg 4 (.c (.int .i64 0))])
  (.seq (.run 0 [.asg 4 (.n (.call 0 (.f 70) [(.t 6), (.t 8)]) (.cons 6 (.n (.load 20 (.t 5)) (.cons 5 (.n (.faddr 19 (.t 2) 0) (.cons 2 (.v 2) .nil)) .nil)) (.cons 8 (.n (.load 20 (.t 7)) (.cons 7 (.n (.faddr 19 (.t 3) 0) (.cons 3 (.v 3) .nil)) .nil)) .nil)))])
  (.ret))
theorem c76 : TF E 76 n76 [(4, none)] t76 10 := tf_of (F := f76) rfl (by kernel_rfl) (by decide)

def n83 : List Nat := [0, 1, 2, 4, 5, 10, 17]
def t83 : TC := .seq (.run 0 [.eff none (some 2) (.box 0 (.t 0)) (.cons 0 (.v 0) .nil) none,
     .asg 3 (.c (.int .i64 0))])
  (.seq (.seq (.run 0 [.asg 4 (.n (.call 0 (.f 66) [(.t 6), (.t 7)]) (.cons 6 (.n (.load 0 (.t 2)) (.cons 2 (.v 2) .nil)) (.cons 7 (.v 1) .nil)))])
   (.seq (.run 0 [.asg 5 (.n (.bin .neq 3 (.t 9) (.c (.int .i64 0))) (.cons 9 (.v 4) .nil))])
   (.cond 5 (.seq (.run 0 [.asg 3 (.v 4)])
     (.ret)) (.skip))))
  (.seq (.seq (.run 0 [.asg 6 (.n (.bin .neq 2 (.t 13) (.t 16)) (.cons 13 (.n (.len 6 (.t 12)) (.cons 12 (.v 1) .nil)) (.cons 16 (.n (.len 14 (.t 15)) (.cons 15 (.n (.load 14 (.t 14)) (.cons 14 (.n (.faddr 0 (.t 2) 2) (.cons 2 (.v 2) .nil)) .nil)) .nil)) .nil)))])
   (.cond 6 (.seq (.run 0 [.asg 3 (.c (.int .i64 270))])
     (.ret)) (.skip)))
  (.seq (.run 0 [.asg 3 (.c (.int .i64 0))])
  (.ret))))
theorem c83 : TF E 83 n83 [(3, none)] t83 18 := tf_of (F := f83) rfl (by kernel_rfl) (by decide)

def n84 : List Nat := [0, 1, 2, 3, 4]
def t84 : TC := .seq (.run 0 [.eff none (some 2) (.box 0 (.t 0)) (.cons 0 (.v 0) .nil) none,
     .eff none (some 3) (.box 6 (.t 1)) (.cons 1 (.v 1) .nil) none,
     .asg 4 (.c .nilfn)])
  (.seq (.run 0 [.asg 4 (.n (.mkfn 110 [(.t 2), (.t 3)]) (.cons 2 (.v 2) (.cons 3 (.v 3) .nil)))])
  (.ret))
theorem c84 : TF E 84 n84 [(4, none)] t84 6 := tf_of (F := f84) rfl (by kernel_rfl) (by decide)

def n87 : List Nat := [0, 1, 4, 5, 6, 7, 8, 9, 10, 11, 12, 19, 28, 35]
def t87 : TC := .seq (.run 0 [.asg 2 (.c (.int .i64 0))])
  (.seq (.seq (.run 0 [.asg 7 (.v 0),
      .asg 8 (.n (.len 6 (.t 9)) (.cons 9 (.v 7) .nil)),
      .asg 9 (.c (.int .i64 0))])
   (.block 0 (.loop (
       .seq (.run 0 [.asg 10 (.n (.bin .lss 2 (.t 11) (.t 10)) (.cons 11 (.v 9) (.cons 10 (.v 8) .nil)))])
       (.seq (.cond 10 (.skip) (.exit 0))
       (.seq (.block 1 (.seq (.run 0 [.asg 3 (.v 9),
             .asg 4 (.n (.load 2 (.t 14)) (.cons 14 (.n (.iaddr 6 (.t 9) (.t 11)) (.cons 9 (.v 7) (.cons 11 (.v 9) .nil))) .nil))])
          (.seq (.seq (.run 0 [.asg 11 (.n (.bin .geq 2 (.t 16) (.t 18)) (.cons 16 (.v 3) (.cons 18 (.n (.len 6 (.t 17)) (.cons 17 (.v 1) .nil)) .nil)))])
           (.cond 11 (.seq (.run 0 [.asg 2 (.c (.int .i64 1))])
             (.ret)) (.skip)))
          (.seq (.run 0 [.asg 5 (.n (.load 2 (.t 22)) (.cons 22 (.n (.iaddr 6 (.t 20) (.t 21)) (.cons 20 (.v 1) (.cons 21 (.v 3) .nil))) .nil))])
          (.seq (.run 0 [.asg 6 (.n (.call 0 (.f 74) [(.t 24), (.t 25)]) (.cons 24 (.v 4) (.cons 25 (.v 5) .nil)))])
          (.seq (.run 0 [.asg 12 (.n (.bin .neq 2 (.t 27) (.c (.int .i64 0))) (.cons 27 (.v 6) .nil))])
          (.cond 12 (.seq (.run 0 [.asg 2 (.v 6)])
            (.ret)) (.skip))))))))
       (.run 0 [.asg 9 (.n (.bin .add 2 (.t 11) (.c (.int .i64 1))) (.cons 11 (.v 9) .nil))])))))))
  (.seq (.seq (.run 0 [.asg 13 (.n (.bin .lss 2 (.t 32) (.t 34)) (.cons 32 (.n (.len 6 (.t 31)) (.cons 31 (.v 0) .nil)) (.cons 34 (.n (.len 6 (.t 33)) (.cons 33 (.v 1) .nil)) .nil)))])
   (.cond 13 (.seq (.run 0 [.asg 2 (.c (.int .i64 (-1)))])
     (.ret)) (.skip)))
  (.seq (.run 0 [.asg 2 (.c (.int .i64 0))])
  (.ret))))
theorem c87 : TF E 87 n87 [(2, none)] t87 36 := tf_of (F := f87) rfl (by kernel_rfl) (by decide)

def n94 : List Nat := [0, 1, 4]
def t94 : TC := .seq (.run 0 [.asg 2 (.c (.bool false))])
  (.seq (.run 0 [.asg 2 (.n (.bin .geq 2 (.t 7) (.c (.int .i64 0))) (.cons 7 (.n (.call 0 (.f 113) [(.t 5), (.t 6)]) (.cons 5 (.v 0) (.cons 6 (.v 1) .nil))) .nil))])
  (.ret))
theorem c94 : TF E 94 n94 [(2, none)] t94 9 := tf_of (F := f94) rfl (by kernel_rfl) (by decide)

def n96 : List Nat := [0, 2, 7]
def t96 : TC := .seq (.run 0 [.asg 1 (.c (.imm .exact []))])
  (.seq (.run 0 [.eff none (some 2) (.append 1 6 6 (.t 5) (.t 6)) (.cons 5 (.n (.bslice false 6 0 []) .nil) (.cons 6 (.v 0) .nil)) none,
     .asg 1 (.v 2)])
  (.ret))
theorem c96 : TF E 96 n96 [(1, none)] t96 8 := tf_of (F := f96) rfl (by kernel_rfl) (by decide)

def n102 : List Nat := [0, 1, 2, 4, 5, 6, 8, 9, 10, 11, 14, 22, 26, 40, 41]
def t102 : TC := .seq (.run 0 [.asg 6 (.n (.load 14 (.t 7)) (.cons 7 (.n (.faddr 0 (.t 1) 2) (.cons 1 (.v 1) .nil)) .nil)),
     .asg 7 (.n (.len 14 (.t 8)) (.cons 8 (.v 6) .nil)),
     .asg 8 (.c (.int .i64 0))])
  (.block 0 (.loop (
      .seq (.run 0 [.asg 9 (.n (.bin .lss 2 (.t 10) (.t 9)) (.cons 10 (.v 8) (.cons 9 (.v 7) .nil)))])
      (.seq (.cond 9 (.skip) (.exit 0))
      (.seq (.block 1 (.seq (.run 0 [.asg 10 (.n (.load 15 (.t 13)) (.cons 13 (.n (.iaddr 14 (.t 8) (.t 10)) (.cons 8 (.v 6) (.cons 10 (.v 8) .nil))) .nil)),
            .eff none (some 4) (.alloc 15) .nil none,
            .asg 3 (.v 8),
            .eff none none (.store 15 (.t 5) (.t 14)) (.cons 5 (.v 4) (.cons 14 (.v 10) .nil)) none])
         (.seq (.run 10 [.asg 11 (.n (.call 0 (.f 122) [(.t 18), (.t 21)]) (.cons 18 (.n (.load 17 (.t 17)) (.cons 17 (.n (.iaddr 16 (.t 16) (.c (.int .i64 0))) (.cons 16 (.n (.load 16 (.t 15)) (.cons 15 (.n (.faddr 15 (.t 5) 3) (.cons 5 (.v 4) .nil)) .nil)) .nil)) .nil)) (.cons 21 (.n (.slice 16 (.t 20) (some (.c (.int .i64 1))) none none) (.cons 20 (.n (.load 16 (.t 19)) (.cons 19 (.n (.faddr 15 (.t 5) 3) (.cons 5 (.v 4) .nil)) .nil)) .nil)) .nil))),
            .eff none (some 5) (.alloc 17) .nil (some 8),
            .eff none none (.store 17 (.t 6) (.t 22)) (.cons 6 (.v 5) (.cons 22 (.v 11) .nil)) (some 9)])
         (.seq (.seq (.run 0 [.asg 12 (.n (.bin .lss 2 (.t 23) (.t 25)) (.cons 23 (.v 3) (.cons 25 (.n (.len 1 (.t 24)) (.cons 24 (.n (.load 1 (.t 2)) (.cons 2 (.v 2) .nil)) .nil)) .nil)))])
          (.cond 12 (.run 9 [.eff none none (.store 17 (.t 6) (.t 34)) (.cons 6 (.v 5) (.cons 34 (.n (.load 17 (.t 33)) (.cons 33 (.n (.iaddr 16 (.t 28) (.t 32)) (.cons 28 (.n (.load 16 (.t 27)) (.cons 27 (.n (.faddr 15 (.t 5) 3) (.cons 5 (.v 4) .nil)) .nil)) (.cons 32 (.n (.load 2 (.t 31)) (.cons 31 (.n (.iaddr 1 (.t 29) (.t 30)) (.cons 29 (.n (.load 1 (.t 2)) (.cons 2 (.v 2) .nil)) (.cons 30 (.v 3) .nil))) .nil)) .nil))) .nil)) .nil)) (some 8)]) (.skip)))
         (.seq (.run 0 [.eff none (some 13) (.call 2 (.t 35) [(.t 38), (.t 39)]) (.cons 35 (.v 0) (.cons 38 (.n (.len 6 (.t 37)) (.cons 37 (.n (.load 6 (.t 36)) (.cons 36 (.n (.faddr 15 (.t 5) 2) (.cons 5 (.v 4) .nil)) .nil)) .nil)) (.cons 39 (.n (.load 17 (.t 6)) (.cons 6 (.v 5) .nil)) .nil))) none,
            .asg 14 (.n (.un .not (.t 40)) (.cons 40 (.v 13) .nil))])
         (.cond 14 (.ret) (.skip)))))))
      (.run 0 [.asg 8 (.n (.bin .add 2 (.t 10) (.c (.int .i64 1))) (.cons 10 (.v 8) .nil))]))))))
theorem c102 : TF E 102 n102 [] t102 43 := tf_of (F := f102) rfl (by kernel_rfl) (by decide)

def n104 : List Nat := [0, 1, 2, 3, 4]
def t104 : TC := .seq (.run 0 [.eff none (some 2) (.box 0 (.t 0)) (.cons 0 (.v 0) .nil) none,
     .eff none (some 3) (.box 6 (.t 1)) (.cons 1 (.v 1) .nil) none,
     .asg 4 (.c .nilfn)])
  (.seq (.run 0 [.asg 4 (.n (.mkfn 123 [(.t 3), (.t 2)]) (.cons 3 (.v 3) (.cons 2 (.v 2) .nil)))])
  (.ret))
theorem c104 : TF E 104 n104 [(4, none)] t104 6 := tf_of (F := f104) rfl (by kernel_rfl) (by decide)

def n105 : List Nat := [0, 2, 3, 5, 6, 7, 8, 9, 14]
def t105 : TC := .seq (.run 0 [.asg 1 (.c (.int .i64 0))])
  (.seq (.run 0 [.asg 2 (.c (.int .i64 0))])
  (.seq (.seq (.run 0 [.asg 4 (.v 0),
      .asg 5 (.n (.len 6 (.t 6)) (.cons 6 (.v 4) .nil)),
      .asg 6 (.c (.int .i64 0))])
   (.block 0 (.loop (
       .seq (.run 0 [.asg 7 (.n (.bin .lss 2 (.t 8) (.t 7)) (.cons 8 (.v 6) (.cons 7 (.v 5) .nil)))])
       (.seq (.cond 7 (.skip) (.exit 0))
       (.seq (.block 1 (.seq (.run 0 [.asg 3 (.n (.load 2 (.t 10)) (.cons 10 (.n (.iaddr 6 (.t 6) (.t 8)) (.cons 6 (.v 4) (.cons 8 (.v 6) .nil))) .nil))])
          (.seq (.run 0 [.asg 8 (.n (.bin .neq 2 (.t 12) (.t 13)) (.cons 12 (.v 3) (.cons 13 (.v 2) .nil)))])
          (.cond 8 (.seq (.run 0 [.asg 1 (.v 3)])
            (.ret)) (.skip)))))
       (.run 0 [.asg 6 (.n (.bin .add 2 (.t 8) (.c (.int .i64 1))) (.cons 8 (.v 6) .nil))])))))))
  (.seq (.run 0 [.asg 1 (.v 2)])
  (.ret))))
theorem c105 : TF E 105 n105 [(1, none)] t105 18 := tf_of (F := f105) rfl (by kernel_rfl) (by decide)

def n106 : List Nat := [0, 1, 4, 5, 7, 8, 9, 16]
def t106 : TC := .seq (.run 0 [.asg 2 (.c (.int .i64 0))])
  (.seq (.seq (.run 0 [.asg 4 (.n (.len 6 (.t 6)) (.cons 6 (.v 0) .nil)),
      .asg 5 (.c (.int .i64 0))])
   (.block 0 (.loop (
       .seq (.run 0 [.asg 6 (.n (.bin .lss 2 (.t 8) (.t 7)) (.cons 8 (.v 5) (.cons 7 (.v 4) .nil)))])
       (.seq (.cond 6 (.skip) (.exit 0))
       (.seq (.block 1 (.seq (.run 0 [.asg 3 (.v 5)])
          (.seq (.run 0 [.asg 7 (.n (.call 0 (.t 11) [(.t 15)]) (.cons 11 (.v 1) (.cons 15 (.n (.load 2 (.t 14)) (.cons 14 (.n (.iaddr 6 (.t 12) (.t 13)) (.cons 12 (.v 0) (.cons 13 (.v 3) .nil))) .nil)) .nil)))])
          (.cond 7 (.seq (.run 0 [.asg 2 (.v 3)])
            (.ret)) (.skip)))))
       (.run 0 [.asg 5 (.n (.bin .add 2 (.t 8) (.c (.int .i64 1))) (.cons 8 (.v 5) .nil))])))))))
  (.seq (.run 0 [.asg 2 (.c (.int .i64 (-1)))])
  (.ret)))
theorem c106 : TF E 106 n106 [(2, none)] t106 19 := tf_of (F := f106) rfl (by kernel_rfl) (by decide)

def n107 : List Nat := [0, 2]
def t107 : TC := .seq (.run 0 [.asg 1 (.c (.bool false))])
  (.seq (.run 0 [.asg 1 (.n (.bin .neq 2 (.t 3) (.t 4)) (.cons 3 (.v 0) (.cons 4 (.v 0) .nil)))])
  (.ret))
theorem c107 : TF E 107 n107 [(1, none)] t107 6 := tf_of (F := f107) rfl (by kernel_rfl) (by decide)

def n110 : List Nat := [0, 1, 2, 4, 5, 6, 7, 8, 11, 12, 13, 14, 18, 19, 20, 21, 43, 45]
def t110 : TC := .seq (.run 0 [.asg 8 (.n (.call 0 (.f 68) [(.t 9), (.t 10)]) (.cons 9 (.n (.load 0 (.t 1)) (.cons 1 (.v 1) .nil)) (.cons 10 (.n (.load 6 (.t 2)) (.cons 2 (.v 2) .nil)) .nil))),
     .asg 9 (.n (.len 9 (.t 11)) (.cons 11 (.v 8) .nil)),
     .asg 10 (.c (.int .i64 0))])
  (.block 0 (.loop (
      .seq (.run 0 [.asg 11 (.n (.bin .lss 2 (.t 13) (.t 12)) (.cons 13 (.v 10) (.cons 12 (.v 9) .nil)))])
      (.seq (.cond 11 (.skip) (.exit 0))
      (.seq (.block 1 (.seq (.run 0 [.asg 3 (.v 10),
            .asg 4 (.n (.load 6 (.t 16)) (.cons 16 (.n (.iaddr 9 (.t 11) (.t 13)) (.cons 11 (.v 8) (.cons 13 (.v 10) .nil))) .nil))])
         (.seq (.run 0 [.asg 12 (.v 4),
            .asg 13 (.n (.len 6 (.t 18)) (.cons 18 (.v 12) .nil)),
            .asg 14 (.c (.int .i64 0))])
         (.block 2 (.loop (
             .seq (.run 0 [.asg 15 (.n (.bin .lss 2 (.t 20) (.t 19)) (.cons 20 (.v 14) (.cons 19 (.v 13) .nil)))])
             (.seq (.cond 15 (.skip) (.exit 2))
             (.seq (.block 3 (.seq (.run 0 [.asg 5 (.v 14),
                   .asg 6 (.n (.load 2 (.t 23)) (.cons 23 (.n (.iaddr 6 (.t 18) (.t 20)) (.cons 18 (.v 12) (.cons 20 (.v 14) .nil))) .nil))])
                (.seq (.run 0 [.asg 7 (.n (.bin .sub 2 (.t 25) (.t 33)) (.cons 25 (.v 6) (.cons 33 (.n (.load 2 (.t 32)) (.cons 32 (.n (.iaddr 6 (.t 30) (.t 31)) (.cons 30 (.n (.load 6 (.t 29)) (.cons 29 (.n (.iaddr 9 (.t 27) (.t 28)) (.cons 27 (.n (.load 9 (.t 26)) (.cons 26 (.n (.faddr 0 (.t 1) 1) (.cons 1 (.v 1) .nil)) .nil)) (.cons 28 (.v 3) .nil))) .nil)) (.cons 31 (.v 5) .nil))) .nil)) .nil)))])
                (.seq (.run 0 [.eff (some ((.n (.bin .gtr 2 (.t 35) (.c (.int .i64 0))) (.cons 35 (.v 7) .nil)), true)) (some 16) (.call 2 (.t 38) [(.t 41), (.t 42)]) (.cons 38 (.v 0) (.cons 41 (.n (.build 11 [(0, (.t 39)), (1, (.t 40))]) (.cons 39 (.v 3) (.cons 40 (.v 5) .nil))) (.cons 42 (.v 7) .nil))) none,
                   .asg 17 (.ite (.n (.bin .gtr 2 (.t 35) (.c (.int .i64 0))) (.cons 35 (.v 7) .nil)) (.n (.un .not (.t 43)) (.cons 43 (.v 16) .nil)) (.c (.bool false)))])
                (.cond 17 (.ret) (.skip))))))
             (.run 0 [.asg 14 (.n (.bin .add 2 (.t 20) (.c (.int .i64 1))) (.cons 20 (.v 14) .nil))])))))))))
      (.run 0 [.asg 10 (.n (.bin .add 2 (.t 13) (.c (.int .i64 1))) (.cons 13 (.v 10) .nil))]))))))
theorem c110 : TF E 110 n110 [] t110 48 := tf_of (F := f110) rfl (by kernel_rfl) (by decide)

def n113 : List Nat := [0, 1, 4, 5, 7, 8, 9, 16]
def t113 : TC := .seq (.run 0 [.asg 2 (.c (.int .i64 0))])
  (.seq (.seq (.run 0 [.asg 4 (.n (.len 9 (.t 6)) (.cons 6 (.v 0) .nil)),
      .asg 5 (.c (.int .i64 0))])
   (.block 0 (.loop (
       .seq (.run 0 [.asg 6 (.n (.bin .lss 2 (.t 8) (.t 7)) (.cons 8 (.v 5) (.cons 7 (.v 4) .nil)))])
       (.seq (.cond 6 (.skip) (.exit 0))
       (.seq (.block 1 (.seq (.run 0 [.asg 3 (.v 5)])
          (.seq (.run 0 [.asg 7 (.n (.call 0 (.t 11) [(.t 15)]) (.cons 11 (.v 1) (.cons 15 (.n (.load 6 (.t 14)) (.cons 14 (.n (.iaddr 9 (.t 12) (.t 13)) (.cons 12 (.v 0) (.cons 13 (.v 3) .nil))) .nil)) .nil)))])
          (.cond 7 (.seq (.run 0 [.asg 2 (.v 3)])
            (.ret)) (.skip)))))
       (.run 0 [.asg 5 (.n (.bin .add 2 (.t 8) (.c (.int .i64 1))) (.cons 8 (.v 5) .nil))])))))))
  (.seq (.run 0 [.asg 2 (.c (.int .i64 (-1)))])
  (.ret)))
theorem c113 : TF E 113 n113 [(2, none)] t113 19 := tf_of (F := f113) rfl (by kernel_rfl) (by decide)

def n122 : List Nat := [0, 1, 2, 4, 6, 7, 8, 9, 10, 12]
def t122 : TC := .seq (.run 0 [.eff none (some 2) (.box 17 (.t 0)) (.cons 0 (.v 0) .nil) none,
     .eff none (some 3) (.alloc 17) .nil none])
  (.seq (.seq (.run 0 [.asg 5 (.v 1),
      .asg 6 (.n (.len 16 (.t 7)) (.cons 7 (.v 5) .nil)),
      .asg 7 (.c (.int .i64 0))])
   (.block 0 (.loop (
       .seq (.run 0 [.asg 8 (.n (.bin .lss 2 (.t 9) (.t 8)) (.cons 9 (.v 7) (.cons 8 (.v 6) .nil)))])
       (.seq (.cond 8 (.skip) (.exit 0))
       (.seq (.block 1 (.seq (.run 0 [.asg 9 (.n (.load 17 (.t 11)) (.cons 11 (.n (.iaddr 16 (.t 7) (.t 9)) (.cons 7 (.v 5) (.cons 9 (.v 7) .nil))) .nil)),
             .eff none (some 4) (.alloc 17) .nil none,
             .eff none none (.store 17 (.t 6) (.t 12)) (.cons 6 (.v 4) (.cons 12 (.v 9) .nil)) none])
          (.seq (.run 0 [.eff none none (.store 2 (.t 18) (.t 17)) (.cons 18 (.n (.faddr 17 (.t 2) 0) (.cons 2 (.v 2) .nil)) (.cons 17 (.n (.mini [(.t 14), (.t 16)]) (.cons 14 (.n (.load 2 (.t 13)) (.cons 13 (.n (.faddr 17 (.t 2) 0) (.cons 2 (.v 2) .nil)) .nil)) (.cons 16 (.n (.load 2 (.t 15)) (.cons 15 (.n (.faddr 17 (.t 6) 0) (.cons 6 (.v 4) .nil)) .nil)) .nil))) .nil)) none])
          (.seq (.run 0 [.eff none none (.store 2 (.t 24) (.t 23)) (.cons 24 (.n (.faddr 17 (.t 2) 1) (.cons 2 (.v 2) .nil)) (.cons 23 (.n (.mini [(.t 20), (.t 22)]) (.cons 20 (.n (.load 2 (.t 19)) (.cons 19 (.n (.faddr 17 (.t 2) 1) (.cons 2 (.v 2) .nil)) .nil)) (.cons 22 (.n (.load 2 (.t 21)) (.cons 21 (.n (.faddr 17 (.t 6) 1) (.cons 6 (.v 4) .nil)) .nil)) .nil))) .nil)) none])
          (.run 0 [.eff none none (.store 2 (.t 30) (.t 29)) (.cons 30 (.n (.faddr 17 (.t 2) 2) (.cons 2 (.v 2) .nil)) (.cons 29 (.n (.mini [(.t 26), (.t 28)]) (.cons 26 (.n (.load 2 (.t 25)) (.cons 25 (.n (.faddr 17 (.t 2) 2) (.cons 2 (.v 2) .nil)) .nil)) (.cons 28 (.n (.load 2 (.t 27)) (.cons 27 (.n (.faddr 17 (.t 6) 2) (.cons 6 (.v 4) .nil)) .nil)) .nil))) .nil)) none])))))
       (.run 0 [.asg 7 (.n (.bin .add 2 (.t 9) (.c (.int .i64 1))) (.cons 9 (.v 7) .nil))])))))))
  (.seq (.run 0 [.eff none none (.store 17 (.t 4) (.t 32)) (.cons 4 (.v 3) (.cons 32 (.n (.load 17 (.t 2)) (.cons 2 (.v 2) .nil)) .nil)) none])
  (.ret)))
theorem c122 : TF E 122 n122 [(3, some 17)] t122 33 := tf_of (F := f122) rfl (by kernel_rfl) (by decide)

def n123 : List Nat := [0, 1, 2, 4, 5, 7, 9, 10, 11, 12, 13, 22, 23, 24, 25, 37, 38, 39, 40, 42, 46, 47]
def t123 : TC := .seq (.run 0 [.asg 7 (.n (.load 6 (.t 1)) (.cons 1 (.v 1) .nil)),
     .asg 8 (.n (.len 6 (.t 10)) (.cons 10 (.v 7) .nil)),
     .asg 9 (.c (.int .i64 0))])
  (.block 0 (.loop (
      .seq (.run 0 [.asg 10 (.n (.bin .lss 2 (.t 12) (.t 11)) (.cons 12 (.v 9) (.cons 11 (.v 8) .nil)))])
      (.seq (.cond 10 (.skip) (.exit 0))
      (.seq (.block 1 (.seq (.run 0 [.asg 3 (.v 9),
            .asg 4 (.n (.load 2 (.t 15)) (.cons 15 (.n (.iaddr 6 (.t 10) (.t 12)) (.cons 10 (.v 7) (.cons 12 (.v 9) .nil))) .nil))])
         (.seq (.run 0 [.asg 11 (.n (.load 6 (.t 21)) (.cons 21 (.n (.faddr 15 (.t 20) 2) (.cons 20 (.n (.iaddr 14 (.t 18) (.t 19)) (.cons 18 (.n (.load 14 (.t 17)) (.cons 17 (.n (.faddr 0 (.t 2) 2) (.cons 2 (.v 2) .nil)) .nil)) (.cons 19 (.v 3) .nil))) .nil)) .nil)),
            .asg 12 (.n (.len 6 (.t 22)) (.cons 22 (.v 11) .nil)),
            .asg 13 (.c (.int .i64 0))])
         (.block 2 (.loop (
             .seq (.run 0 [.asg 14 (.n (.bin .lss 2 (.t 24) (.t 23)) (.cons 24 (.v 13) (.cons 23 (.v 12) .nil)))])
             (.seq (.cond 14 (.skip) (.exit 2))
             (.seq (.block 3 (.seq (.run 0 [.asg 5 (.n (.load 2 (.t 26)) (.cons 26 (.n (.iaddr 6 (.t 22) (.t 24)) (.cons 22 (.v 11) (.cons 24 (.v 13) .nil))) .nil))])
                (.seq (.run 0 [.asg 15 (.n (.load 18 (.t 36)) (.cons 36 (.n (.faddr 17 (.t 35) 3) (.cons 35 (.n (.iaddr 16 (.t 33) (.t 34)) (.cons 33 (.n (.load 16 (.t 32)) (.cons 32 (.n (.faddr 15 (.t 31) 3) (.cons 31 (.n (.iaddr 14 (.t 29) (.t 30)) (.cons 29 (.n (.load 14 (.t 28)) (.cons 28 (.n (.faddr 0 (.t 2) 2) (.cons 2 (.v 2) .nil)) .nil)) (.cons 30 (.v 3) .nil))) .nil)) .nil)) (.cons 34 (.v 4) .nil))) .nil)) .nil)),
                   .asg 16 (.n (.len 18 (.t 37)) (.cons 37 (.v 15) .nil)),
                   .asg 17 (.c (.int .i64 0))])
                (.block 4 (.loop (
                    .seq (.run 0 [.asg 18 (.n (.bin .lss 2 (.t 39) (.t 38)) (.cons 39 (.v 17) (.cons 38 (.v 16) .nil)))])
                    (.seq (.cond 18 (.skip) (.exit 4))
                    (.seq (.block 5 (.seq (.run 0 [.asg 19 (.n (.load 19 (.t 41)) (.cons 41 (.n (.iaddr 18 (.t 37) (.t 39)) (.cons 37 (.v 15) (.cons 39 (.v 17) .nil))) .nil)),
                          .eff none (some 6) (.alloc 19) .nil none,
                          .eff none none (.store 19 (.t 9) (.t 42)) (.cons 9 (.v 6) (.cons 42 (.v 19) .nil)) none])
                       (.seq (.run 0 [.eff none (some 20) (.call 2 (.t 43) [(.t 44), (.t 45)]) (.cons 43 (.v 0) (.cons 44 (.v 5) (.cons 45 (.n (.load 19 (.t 9)) (.cons 9 (.v 6) .nil)) .nil))) none,
                          .asg 21 (.n (.un .not (.t 46)) (.cons 46 (.v 20) .nil))])
                       (.cond 21 (.ret) (.skip)))))
                    (.run 0 [.asg 17 (.n (.bin .add 2 (.t 39) (.c (.int .i64 1))) (.cons 39 (.v 17) .nil))])))))))))
             (.run 0 [.asg 13 (.n (.bin .add 2 (.t 24) (.c (.int .i64 1))) (.cons 24 (.v 13) .nil))])))))))))
      (.run 0 [.asg 9 (.n (.bin .add 2 (.t 12) (.c (.int .i64 1))) (.cons 12 (.v 9) .nil))]))))))
theorem c123 : TF E 123 n123 [] t123 51 := tf_of (F := f123) rfl (by kernel_rfl) (by decide)

def n129 : List Nat := [0, 1, 2]
def t129 : TC := .seq (.run 0 [.eff none (some 1) (.box 0 (.t 0)) (.cons 0 (.v 0) .nil) none,
     .asg 2 (.c (.bool false))])
  (.seq (.run 0 [.asg 2 (.ite (.n (.call 0 (.f 2) [(.t 3)]) (.cons 3 (.n (.load 0 (.t 1)) (.cons 1 (.v 1) .nil)) .nil)) (.n (.bin .leq 2 (.t 7) (.c (.int .i64 300))) (.cons 7 (.n (.call 0 (.f 61) [(.t 6), (.c (.int .i64 400))]) (.cons 6 (.n (.load 0 (.t 1)) (.cons 1 (.v 1) .nil)) .nil)) .nil)) (.c (.bool false)))])
  (.ret))
theorem c129 : TF E 129 n129 [(2, none)] t129 10 := tf_of (F := f129) rfl (by kernel_rfl) (by decide)

def n131 : List Nat := [0, 1, 2, 3, 4, 5, 11, 18]
def t131 : TC := .seq (.run 0 [.eff none (some 1) (.box 0 (.t 0)) (.cons 0 (.v 0) .nil) none,
     .eff none (some 2) (.alloc 29) .nil none,
     .asg 3 (.c (.int .i64 0))])
  (.seq (.run 0 [.asg 5 (.n (.call 0 (.f 139) [(.t 6)]) (.cons 6 (.n (.load 0 (.t 1)) (.cons 1 (.v 1) .nil)) .nil)),
     .eff none (some 4) (.alloc 28) .nil none,
     .eff none none (.store 28 (.t 4) (.t 8)) (.cons 4 (.v 4) (.cons 8 (.n (.extract (.t 5) 0) (.cons 5 (.v 5) .nil)) .nil)) none,
     .asg 3 (.n (.extract (.t 5) 1) (.cons 5 (.v 5) .nil))])
  (.seq (.seq (.run 0 [.asg 6 (.n (.bin .neq 3 (.t 10) (.c (.int .i64 0))) (.cons 10 (.v 3) .nil))])
   (.cond 6 (.seq (.run 0 [.eff none none (.store 29 (.t 2) (.t 12)) (.cons 2 (.v 2) (.cons 12 (.n (.load 29 (.t 2)) (.cons 2 (.v 2) .nil)) .nil)) none,
        .asg 3 (.v 3)])
     (.ret)) (.skip)))
  (.seq (.run 9 [.asg 7 (.n (.call 0 (.f 133) [(.t 14), (.t 17)]) (.cons 14 (.n (.load 0 (.t 1)) (.cons 1 (.v 1) .nil)) (.cons 17 (.n (.call 0 (.f 150) [(.t 15), (.t 16), (.f 151)]) (.cons 15 (.n (.load 0 (.t 1)) (.cons 1 (.v 1) .nil)) (.cons 16 (.n (.load 28 (.t 4)) (.cons 4 (.v 4) .nil)) .nil))) .nil))),
     .eff none none (.store 29 (.t 2) (.t 19)) (.cons 2 (.v 2) (.cons 19 (.n (.extract (.t 18) 0) (.cons 18 (.v 7) .nil)) .nil)) (some 7),
     .asg 3 (.n (.extract (.t 18) 1) (.cons 18 (.v 7) .nil))])
  (.ret))))
theorem c131 : TF E 131 n131 [(2, some 29), (3, none)] t131 21 := tf_of (F := f131) rfl (by kernel_rfl) (by decide)

def n133 : List Nat := [0, 1, 2, 3, 4, 5, 6, 11, 22]
def t133 : TC := .seq (.run 0 [.eff none (some 2) (.box 0 (.t 0)) (.cons 0 (.v 0) .nil) none,
     .eff none (some 3) (.box 28 (.t 1)) (.cons 1 (.v 1) .nil) none,
     .eff none (some 4) (.alloc 29) .nil none,
     .asg 5 (.c (.int .i64 0))])
  (.seq (.seq (.run 0 [.asg 6 (.n (.call 0 (.f 142) [(.t 7), (.t 8)]) (.cons 7 (.n (.load 0 (.t 2)) (.cons 2 (.v 2) .nil)) (.cons 8 (.n (.load 28 (.t 3)) (.cons 3 (.v 3) .nil)) .nil)))])
   (.seq (.run 0 [.asg 7 (.n (.bin .neq 3 (.t 10) (.c (.int .i64 0))) (.cons 10 (.v 6) .nil))])
   (.cond 7 (.seq (.run 0 [.eff none none (.store 29 (.t 4) (.t 12)) (.cons 4 (.v 4) (.cons 12 (.n (.load 29 (.t 4)) (.cons 4 (.v 4) .nil)) .nil)) none,
        .asg 5 (.v 6)])
     (.ret)) (.skip))))
  (.seq (.seq (.run 0 [.asg 8 (.ite (.n (.un .not (.t 15)) (.cons 15 (.n (.call 0 (.f 140) [(.t 14)]) (.cons 14 (.n (.load 28 (.t 3)) (.cons 3 (.v 3) .nil)) .nil)) .nil)) (.c (.bool true)) (.n (.bin .eql 2 (.t 20) (.c (.int .i64 0))) (.cons 20 (.n (.len 6 (.t 19)) (.cons 19 (.n (.load 6 (.t 18)) (.cons 18 (.n (.faddr 28 (.t 3) 2) (.cons 3 (.v 3) .nil)) .nil)) .nil)) .nil)))])
   (.cond 8 (.seq (.run 0 [.eff none none (.store 29 (.t 4) (.t 23)) (.cons 4 (.v 4) (.cons 23 (.n (.load 29 (.t 4)) (.cons 4 (.v 4) .nil)) .nil)) none,
        .asg 5 (.c (.int .i64 300))])
     (.ret)) (.skip)))
  (.seq (.run 0 [.eff none none (.store 29 (.t 4) (.t 30)) (.cons 4 (.v 4) (.cons 30 (.n (.build 29 [(0, (.t 25)), (1, (.t 27)), (2, (.t 29))]) (.cons 25 (.n (.load 6 (.t 24)) (.cons 24 (.n (.faddr 28 (.t 3) 1) (.cons 3 (.v 3) .nil)) .nil)) (.cons 27 (.n (.load 6 (.t 26)) (.cons 26 (.n (.faddr 28 (.t 3) 2) (.cons 3 (.v 3) .nil)) .nil)) (.cons 29 (.n (.load 31 (.t 28)) (.cons 28 (.n (.faddr 28 (.t 3) 3) (.cons 3 (.v 3) .nil)) .nil)) .nil)))) .nil)) none,
     .asg 5 (.c (.int .i64 0))])
  (.ret))))
theorem c133 : TF E 133 n133 [(4, some 29), (5, none)] t133 31 := tf_of (F := f133) rfl (by kernel_rfl) (by decide)

def n139 : List Nat := [0, 1, 2, 3, 4, 8]
def t139 : TC := .seq (.run 0 [.eff none (some 1) (.box 0 (.t 0)) (.cons 0 (.v 0) .nil) none,
     .eff none (some 2) (.alloc 28) .nil none,
     .asg 3 (.c (.int .i64 0))])
  (.seq (.seq (.run 0 [.asg 4 (.n (.call 0 (.f 15) [(.t 5)]) (.cons 5 (.n (.load 0 (.t 1)) (.cons 1 (.v 1) .nil)) .nil))])
   (.seq (.run 0 [.asg 5 (.n (.bin .neq 3 (.t 7) (.c (.int .i64 0))) (.cons 7 (.v 4) .nil))])
   (.cond 5 (.seq (.run 0 [.eff none none (.store 28 (.t 2) (.t 9)) (.cons 2 (.v 2) (.cons 9 (.n (.load 28 (.t 2)) (.cons 2 (.v 2) .nil)) .nil)) none,
        .asg 3 (.v 4)])
     (.ret)) (.skip))))
  (.seq (.run 0 [.eff none none (.store 28 (.t 2) (.t 13)) (.cons 2 (.v 2) (.cons 13 (.n (.build 28 [(0, (.t 12))]) (.cons 12 (.n (.bslice false 4 1 [(0, (.t 11))]) (.cons 11 (.n (.bslice false 1 0 []) .nil) .nil)) .nil)) .nil)) none,
     .asg 3 (.c (.int .i64 0))])
  (.ret)))
theorem c139 : TF E 139 n139 [(2, some 28), (3, none)] t139 14 := tf_of (F := f139) rfl (by kernel_rfl) (by decide)

def n140 : List Nat := [0, 1, 2]
def t140 : TC := .seq (.run 0 [.eff none (some 1) (.box 28 (.t 0)) (.cons 0 (.v 0) .nil) none,
     .asg 2 (.c (.bool false))])
  (.seq (.run 0 [.asg 2 (.n (.bin .eql 2 (.t 5) (.c (.int .i64 0))) (.cons 5 (.n (.len 4 (.t 4)) (.cons 4 (.n (.load 4 (.t 3)) (.cons 3 (.n (.faddr 28 (.t 1) 0) (.cons 1 (.v 1) .nil)) .nil)) .nil)) .nil))])
  (.ret))
theorem c140 : TF E 140 n140 [(2, none)] t140 7 := tf_of (F := f140) rfl (by kernel_rfl) (by decide)

def n142 : List Nat := [0, 1, 2, 3, 4, 5, 6, 7, 8, 12, 18, 23, 24, 34, 35, 50]
def t142 : TC := .seq (.run 0 [.eff none (some 2) (.box 0 (.t 0)) (.cons 0 (.v 0) .nil) none,
     .eff none (some 3) (.box 28 (.t 1)) (.cons 1 (.v 1) .nil) none,
     .asg 4 (.c (.int .i64 0))])
  (.seq (.seq (.run 0 [.asg 5 (.n (.call 0 (.f 15) [(.t 9)]) (.cons 9 (.n (.load 0 (.t 2)) (.cons 2 (.v 2) .nil)) .nil))])
   (.seq (.run 0 [.asg 9 (.n (.bin .neq 3 (.t 11) (.c (.int .i64 0))) (.cons 11 (.v 5) .nil))])
   (.cond 9 (.seq (.run 0 [.asg 4 (.v 5)])
     (.ret)) (.skip))))
  (.seq (.run 0 [.eff none (some 6) (.alloc 33) .nil none,
     .eff none none (.store 33 (.t 6) (.t 14)) (.cons 6 (.v 6) (.cons 14 (.n (.mkfn 157 [(.t 2)]) (.cons 2 (.v 2) .nil)) .nil)) none])
  (.seq (.seq (.run 0 [.eff none (some 10) (.call 3 (.f 159) [(.t 16), (.t 17)]) (.cons 16 (.n (.load 4 (.t 15)) (.cons 15 (.n (.faddr 28 (.t 3) 0) (.cons 3 (.v 3) .nil)) .nil)) (.cons 17 (.n (.mkfn 158 [(.t 2)]) (.cons 2 (.v 2) .nil)) .nil)) none,
      .eff (some ((.v 10), false)) (some 11) (.call 3 (.f 161) [(.t 21), (.t 22)]) (.cons 21 (.n (.load 31 (.t 20)) (.cons 20 (.n (.faddr 28 (.t 3) 3) (.cons 3 (.v 3) .nil)) .nil)) (.cons 22 (.n (.mkfn 160 [(.t 6)]) (.cons 6 (.v 6) .nil)) .nil)) none,
      .asg 12 (.ite (.v 10) (.c (.bool true)) (.v 11))])
   (.cond 12 (.seq (.run 0 [.asg 4 (.c (.int .i64 300))])
     (.ret)) (.skip)))
  (.seq (.seq (.run 0 [.asg 13 (.ite (.n (.bin .eql 2 (.t 27) (.c (.int .i64 0))) (.cons 27 (.n (.len 6 (.t 26)) (.cons 26 (.n (.load 6 (.t 25)) (.cons 25 (.n (.faddr 28 (.t 3) 2) (.cons 3 (.v 3) .nil)) .nil)) .nil)) .nil)) (.n (.bin .eql 2 (.t 32) (.c (.int .i64 0))) (.cons 32 (.n (.len 6 (.t 31)) (.cons 31 (.n (.load 6 (.t 30)) (.cons 30 (.n (.faddr 28 (.t 3) 1) (.cons 3 (.v 3) .nil)) .nil)) .nil)) .nil)) (.c (.bool false)))])
   (.cond 13 (.seq (.run 0 [.asg 4 (.c (.int .i64 0))])
     (.ret)) (.skip)))
  (.seq (.seq (.run 0 [.asg 14 (.n (.call 0 (.f 22) [(.t 36), (.t 38)]) (.cons 36 (.n (.load 0 (.t 2)) (.cons 2 (.v 2) .nil)) (.cons 38 (.n (.load 6 (.t 37)) (.cons 37 (.n (.faddr 28 (.t 3) 1) (.cons 3 (.v 3) .nil)) .nil)) .nil))),
      .asg 7 (.n (.extract (.t 35) 0) (.cons 35 (.v 14) .nil)),
      .asg 8 (.n (.extract (.t 35) 1) (.cons 35 (.v 14) .nil))])
   (.seq (.run 0 [.asg 15 (.ite (.n (.bin .neq 3 (.t 42) (.c (.int .i64 0))) (.cons 42 (.v 8) .nil)) (.c (.bool true)) (.n (.un .not (.t 48)) (.cons 48 (.n (.call 0 (.f 162) [(.t 45), (.t 47)]) (.cons 45 (.v 7) (.cons 47 (.n (.load 6 (.t 46)) (.cons 46 (.n (.faddr 28 (.t 3) 2) (.cons 3 (.v 3) .nil)) .nil)) .nil))) .nil)))])
   (.cond 15 (.seq (.run 0 [.asg 4 (.c (.int .i64 300))])
     (.ret)) (.skip))))
  (.seq (.run 0 [.asg 4 (.c (.int .i64 0))])
  (.ret)))))))
theorem c142 : TF E 142 n142 [(4, none)] t142 51 := tf_of (F := f142) rfl (by kernel_rfl) (by decide)

def n150 : List Nat := [0, 1, 2, 3, 4, 6, 7, 8, 9, 10, 12, 14, 16, 19, 28, 30, 31, 32, 42, 43, 48, 59, 66, 67, 72, 83, 86, 87, 92, 94, 95, 99]
def t150 : TC := .seq (.run 0 [.eff none (some 3) (.box 0 (.t 0)) (.cons 0 (.v 0) .nil) none,
     .eff none (some 4) (.box 28 (.t 1)) (.cons 1 (.v 1) .nil) none,
     .eff none (some 5) (.alloc 28) .nil none])
  (.seq (.run 0 [.asg 13 (.n (.call 0 (.f 165) [(.t 18)]) (.cons 18 (.n (.load 4 (.t 17)) (.cons 17 (.n (.faddr 28 (.t 4) 0) (.cons 4 (.v 4) .nil)) .nil)) .nil)),
     .eff none (some 6) (.alloc 35) .nil none,
     .eff none none (.store 35 (.t 7) (.t 19)) (.cons 7 (.v 6) (.cons 19 (.v 13) .nil)) none])
  (.seq (.run 0 [.eff none none (.store 31 (.t 23) (.t 22)) (.cons 23 (.n (.faddr 28 (.t 4) 3) (.cons 4 (.v 4) .nil)) (.cons 22 (.n (.call 0 (.f 166) [(.t 21)]) (.cons 21 (.n (.load 31 (.t 20)) (.cons 20 (.n (.faddr 28 (.t 4) 3) (.cons 4 (.v 4) .nil)) .nil)) .nil)) .nil)) none])
  (.seq (.run 0 [.asg 7 (.n (.mkfn 167 [(.t 4)]) (.cons 4 (.v 4) .nil))])
  (.seq (.block 0 (.loop (
       .seq (.seq (.run 0 [.asg 14 (.n (.bin .gtr 2 (.t 26) (.c (.int .i64 0))) (.cons 26 (.n (.len 35 (.t 25)) (.cons 25 (.n (.load 35 (.t 7)) (.cons 7 (.v 6) .nil)) .nil)) .nil)),
           .eff (some ((.v 14), true)) (some 15) (.call 2 (.t 29) []) (.cons 29 (.v 2) .nil) none,
           .asg 16 (.ite (.v 14) (.v 15) (.c (.bool false)))])
        (.cond 16 (.skip) (.exit 0)))
       (.block 1 (.seq (.run 0 [.asg 8 (.c (.imm .exact []))])
         (.seq (.run 0 [.asg 17 (.n (.call 0 (.f 168) [(.t 33)]) (.cons 33 (.n (.load 35 (.t 7)) (.cons 7 (.v 6) .nil)) .nil)),
            .asg 8 (.n (.extract (.t 32) 0) (.cons 32 (.v 17) .nil)),
            .eff none none (.store 35 (.t 7) (.t 36)) (.cons 7 (.v 6) (.cons 36 (.n (.extract (.t 32) 1) (.cons 32 (.v 17) .nil)) .nil)) none])
         (.seq (.seq (.run 0 [.asg 18 (.n (.bin .eql 2 (.t 38) (.t 41)) (.cons 38 (.n (.len 1 (.t 37)) (.cons 37 (.v 8) .nil)) (.cons 41 (.n (.len 14 (.t 40)) (.cons 40 (.n (.load 14 (.t 39)) (.cons 39 (.n (.faddr 0 (.t 3) 2) (.cons 3 (.v 3) .nil)) .nil)) .nil)) .nil)))])
          (.cond 18 (.seq (.run 0 [.asg 19 (.n (.call 0 (.f 22) [(.t 44), (.t 45)]) (.cons 44 (.n (.load 0 (.t 3)) (.cons 3 (.v 3) .nil)) (.cons 45 (.v 8) .nil))),
               .asg 20 (.n (.extract (.t 43) 1) (.cons 43 (.v 19) .nil)),
               .asg 9 (.n (.extract (.t 43) 0) (.cons 43 (.v 19) .nil))])
            (.seq (.seq (.run 0 [.asg 21 (.ite (.n (.bin .eql 2 (.t 51) (.c (.int .i64 0))) (.cons 51 (.n (.len 6 (.t 50)) (.cons 50 (.n (.load 6 (.t 49)) (.cons 49 (.n (.faddr 28 (.t 4) 2) (.cons 4 (.v 4) .nil)) .nil)) .nil)) .nil)) (.c (.bool true)) (.n (.bin .lss 2 (.t 57) (.c (.int .i64 0))) (.cons 57 (.n (.call 0 (.f 87) [(.t 54), (.t 56)]) (.cons 54 (.v 9) (.cons 56 (.n (.load 6 (.t 55)) (.cons 55 (.n (.faddr 28 (.t 4) 2) (.cons 4 (.v 4) .nil)) .nil)) .nil))) .nil)))])
             (.cond 21 (.run 0 [.eff none none (.store 6 (.t 62) (.t 60)) (.cons 62 (.n (.faddr 28 (.t 4) 1) (.cons 4 (.v 4) .nil)) (.cons 60 (.v 8) .nil)) none,
                 .eff none none (.store 6 (.t 63) (.t 61)) (.cons 63 (.n (.faddr 28 (.t 4) 2) (.cons 4 (.v 4) .nil)) (.cons 61 (.v 9) .nil)) none]) (.skip)))
            (.seq (.run 0 [.eff none (some 22) (.call 2 (.t 64) [(.t 65), (.c (.int .i64 1))]) (.cons 64 (.v 7) (.cons 65 (.v 8) .nil)) none])
            (.exit 1)))) (.skip)))
         (.seq (.seq (.run 0 [.asg 23 (.n (.call 0 (.f 3) [(.t 68), (.t 69)]) (.cons 68 (.n (.load 0 (.t 3)) (.cons 3 (.v 3) .nil)) (.cons 69 (.v 8) .nil))),
             .asg 24 (.n (.extract (.t 67) 1) (.cons 67 (.v 23) .nil)),
             .asg 10 (.n (.extract (.t 67) 0) (.cons 67 (.v 23) .nil))])
          (.seq (.run 0 [.asg 25 (.ite (.n (.bin .gtr 2 (.t 75) (.c (.int .i64 0))) (.cons 75 (.n (.len 6 (.t 74)) (.cons 74 (.n (.load 6 (.t 73)) (.cons 73 (.n (.faddr 28 (.t 4) 2) (.cons 4 (.v 4) .nil)) .nil)) .nil)) .nil)) (.n (.bin .geq 2 (.t 81) (.c (.int .i64 0))) (.cons 81 (.n (.call 0 (.f 87) [(.t 78), (.t 80)]) (.cons 78 (.v 10) (.cons 80 (.n (.load 6 (.t 79)) (.cons 79 (.n (.faddr 28 (.t 4) 2) (.cons 4 (.v 4) .nil)) .nil)) .nil))) .nil)) (.c (.bool false)))])
          (.cond 25 (.seq (.run 0 [.eff none (some 26) (.call 2 (.t 84) [(.t 85), (.c (.int .i64 2))]) (.cons 84 (.v 7) (.cons 85 (.v 8) .nil)) none])
            (.exit 1)) (.skip))))
         (.seq (.run 0 [.asg 27 (.n (.call 0 (.f 7) [(.t 88), (.t 89)]) (.cons 88 (.n (.load 0 (.t 3)) (.cons 3 (.v 3) .nil)) (.cons 89 (.v 8) .nil))),
            .asg 28 (.n (.extract (.t 87) 1) (.cons 87 (.v 27) .nil)),
            .asg 11 (.n (.extract (.t 87) 0) (.cons 87 (.v 27) .nil))])
         (.seq (.run 0 [.asg 29 (.n (.call 0 (.f 169) [(.t 93)]) (.cons 93 (.v 11) .nil))])
         (.block 2 (.rfunc 29 [30] (.run 0 [.asg 12 (.v 30)]) (
             .block 3 (.run 0 [.eff none (some 31) (.append 0 35 35 (.t 96) (.t 98)) (.cons 96 (.n (.load 35 (.t 7)) (.cons 7 (.v 6) .nil)) (.cons 98 (.n (.bslice false 35 1 [(0, (.t 97))]) (.cons 97 (.v 12) .nil)) .nil)) none,
                 .eff none none (.store 35 (.t 7) (.t 99)) (.cons 7 (.v 6) (.cons 99 (.v 31) .nil)) none]))))))))))))))
  (.seq (.run 0 [.eff none none (.store 4 (.t 101) (.t 100)) (.cons 101 (.n (.faddr 28 (.t 4) 0) (.cons 4 (.v 4) .nil)) (.cons 100 (.n (.load 35 (.t 7)) (.cons 7 (.v 6) .nil)) .nil)) none])
  (.seq (.run 0 [.eff none none (.store 28 (.t 6) (.t 102)) (.cons 6 (.v 5) (.cons 102 (.n (.load 28 (.t 4)) (.cons 4 (.v 4) .nil)) .nil)) none])
  (.ret)))))))
theorem c150 : TF E 150 n150 [(5, some 28)] t150 103 := tf_of (F := f150) rfl (by kernel_rfl) (by decide)

def n151 : List Nat := [0]
def t151 : TC := .seq (.run 0 [.asg 0 (.c (.bool false))])
  (.seq (.run 0 [.asg 0 (.c (.bool true))])
  (.ret))
theorem c151 : TF E 151 n151 [(0, none)] t151 1 := tf_of (F := f151) rfl (by kernel_rfl) (by decide)

def n157 : List Nat := [0, 1, 2, 3, 4]
def t157 : TC := .seq (.run 0 [.eff none (some 2) (.box 32 (.t 0)) (.cons 0 (.v 0) .nil) none,
     .asg 3 (.c (.bool false))])
  (.seq (.run 0 [.asg 4 (.ite (.n (.bin .eql 2 (.t 6) (.c (.int .i64 1))) (.cons 6 (.n (.load 2 (.t 5)) (.cons 5 (.n (.faddr 32 (.t 2) 1) (.cons 2 (.v 2) .nil)) .nil)) .nil)) (.n (.bin .eql 2 (.t 11) (.t 14)) (.cons 11 (.n (.len 1 (.t 10)) (.cons 10 (.n (.load 1 (.t 9)) (.cons 9 (.n (.faddr 32 (.t 2) 0) (.cons 2 (.v 2) .nil)) .nil)) .nil)) (.cons 14 (.n (.len 14 (.t 13)) (.cons 13 (.n (.load 14 (.t 12)) (.cons 12 (.n (.faddr 0 (.t 1) 2) (.cons 1 (.v 1) .nil)) .nil)) .nil)) .nil))) (.c (.bool false)))])
  (.seq (.run 0 [.asg 3 (.ite (.ite (.n (.call 0 (.f 172) [(.t 17), (.t 19)]) (.cons 17 (.n (.load 0 (.t 1)) (.cons 1 (.v 1) .nil)) (.cons 19 (.n (.load 1 (.t 18)) (.cons 18 (.n (.faddr 32 (.t 2) 0) (.cons 2 (.v 2) .nil)) .nil)) .nil))) (.n (.bin .eql 2 (.t 24) (.c (.int .i64 0))) (.cons 24 (.n (.len 9 (.t 23)) (.cons 23 (.n (.load 9 (.t 22)) (.cons 22 (.n (.faddr 32 (.t 2) 2) (.cons 2 (.v 2) .nil)) .nil)) .nil)) .nil)) (.c (.bool false))) (.ite (.v 4) (.c (.bool true)) (.n (.bin .eql 2 (.t 31) (.c (.int .i64 2))) (.cons 31 (.n (.load 2 (.t 30)) (.cons 30 (.n (.faddr 32 (.t 2) 1) (.cons 2 (.v 2) .nil)) .nil)) .nil))) (.c (.bool false)))])
  (.ret)))
theorem c157 : TF E 157 n157 [(3, none)] t157 35 := tf_of (F := f157) rfl (by kernel_rfl) (by decide)

def n158 : List Nat := [0, 1, 3]
def t158 : TC := .seq (.run 0 [.asg 2 (.c (.bool false))])
  (.seq (.run 0 [.asg 2 (.n (.un .not (.t 6)) (.cons 6 (.n (.call 0 (.f 172) [(.t 4), (.t 5)]) (.cons 4 (.n (.load 0 (.t 1)) (.cons 1 (.v 1) .nil)) (.cons 5 (.v 0) .nil))) .nil))])
  (.ret))
theorem c158 : TF E 158 n158 [(2, none)] t158 8 := tf_of (F := f158) rfl (by kernel_rfl) (by decide)

def n159 : List Nat := [0, 1, 4]
def t159 : TC := .seq (.run 0 [.asg 2 (.c (.bool false))])
  (.seq (.run 0 [.asg 2 (.n (.bin .geq 2 (.t 7) (.c (.int .i64 0))) (.cons 7 (.n (.call 0 (.f 173) [(.t 5), (.t 6)]) (.cons 5 (.v 0) (.cons 6 (.v 1) .nil))) .nil))])
  (.ret))
theorem c159 : TF E 159 n159 [(2, none)] t159 9 := tf_of (F := f159) rfl (by kernel_rfl) (by decide)

def n160 : List Nat := [0, 1, 2, 3]
def t160 : TC := .seq (.run 0 [.eff none (some 2) (.box 32 (.t 0)) (.cons 0 (.v 0) .nil) none,
     .asg 3 (.c (.bool false))])
  (.seq (.run 0 [.asg 3 (.n (.un .not (.t 6)) (.cons 6 (.n (.call 0 (.t 4) [(.t 5)]) (.cons 4 (.n (.load 33 (.t 1)) (.cons 1 (.v 1) .nil)) (.cons 5 (.n (.load 32 (.t 2)) (.cons 2 (.v 2) .nil)) .nil))) .nil))])
  (.ret))
theorem c160 : TF E 160 n160 [(3, none)] t160 8 := tf_of (F := f160) rfl (by kernel_rfl) (by decide)

def n161 : List Nat := [0, 1, 4]
def t161 : TC := .seq (.run 0 [.asg 2 (.c (.bool false))])
  (.seq (.run 0 [.asg 2 (.n (.bin .geq 2 (.t 7) (.c (.int .i64 0))) (.cons 7 (.n (.call 0 (.f 174) [(.t 5), (.t 6)]) (.cons 5 (.v 0) (.cons 6 (.v 1) .nil))) .nil))])
  (.ret))
theorem c161 : TF E 161 n161 [(2, none)] t161 9 := tf_of (F := f161) rfl (by kernel_rfl) (by decide)

def n162 : List Nat := [0, 1, 4, 5, 10, 12, 13, 14, 24]
def t162 : TC := .seq (.run 0 [.asg 2 (.c (.bool false))])
  (.seq (.seq (.run 0 [.asg 4 (.n (.bin .neq 2 (.t 7) (.t 9)) (.cons 7 (.n (.len 6 (.t 6)) (.cons 6 (.v 0) .nil)) (.cons 9 (.n (.len 6 (.t 8)) (.cons 8 (.v 1) .nil)) .nil)))])
   (.cond 4 (.seq (.run 0 [.asg 2 (.c (.bool false))])
     (.ret)) (.skip)))
  (.seq (.seq (.run 0 [.asg 5 (.n (.len 6 (.t 11)) (.cons 11 (.v 0) .nil)),
      .asg 6 (.c (.int .i64 0))])
   (.block 0 (.loop (
       .seq (.run 0 [.asg 7 (.n (.bin .lss 2 (.t 13) (.t 12)) (.cons 13 (.v 6) (.cons 12 (.v 5) .nil)))])
       (.seq (.cond 7 (.skip) (.exit 0))
       (.seq (.block 1 (.seq (.run 0 [.asg 3 (.v 6)])
          (.seq (.run 9 [.asg 8 (.n (.bin .neq 2 (.t 19) (.t 23)) (.cons 19 (.n (.load 2 (.t 18)) (.cons 18 (.n (.iaddr 6 (.t 16) (.t 17)) (.cons 16 (.v 0) (.cons 17 (.v 3) .nil))) .nil)) (.cons 23 (.n (.load 2 (.t 22)) (.cons 22 (.n (.iaddr 6 (.t 20) (.t 21)) (.cons 20 (.v 1) (.cons 21 (.v 3) .nil))) .nil)) .nil)))])
          (.cond 8 (.seq (.run 0 [.asg 2 (.c (.bool false))])
            (.ret)) (.skip)))))
       (.run 0 [.asg 6 (.n (.bin .add 2 (.t 13) (.c (.int .i64 1))) (.cons 13 (.v 6) .nil))])))))))
  (.seq (.run 0 [.asg 2 (.c (.bool true))])
  (.ret))))
theorem c162 : TF E 162 n162 [(2, none)] t162 26 := tf_of (F := f162) rfl (by kernel_rfl) (by decide)

def n165 : List Nat := [0, 2, 7]
def t165 : TC := .seq (.run 0 [.asg 1 (.c (.imm .exact []))])
  (.seq (.run 0 [.eff none (some 2) (.append 1 4 4 (.t 5) (.t 6)) (.cons 5 (.n (.bslice false 4 0 []) .nil) (.cons 6 (.v 0) .nil)) none,
     .asg 1 (.v 2)])
  (.ret))
theorem c165 : TF E 165 n165 [(1, none)] t165 8 := tf_of (F := f165) rfl (by kernel_rfl) (by decide)

def n166 : List Nat := [0, 2]
def t166 : TC := .seq (.run 0 [.asg 1 (.c (.imm .exact []))])
  (.seq (.run 0 [.asg 1 (.n (.slice 31 (.t 3) none (some (.t 5)) (some (.t 7))) (.cons 3 (.v 0) (.cons 5 (.n (.len 31 (.t 4)) (.cons 4 (.v 0) .nil)) (.cons 7 (.n (.len 31 (.t 6)) (.cons 6 (.v 0) .nil)) .nil))))])
  (.ret))
theorem c166 : TF E 166 n166 [(1, none)] t166 9 := tf_of (F := f166) rfl (by kernel_rfl) (by decide)

def n167 : List Nat := [0, 1, 2, 11]
def t167 : TC := .run 0 [.eff none (some 3) (.append 0 31 31 (.t 6) (.t 10)) (.cons 6 (.n (.load 31 (.t 5)) (.cons 5 (.n (.faddr 28 (.t 2) 3) (.cons 2 (.v 2) .nil)) .nil)) (.cons 10 (.n (.bslice false 31 1 [(0, (.t 9))]) (.cons 9 (.n (.build 32 [(0, (.t 7)), (1, (.t 8))]) (.cons 7 (.v 0) (.cons 8 (.v 1) .nil))) .nil)) .nil)) none,
    .eff none none (.store 31 (.t 12) (.t 11)) (.cons 12 (.n (.faddr 28 (.t 2) 3) (.cons 2 (.v 2) .nil)) (.cons 11 (.v 3) .nil)) none]
theorem c167 : TF E 167 n167 [] t167 13 := tf_of (F := f167) rfl (by kernel_rfl) (by decide)

def n168 : List Nat := [0, 2, 3, 4]
def t168 : TC := .seq (.run 0 [.asg 1 (.c (.imm .exact [])),
     .asg 2 (.c (.imm .exact []))])
  (.seq (.run 0 [.asg 3 (.n (.bin .sub 2 (.t 6) (.c (.int .i64 1))) (.cons 6 (.n (.len 35 (.t 5)) (.cons 5 (.v 0) .nil)) .nil))])
  (.seq (.run 10 [.asg 1 (.n (.load 1 (.t 10)) (.cons 10 (.n (.iaddr 35 (.t 8) (.t 9)) (.cons 8 (.v 0) (.cons 9 (.v 3) .nil))) .nil)),
     .asg 2 (.n (.call 0 (.f 175) [(.t 14)]) (.cons 14 (.n (.slice 35 (.t 12) none (some (.t 13)) none) (.cons 12 (.v 0) (.cons 13 (.v 3) .nil))) .nil))])
  (.ret)))
theorem c168 : TF E 168 n168 [(1, none), (2, none)] t168 16 := tf_of (F := f168) rfl (by kernel_rfl) (by decide)

def n169 : List Nat := [0, 1, 2]
def t169 : TC := .seq (.run 0 [.eff none (some 1) (.box 4 (.t 0)) (.cons 0 (.v 0) .nil) none,
     .asg 2 (.c .nilfn)])
  (.seq (.run 0 [.asg 2 (.n (.mkfn 176 [(.t 1)]) (.cons 1 (.v 1) .nil))])
  (.ret))
theorem c169 : TF E 169 n169 [(2, none)] t169 4 := tf_of (F := f169) rfl (by kernel_rfl) (by decide)

def n172 : List Nat := [0, 1, 2, 4, 5, 6, 12, 13, 14, 15, 16, 32]
def t172 : TC := .seq (.run 0 [.eff none (some 2) (.box 0 (.t 0)) (.cons 0 (.v 0) .nil) none,
     .asg 3 (.c (.bool false))])
  (.seq (.seq (.run 0 [.asg 6 (.n (.bin .gtr 2 (.t 8) (.t 11)) (.cons 8 (.n (.len 1 (.t 7)) (.cons 7 (.v 1) .nil)) (.cons 11 (.n (.len 14 (.t 10)) (.cons 10 (.n (.load 14 (.t 9)) (.cons 9 (.n (.faddr 0 (.t 2) 2) (.cons 2 (.v 2) .nil)) .nil)) .nil)) .nil)))])
   (.cond 6 (.seq (.run 0 [.asg 3 (.c (.bool false))])
     (.ret)) (.skip)))
  (.seq (.seq (.run 0 [.asg 7 (.v 1),
      .asg 8 (.n (.len 1 (.t 13)) (.cons 13 (.v 7) .nil)),
      .asg 9 (.c (.int .i64 0))])
   (.block 0 (.loop (
       .seq (.run 0 [.asg 10 (.n (.bin .lss 2 (.t 15) (.t 14)) (.cons 15 (.v 9) (.cons 14 (.v 8) .nil)))])
       (.seq (.cond 10 (.skip) (.exit 0))
       (.seq (.block 1 (.seq (.run 0 [.asg 4 (.v 9),
             .asg 5 (.n (.load 2 (.t 18)) (.cons 18 (.n (.iaddr 1 (.t 13) (.t 15)) (.cons 13 (.v 7) (.cons 15 (.v 9) .nil))) .nil))])
          (.seq (.run 0 [.asg 11 (.ite (.n (.bin .lss 2 (.t 20) (.c (.int .i64 0))) (.cons 20 (.v 5) .nil)) (.c (.bool true)) (.n (.bin .geq 2 (.t 23) (.t 30)) (.cons 23 (.v 5) (.cons 30 (.n (.len 16 (.t 29)) (.cons 29 (.n (.load 16 (.t 28)) (.cons 28 (.n (.faddr 15 (.t 27) 3) (.cons 27 (.n (.iaddr 14 (.t 25) (.t 26)) (.cons 25 (.n (.load 14 (.t 24)) (.cons 24 (.n (.faddr 0 (.t 2) 2) (.cons 2 (.v 2) .nil)) .nil)) (.cons 26 (.v 4) .nil))) .nil)) .nil)) .nil)) .nil))))])
          (.cond 11 (.seq (.run 0 [.asg 3 (.c (.bool false))])
            (.ret)) (.skip)))))
       (.run 0 [.asg 9 (.n (.bin .add 2 (.t 15) (.c (.int .i64 1))) (.cons 15 (.v 9) .nil))])))))))
  (.seq (.run 0 [.asg 3 (.c (.bool true))])
  (.ret))))
theorem c172 : TF E 172 n172 [(3, none)] t172 34 := tf_of (F := f172) rfl (by kernel_rfl) (by decide)

def n173 : List Nat := [0, 1, 4, 5, 7, 8, 9, 16]
def t173 : TC := .seq (.run 0 [.asg 2 (.c (.int .i64 0))])
  (.seq (.seq (.run 0 [.asg 4 (.n (.len 4 (.t 6)) (.cons 6 (.v 0) .nil)),
      .asg 5 (.c (.int .i64 0))])
   (.block 0 (.loop (
       .seq (.run 0 [.asg 6 (.n (.bin .lss 2 (.t 8) (.t 7)) (.cons 8 (.v 5) (.cons 7 (.v 4) .nil)))])
       (.seq (.cond 6 (.skip) (.exit 0))
       (.seq (.block 1 (.seq (.run 0 [.asg 3 (.v 5)])
          (.seq (.run 0 [.asg 7 (.n (.call 0 (.t 11) [(.t 15)]) (.cons 11 (.v 1) (.cons 15 (.n (.load 1 (.t 14)) (.cons 14 (.n (.iaddr 4 (.t 12) (.t 13)) (.cons 12 (.v 0) (.cons 13 (.v 3) .nil))) .nil)) .nil)))])
          (.cond 7 (.seq (.run 0 [.asg 2 (.v 3)])
            (.ret)) (.skip)))))
       (.run 0 [.asg 5 (.n (.bin .add 2 (.t 8) (.c (.int .i64 1))) (.cons 8 (.v 5) .nil))])))))))
  (.seq (.run 0 [.asg 2 (.c (.int .i64 (-1)))])
  (.ret)))
theorem c173 : TF E 173 n173 [(2, none)] t173 19 := tf_of (F := f173) rfl (by kernel_rfl) (by decide)

def n174 : List Nat := [0, 1, 4, 5, 7, 8, 9, 16]
def t174 : TC := .seq (.run 0 [.asg 2 (.c (.int .i64 0))])
  (.seq (.seq (.run 0 [.asg 4 (.n (.len 31 (.t 6)) (.cons 6 (.v 0) .nil)),
      .asg 5 (.c (.int .i64 0))])
   (.block 0 (.loop (
       .seq (.run 0 [.asg 6 (.n (.bin .lss 2 (.t 8) (.t 7)) (.cons 8 (.v 5) (.cons 7 (.v 4) .nil)))])
       (.seq (.cond 6 (.skip) (.exit 0))
       (.seq (.block 1 (.seq (.run 0 [.asg 3 (.v 5)])
          (.seq (.run 0 [.asg 7 (.n (.call 0 (.t 11) [(.t 15)]) (.cons 11 (.v 1) (.cons 15 (.n (.load 32 (.t 14)) (.cons 14 (.n (.iaddr 31 (.t 12) (.t 13)) (.cons 12 (.v 0) (.cons 13 (.v 3) .nil))) .nil)) .nil)))])
          (.cond 7 (.seq (.run 0 [.asg 2 (.v 3)])
            (.ret)) (.skip)))))
       (.run 0 [.asg 5 (.n (.bin .add 2 (.t 8) (.c (.int .i64 1))) (.cons 8 (.v 5) .nil))])))))))
  (.seq (.run 0 [.asg 2 (.c (.int .i64 (-1)))])
  (.ret)))
theorem c174 : TF E 174 n174 [(2, none)] t174 19 := tf_of (F := f174) rfl (by kernel_rfl) (by decide)

def n175 : List Nat := [0, 2]
def t175 : TC := .seq (.run 0 [.asg 1 (.c (.imm .exact []))])
  (.seq (.run 0 [.asg 1 (.n (.slice 35 (.t 3) none (some (.t 5)) (some (.t 7))) (.cons 3 (.v 0) (.cons 5 (.n (.len 35 (.t 4)) (.cons 4 (.v 0) .nil)) (.cons 7 (.n (.len 35 (.t 6)) (.cons 6 (.v 0) .nil)) .nil))))])
  (.ret))
theorem c175 : TF E 175 n175 [(1, none)] t175 9 := tf_of (F := f175) rfl (by kernel_rfl) (by decide)

def n176 : List Nat := [0, 1, 3, 8, 16, 17]
def t176 : TC := .seq (.run 0 [.asg 2 (.n (.bin .sub 2 (.t 5) (.c (.int .i64 1))) (.cons 5 (.n (.len 4 (.t 4)) (.cons 4 (.n (.load 4 (.t 1)) (.cons 1 (.v 1) .nil)) .nil)) .nil))])
  (.block 0 (.loop (
      .seq (.seq (.run 0 [.asg 3 (.n (.bin .geq 2 (.t 7) (.c (.int .i64 0))) (.cons 7 (.v 2) .nil))])
       (.cond 3 (.skip) (.exit 0)))
      (.seq (.block 1 (.seq (.run 0 [.eff none (some 4) (.call 2 (.t 11) [(.t 15)]) (.cons 11 (.v 0) (.cons 15 (.n (.load 1 (.t 14)) (.cons 14 (.n (.iaddr 4 (.t 12) (.t 13)) (.cons 12 (.n (.load 4 (.t 1)) (.cons 1 (.v 1) .nil)) (.cons 13 (.v 2) .nil))) .nil)) .nil)) none,
            .asg 5 (.n (.un .not (.t 16)) (.cons 16 (.v 4) .nil))])
         (.cond 5 (.ret) (.skip))))
      (.run 0 [.asg 2 (.n (.bin .sub 2 (.t 9) (.c (.int .i64 1))) (.cons 9 (.v 2) .nil))])))))
theorem c176 : TF E 176 n176 [] t176 18 := tf_of (F := f176) rfl (by kernel_rfl) (by decide)

def n178 : List Nat := [0, 1, 2, 3, 4, 5, 6, 7, 8, 9, 10, 11, 12, 13, 14, 15, 16, 18, 19, 20, 21, 22, 26, 31, 37, 42, 47, 53, 59, 64, 67, 69]
def t178 : TC := .seq (.run 0 [.asg 0 (.c (.bool false))])
  (.seq (.run 0 [.asg 21 (.n (.call 0 (.f 190) []) .nil),
     .eff none (some 1) (.alloc 0) .nil none,
     .eff none none (.store 0 (.t 1) (.t 24)) (.cons 1 (.v 1) (.cons 24 (.n (.extract (.t 22) 0) (.cons 22 (.v 21) .nil)) .nil)) none,
     .asg 2 (.n (.extract (.t 22) 1) (.cons 22 (.v 21) .nil))])
  (.seq (.run 0 [.asg 22 (.n (.call 0 (.f 184) [(.t 27)]) (.cons 27 (.n (.load 0 (.t 1)) (.cons 1 (.v 1) .nil)) .nil)),
     .asg 3 (.n (.extract (.t 26) 0) (.cons 26 (.v 22) .nil)),
     .asg 4 (.n (.extract (.t 26) 1) (.cons 26 (.v 22) .nil))])
  (.seq (.run 0 [.asg 23 (.n (.call 0 (.f 183) [(.t 32), (.t 33), (.c (.int .i64 0))]) (.cons 32 (.n (.load 0 (.t 1)) (.cons 1 (.v 1) .nil)) (.cons 33 (.v 2) .nil))),
     .eff none (some 5) (.alloc 0) .nil none,
     .eff none none (.store 0 (.t 5) (.t 35)) (.cons 5 (.v 5) (.cons 35 (.n (.extract (.t 31) 0) (.cons 31 (.v 23) .nil)) .nil)) none,
     .asg 6 (.n (.extract (.t 31) 1) (.cons 31 (.v 23) .nil))])
  (.seq (.run 0 [.asg 24 (.n (.call 0 (.f 184) [(.t 38)]) (.cons 38 (.n (.load 0 (.t 5)) (.cons 5 (.v 5) .nil)) .nil)),
     .asg 7 (.n (.extract (.t 37) 0) (.cons 37 (.v 24) .nil)),
     .asg 8 (.n (.extract (.t 37) 1) (.cons 37 (.v 24) .nil))])
  (.seq (.run 0 [.asg 25 (.n (.call 0 (.f 183) [(.t 43), (.c (.imm .exact [])), (.c (.int .i64 0))]) (.cons 43 (.n (.load 0 (.t 1)) (.cons 1 (.v 1) .nil)) .nil)),
     .eff none (some 9) (.alloc 0) .nil none,
     .eff none none (.store 0 (.t 9) (.t 45)) (.cons 9 (.v 9) (.cons 45 (.n (.extract (.t 42) 0) (.cons 42 (.v 25) .nil)) .nil)) none,
     .asg 10 (.n (.extract (.t 42) 1) (.cons 42 (.v 25) .nil))])
  (.seq (.run 0 [.asg 26 (.n (.call 0 (.f 183) [(.t 48), (.t 49), (.c (.int .i64 (-1)))]) (.cons 48 (.n (.load 0 (.t 1)) (.cons 1 (.v 1) .nil)) (.cons 49 (.v 2) .nil))),
     .eff none (some 11) (.alloc 0) .nil none,
     .eff none none (.store 0 (.t 11) (.t 51)) (.cons 11 (.v 11) (.cons 51 (.n (.extract (.t 47) 0) (.cons 47 (.v 26) .nil)) .nil)) none,
     .asg 12 (.n (.extract (.t 47) 1) (.cons 47 (.v 26) .nil))])
  (.seq (.run 0 [.asg 27 (.n (.call 0 (.f 180) [(.t 54), (.t 55)]) (.cons 54 (.n (.load 0 (.t 1)) (.cons 1 (.v 1) .nil)) (.cons 55 (.v 2) .nil))),
     .asg 13 (.n (.extract (.t 53) 0) (.cons 53 (.v 27) .nil)),
     .asg 14 (.n (.extract (.t 53) 1) (.cons 53 (.v 27) .nil))])
  (.seq (.run 0 [.asg 28 (.n (.call 0 (.f 180) [(.t 60), (.c (.imm .exact []))]) (.cons 60 (.n (.load 0 (.t 1)) (.cons 1 (.v 1) .nil)) .nil)),
     .asg 15 (.n (.extract (.t 59) 0) (.cons 59 (.v 28) .nil)),
     .asg 16 (.n (.extract (.t 59) 1) (.cons 59 (.v 28) .nil))])
  (.seq (.run 0 [.asg 29 (.n (.call 0 (.f 180) [(.t 65), (.c (.imm .exact []))]) (.cons 65 (.n (.build 0 []) .nil) .nil)),
     .asg 30 (.n (.extract (.t 64) 0) (.cons 64 (.v 29) .nil)),
     .asg 17 (.n (.extract (.t 64) 1) (.cons 64 (.v 29) .nil))])
  (.seq (.run 0 [.asg 31 (.n (.call 0 (.f 184) [(.t 71)]) (.cons 71 (.n (.build 0 [(1, (.t 70))]) (.cons 70 (.n (.bslice false 9 1 [(0, (.c (.imm .exact [])))]) .nil) .nil)) .nil)),
     .asg 18 (.n (.extract (.t 69) 0) (.cons 69 (.v 31) .nil)),
     .asg 19 (.n (.extract (.t 69) 1) (.cons 69 (.v 31) .nil))])
  (.seq (.run 0 [.asg 20 (.n (.bslice false 38 1 [(0, (.t 77))]) (.cons 77 (.n (.build 39 [(1, (.t 76))]) (.cons 76 (.n (.bslice false 9 1 [(0, (.t 75))]) (.cons 75 (.n (.bslice false 6 1 [(0, (.c (.int .i64 1)))]) .nil) .nil)) .nil)) .nil))])
  (.seq (.run 0 [.asg 0 (.ite (.ite (.ite (.ite (.ite (.ite (.ite (.ite (.ite (.ite (.ite (.ite (.ite (.ite (.ite (.ite (.ite (.n (.bin .eql 3 (.t 79) (.c (.int .i64 0))) (.cons 79 (.v 4) .nil)) (.n (.call 0 (.f 20) [(.t 82), (.t 83)]) (.cons 82 (.v 3) (.cons 83 (.n (.bslice false 6 2 [(0, (.c (.int .i64 0))), (1, (.c (.int .i64 10)))]) .nil) .nil))) (.c (.bool false))) (.n (.bin .eql 3 (.t 87) (.c (.int .i64 0))) (.cons 87 (.v 6) .nil)) (.c (.bool false))) (.n (.bin .eql 2 (.t 96) (.c (.int .i64 2))) (.cons 96 (.n (.load 2 (.t 95)) (.cons 95 (.n (.iaddr 6 (.t 94) (.c (.int .i64 0))) (.cons 94 (.n (.load 6 (.t 93)) (.cons 93 (.n (.iaddr 9 (.t 92) (.c (.int .i64 0))) (.cons 92 (.n (.load 9 (.t 91)) (.cons 91 (.n (.faddr 0 (.t 5) 1) (.cons 5 (.v 5) .nil)) .nil)) .nil)) .nil)) .nil)) .nil)) .nil)) (.c (.bool false))) (.n (.bin .eql 3 (.t 100) (.c (.int .i64 0))) (.cons 100 (.v 8) .nil)) (.c (.bool false))) (.n (.call 0 (.f 20) [(.t 104), (.t 105)]) (.cons 104 (.v 7) (.cons 105 (.n (.bslice false 6 2 [(0, (.c (.int .i64 0))), (1, (.c (.int .i64 0)))]) .nil) .nil))) (.c (.bool false))) (.n (.bin .eql 3 (.t 109) (.c (.int .i64 0))) (.cons 109 (.v 10) .nil)) (.c (.bool false))) (.n (.call 0 (.f 188) [(.t 113), (.t 114)]) (.cons 113 (.n (.load 0 (.t 9)) (.cons 9 (.v 9) .nil)) (.cons 114 (.n (.load 0 (.t 1)) (.cons 1 (.v 1) .nil)) .nil))) (.c (.bool false))) (.n (.bin .eql 3 (.t 118) (.c (.int .i64 1))) (.cons 118 (.v 12) .nil)) (.c (.bool false))) (.n (.bin .eql 3 (.t 122) (.c (.int .i64 0))) (.cons 122 (.v 14) .nil)) (.c (.bool false))) (.n (.call 0 (.f 187) [(.t 126), (.t 128)]) (.cons 126 (.v 13) (.cons 128 (.n (.bslice false 36 1 [(0, (.t 127))]) (.cons 127 (.n (.build 37 [(0, (.c (.int .i64 0))), (1, (.c (.int .i64 1))), (2, (.c (.int .i64 10)))]) .nil) .nil)) .nil))) (.c (.bool false))) (.n (.bin .eql 3 (.t 132) (.c (.int .i64 0))) (.cons 132 (.v 16) .nil)) (.c (.bool false))) (.n (.call 0 (.f 187) [(.t 136), (.t 138)]) (.cons 136 (.v 15) (.cons 138 (.n (.bslice false 36 1 [(0, (.t 137))]) (.cons 137 (.n (.build 37 [(0, (.c (.int .i64 (-1)))), (1, (.c (.int .i64 1))), (2, (.c (.int .i64 10)))]) .nil) .nil)) .nil))) (.c (.bool false))) (.n (.bin .eql 3 (.t 142) (.c (.int .i64 270))) (.cons 142 (.v 17) .nil)) (.c (.bool false))) (.n (.bin .eql 3 (.t 146) (.c (.int .i64 0))) (.cons 146 (.v 19) .nil)) (.c (.bool false))) (.n (.bin .eql 2 (.t 151) (.c (.int .i64 0))) (.cons 151 (.n (.len 6 (.t 150)) (.cons 150 (.v 18) .nil)) .nil)) (.c (.bool false))) (.n (.bin .eql 3 (.t 156) (.c (.int .i64 0))) (.cons 156 (.n (.call 0 (.f 181) [(.t 155), (.c (.imm .exact []))]) (.cons 155 (.n (.load 0 (.t 1)) (.cons 1 (.v 1) .nil)) .nil)) .nil)) (.c (.bool false))) (.n (.bin .eql 3 (.t 162) (.c (.int .i64 420))) (.cons 162 (.n (.call 0 (.f 181) [(.t 160), (.t 161)]) (.cons 160 (.n (.load 0 (.t 1)) (.cons 1 (.v 1) .nil)) (.cons 161 (.v 20) .nil))) .nil)) (.c (.bool false)))])
  (.ret)))))))))))))
theorem c178 : TF E 178 n178 [(0, none)] t178 165 := tf_of (F := f178) rfl (by kernel_rfl) (by decide)

def n179 : List Nat := [0, 1, 2, 4, 5, 6, 10, 20, 36]
def t179 : TC := .seq (.run 0 [.eff none (some 2) (.box 0 (.t 0)) (.cons 0 (.v 0) .nil) none,
     .asg 3 (.c (.bool false))])
  (.seq (.seq (.run 0 [.asg 4 (.c (.int .i64 0))])
   (.block 0 (.loop (
       .seq (.seq (.run 0 [.asg 6 (.n (.bin .lss 2 (.t 7) (.t 9)) (.cons 7 (.v 4) (.cons 9 (.n (.len 38 (.t 8)) (.cons 8 (.v 1) .nil)) .nil)))])
        (.cond 6 (.skip) (.exit 0)))
       (.seq (.block 1 (.seq (.run 0 [.asg 5 (.c (.int .i64 0))])
          (.block 2 (.loop (
              .seq (.seq (.run 0 [.asg 7 (.n (.bin .lss 2 (.t 13) (.t 19)) (.cons 13 (.v 5) (.cons 19 (.n (.len 9 (.t 18)) (.cons 18 (.n (.load 9 (.t 17)) (.cons 17 (.n (.faddr 39 (.t 16) 1) (.cons 16 (.n (.iaddr 38 (.t 14) (.t 15)) (.cons 14 (.v 1) (.cons 15 (.v 4) .nil))) .nil)) .nil)) .nil)) .nil)))])
               (.cond 7 (.skip) (.exit 2)))
              (.seq (.block 3 (.seq (.run 0 [.asg 8 (.ite (.n (.bin .geq 2 (.t 23) (.c (.int .i64 8))) (.cons 23 (.v 5) .nil)) (.c (.bool true)) (.n (.bin .gtr 2 (.t 34) (.c (.int .i64 20))) (.cons 34 (.n (.len 6 (.t 33)) (.cons 33 (.n (.load 6 (.t 32)) (.cons 32 (.n (.iaddr 9 (.t 30) (.t 31)) (.cons 30 (.n (.load 9 (.t 29)) (.cons 29 (.n (.faddr 39 (.t 28) 1) (.cons 28 (.n (.iaddr 38 (.t 26) (.t 27)) (.cons 26 (.v 1) (.cons 27 (.v 4) .nil))) .nil)) .nil)) (.cons 31 (.v 5) .nil))) .nil)) .nil)) .nil)))])
                 (.cond 8 (.seq (.run 0 [.asg 3 (.c (.bool false))])
                   (.ret)) (.skip))))
              (.run 0 [.asg 5 (.n (.bin .add 2 (.t 21) (.c (.int .i64 1))) (.cons 21 (.v 5) .nil))])))))))
       (.run 0 [.asg 4 (.n (.bin .add 2 (.t 11) (.c (.int .i64 1))) (.cons 11 (.v 4) .nil))]))))))
  (.seq (.run 0 [.asg 3 (.ite (.n (.call 0 (.f 129) [(.t 37)]) (.cons 37 (.n (.load 0 (.t 2)) (.cons 2 (.v 2) .nil)) .nil)) (.n (.bin .leq 2 (.t 41) (.c (.int .i64 4))) (.cons 41 (.n (.len 38 (.t 40)) (.cons 40 (.v 1) .nil)) .nil)) (.c (.bool false)))])
  (.ret)))
theorem c179 : TF E 179 n179 [(3, none)] t179 44 := tf_of (F := f179) rfl (by kernel_rfl) (by decide)

def n180 : List Nat := [0, 1, 2, 4, 5, 6, 7, 8, 9, 10, 11, 12, 17, 21, 26, 27, 28, 29, 35, 40]
def t180 : TC := .seq (.run 0 [.eff none (some 2) (.box 0 (.t 0)) (.cons 0 (.v 0) .nil) none,
     .eff none (some 3) (.alloc 36) .nil none,
     .eff none (some 4) (.alloc 3) .nil none])
  (.seq (.seq (.run 0 [.asg 5 (.n (.call 0 (.f 181) [(.t 13), (.t 14)]) (.cons 13 (.n (.load 0 (.t 2)) (.cons 2 (.v 2) .nil)) (.cons 14 (.v 1) .nil)))])
   (.seq (.run 0 [.asg 12 (.n (.bin .neq 3 (.t 16) (.c (.int .i64 0))) (.cons 16 (.v 5) .nil))])
   (.cond 12 (.seq (.run 0 [.eff none none (.store 36 (.t 4) (.c (.imm .exact []))) (.cons 4 (.v 3) .nil) none,
        .eff none none (.store 3 (.t 5) (.t 18)) (.cons 5 (.v 4) (.cons 18 (.v 5) .nil)) none])
     (.ret)) (.skip))))
  (.seq (.run 0 [.asg 13 (.n (.len 14 (.t 20)) (.cons 20 (.n (.load 14 (.t 19)) (.cons 19 (.n (.faddr 0 (.t 2) 2) (.cons 2 (.v 2) .nil)) .nil)) .nil)),
     .eff none (some 6) (.alloc 6) .nil none,
     .eff none none (.store 6 (.t 7) (.t 22)) (.cons 7 (.v 6) (.cons 22 (.n (.mkslice false 6 (.t 21) (.t 21)) (.cons 21 (.v 13) (.cons 21 (.v 13) .nil))) .nil)) none])
  (.seq (.run 0 [.eff none (some 7) (.alloc 40) .nil none,
     .eff none none (.store 40 (.t 8) (.t 23)) (.cons 8 (.v 7) (.cons 23 (.n (.mkfn 191 [(.t 7), (.t 4)]) (.cons 7 (.v 6) (.cons 4 (.v 3) .nil))) .nil)) none])
  (.seq (.seq (.run 0 [.asg 14 (.n (.call 0 (.f 192) [(.t 24), (.t 25)]) (.cons 24 (.n (.load 0 (.t 2)) (.cons 2 (.v 2) .nil)) (.cons 25 (.v 1) .nil)))])
   (.block 0 (.rfunc 14 [15, 16] (.seq (.run 0 [.asg 8 (.v 15)])
       (.run 0 [.eff none (some 9) (.alloc 0) .nil none,
         .eff none none (.store 0 (.t 10) (.t 28)) (.cons 10 (.v 9) (.cons 28 (.v 16) .nil)) none])) (
       .block 1 (.seq (.run 0 [.asg 17 (.n (.call 0 (.f 184) [(.t 30)]) (.cons 30 (.n (.load 0 (.t 10)) (.cons 10 (.v 9) .nil)) .nil)),
            .asg 10 (.n (.extract (.t 29) 0) (.cons 29 (.v 17) .nil)),
            .asg 11 (.n (.extract (.t 29) 1) (.cons 29 (.v 17) .nil))])
         (.seq (.seq (.run 0 [.asg 18 (.n (.bin .neq 3 (.t 34) (.c (.int .i64 0))) (.cons 34 (.v 11) .nil))])
          (.cond 18 (.seq (.run 0 [.eff none none (.store 36 (.t 4) (.c (.imm .exact []))) (.cons 4 (.v 3) .nil) none,
               .eff none none (.store 3 (.t 5) (.t 36)) (.cons 5 (.v 4) (.cons 36 (.v 11) .nil)) none])
            (.ret)) (.skip)))
         (.run 0 [.eff none (some 19) (.call 2 (.t 37) [(.t 38), (.t 39)]) (.cons 37 (.n (.load 40 (.t 8)) (.cons 8 (.v 7) .nil)) (.cons 38 (.v 8) (.cons 39 (.v 10) .nil))) none])))))))
  (.seq (.run 0 [.eff none none (.store 36 (.t 4) (.t 41)) (.cons 4 (.v 3) (.cons 41 (.n (.load 36 (.t 4)) (.cons 4 (.v 3) .nil)) .nil)) none,
     .eff none none (.store 3 (.t 5) (.c (.int .i64 0))) (.cons 5 (.v 4) .nil) none])
  (.ret))))))
theorem c180 : TF E 180 n180 [(3, some 36), (4, some 3)] t180 42 := tf_of (F := f180) rfl (by kernel_rfl) (by decide)

def n181 : List Nat := [0, 1, 2, 4, 5, 6, 10, 16, 19, 20]
def t181 : TC := .seq (.run 0 [.eff none (some 2) (.box 0 (.t 0)) (.cons 0 (.v 0) .nil) none,
     .asg 3 (.c (.int .i64 0))])
  (.seq (.seq (.run 0 [.asg 4 (.n (.call 0 (.f 15) [(.t 7)]) (.cons 7 (.n (.load 0 (.t 2)) (.cons 2 (.v 2) .nil)) .nil))])
   (.seq (.run 0 [.asg 6 (.n (.bin .neq 3 (.t 9) (.c (.int .i64 0))) (.cons 9 (.v 4) .nil))])
   (.cond 6 (.seq (.run 0 [.asg 3 (.v 4)])
     (.ret)) (.skip))))
  (.seq (.run 0 [.asg 5 (.n (.mkfn 193 [(.t 2)]) (.cons 2 (.v 2) .nil))])
  (.seq (.seq (.run 0 [.asg 7 (.n (.bin .gtr 2 (.t 14) (.c (.int .i64 8))) (.cons 14 (.n (.len 38 (.t 13)) (.cons 13 (.v 1) .nil)) .nil)),
      .eff (some ((.v 7), false)) (some 8) (.call 3 (.f 194) [(.t 17), (.t 18)]) (.cons 17 (.v 1) (.cons 18 (.v 5) .nil)) none,
      .asg 9 (.ite (.v 7) (.c (.bool true)) (.v 8))])
   (.cond 9 (.seq (.run 0 [.asg 3 (.c (.int .i64 420))])
     (.ret)) (.skip)))
  (.seq (.run 0 [.asg 3 (.c (.int .i64 0))])
  (.ret)))))
theorem c181 : TF E 181 n181 [(3, none)] t181 21 := tf_of (F := f181) rfl (by kernel_rfl) (by decide)

def n183 : List Nat := [0, 1, 2, 3, 6, 7, 8, 13, 23]
def t183 : TC := .seq (.run 0 [.eff none (some 3) (.box 0 (.t 0)) (.cons 0 (.v 0) .nil) none,
     .eff none (some 4) (.alloc 0) .nil none,
     .asg 5 (.c (.int .i64 0))])
  (.seq (.seq (.run 0 [.asg 6 (.n (.call 0 (.f 181) [(.t 9), (.t 10)]) (.cons 9 (.n (.load 0 (.t 3)) (.cons 3 (.v 3) .nil)) (.cons 10 (.v 1) .nil)))])
   (.seq (.run 0 [.asg 7 (.n (.bin .neq 3 (.t 12) (.c (.int .i64 0))) (.cons 12 (.v 6) .nil))])
   (.cond 7 (.seq (.run 0 [.eff none none (.store 0 (.t 6) (.t 14)) (.cons 6 (.v 4) (.cons 14 (.n (.load 0 (.t 6)) (.cons 6 (.v 4) .nil)) .nil)) none,
        .asg 5 (.v 6)])
     (.ret)) (.skip))))
  (.seq (.seq (.run 0 [.asg 8 (.ite (.n (.bin .lss 2 (.t 16) (.c (.int .i64 0))) (.cons 16 (.v 2) .nil)) (.c (.bool true)) (.n (.bin .gtr 2 (.t 19) (.t 21)) (.cons 19 (.v 2) (.cons 21 (.n (.len 38 (.t 20)) (.cons 20 (.v 1) .nil)) .nil))))])
   (.cond 8 (.seq (.run 0 [.eff none none (.store 0 (.t 6) (.t 24)) (.cons 6 (.v 4) (.cons 24 (.n (.load 0 (.t 6)) (.cons 6 (.v 4) .nil)) .nil)) none,
        .asg 5 (.c (.int .i64 1))])
     (.ret)) (.skip)))
  (.seq (.run 0 [.eff none none (.store 0 (.t 6) (.t 28)) (.cons 6 (.v 4) (.cons 28 (.n (.call 0 (.f 195) [(.t 25), (.t 26), (.t 27)]) (.cons 25 (.n (.load 0 (.t 3)) (.cons 3 (.v 3) .nil)) (.cons 26 (.v 1) (.cons 27 (.v 2) .nil)))) .nil)) none,
     .asg 5 (.c (.int .i64 0))])
  (.ret))))
theorem c183 : TF E 183 n183 [(4, some 0), (5, none)] t183 29 := tf_of (F := f183) rfl (by kernel_rfl) (by decide)

def n184 : List Nat := [0, 1, 2, 3, 4, 5, 6, 7, 13, 16, 17, 18, 19, 35]
def t184 : TC := .seq (.run 0 [.eff none (some 1) (.box 0 (.t 0)) (.cons 0 (.v 0) .nil) none,
     .asg 2 (.c (.imm .exact [])),
     .asg 3 (.c (.int .i64 0))])
  (.seq (.run 0 [.asg 7 (.n (.call 0 (.f 131) [(.t 8)]) (.cons 8 (.n (.load 0 (.t 1)) (.cons 1 (.v 1) .nil)) .nil)),
     .eff none (some 4) (.alloc 29) .nil none,
     .eff none none (.store 29 (.t 4) (.t 10)) (.cons 4 (.v 4) (.cons 10 (.n (.extract (.t 7) 0) (.cons 7 (.v 7) .nil)) .nil)) none,
     .asg 3 (.n (.extract (.t 7) 1) (.cons 7 (.v 7) .nil))])
  (.seq (.seq (.run 0 [.asg 8 (.n (.bin .neq 3 (.t 12) (.c (.int .i64 0))) (.cons 12 (.v 3) .nil))])
   (.cond 8 (.seq (.run 0 [.asg 2 (.c (.imm .exact [])),
        .asg 3 (.v 3)])
     (.ret)) (.skip)))
  (.seq (.seq (.run 0 [.asg 9 (.n (.load 6 (.t 15)) (.cons 15 (.n (.faddr 29 (.t 4) 0) (.cons 4 (.v 4) .nil)) .nil)),
      .asg 10 (.n (.len 6 (.t 16)) (.cons 16 (.v 9) .nil)),
      .asg 11 (.c (.int .i64 0))])
   (.block 0 (.loop (
       .seq (.run 0 [.asg 12 (.n (.bin .lss 2 (.t 18) (.t 17)) (.cons 18 (.v 11) (.cons 17 (.v 10) .nil)))])
       (.seq (.cond 12 (.skip) (.exit 0))
       (.seq (.block 1 (.seq (.run 0 [.asg 5 (.v 11),
             .asg 6 (.n (.load 2 (.t 21)) (.cons 21 (.n (.iaddr 6 (.t 16) (.t 18)) (.cons 16 (.v 9) (.cons 18 (.v 11) .nil))) .nil))])
          (.run 0 [.eff none (some 13) (.append 0 6 6 (.t 23) (.t 34)) (.cons 23 (.v 2) (.cons 34 (.n (.bslice false 6 1 [(0, (.t 33))]) (.cons 33 (.n (.load 2 (.t 32)) (.cons 32 (.n (.faddr 17 (.t 31) 0) (.cons 31 (.n (.iaddr 16 (.t 29) (.t 30)) (.cons 29 (.n (.load 16 (.t 28)) (.cons 28 (.n (.faddr 15 (.t 27) 3) (.cons 27 (.n (.iaddr 14 (.t 25) (.t 26)) (.cons 25 (.n (.load 14 (.t 24)) (.cons 24 (.n (.faddr 0 (.t 1) 2) (.cons 1 (.v 1) .nil)) .nil)) (.cons 26 (.v 5) .nil))) .nil)) .nil)) (.cons 30 (.v 6) .nil))) .nil)) .nil)) .nil)) .nil)) none,
            .asg 2 (.v 13)])))
       (.run 0 [.asg 11 (.n (.bin .add 2 (.t 18) (.c (.int .i64 1))) (.cons 18 (.v 11) .nil))])))))))
  (.seq (.run 0 [.asg 2 (.v 2),
     .asg 3 (.c (.int .i64 0))])
  (.ret)))))
theorem c184 : TF E 184 n184 [(2, none), (3, none)] t184 38 := tf_of (F := f184) rfl (by kernel_rfl) (by decide)

def n188 : List Nat := [0, 1, 2, 3, 4, 5, 6, 7, 32, 37, 50, 55, 69, 74, 88]
def t188 : TC := .seq (.run 0 [.eff none (some 2) (.box 0 (.t 0)) (.cons 0 (.v 0) .nil) none,
     .eff none (some 3) (.box 0 (.t 1)) (.cons 1 (.v 1) .nil) none,
     .asg 4 (.c (.bool false))])
  (.seq (.seq (.run 0 [.asg 8 (.ite (.ite (.n (.bin .neq 2 (.t 10) (.t 13)) (.cons 10 (.n (.len 10 (.t 9)) (.cons 9 (.n (.load 10 (.t 8)) (.cons 8 (.n (.faddr 0 (.t 2) 0) (.cons 2 (.v 2) .nil)) .nil)) .nil)) (.cons 13 (.n (.len 10 (.t 12)) (.cons 12 (.n (.load 10 (.t 11)) (.cons 11 (.n (.faddr 0 (.t 3) 0) (.cons 3 (.v 3) .nil)) .nil)) .nil)) .nil))) (.c (.bool true)) (.n (.bin .neq 2 (.t 18) (.t 21)) (.cons 18 (.n (.len 9 (.t 17)) (.cons 17 (.n (.load 9 (.t 16)) (.cons 16 (.n (.faddr 0 (.t 2) 1) (.cons 2 (.v 2) .nil)) .nil)) .nil)) (.cons 21 (.n (.len 9 (.t 20)) (.cons 20 (.n (.load 9 (.t 19)) (.cons 19 (.n (.faddr 0 (.t 3) 1) (.cons 3 (.v 3) .nil)) .nil)) .nil)) .nil)))) (.c (.bool true)) (.n (.bin .neq 2 (.t 27) (.t 30)) (.cons 27 (.n (.len 14 (.t 26)) (.cons 26 (.n (.load 14 (.t 25)) (.cons 25 (.n (.faddr 0 (.t 2) 2) (.cons 2 (.v 2) .nil)) .nil)) .nil)) (.cons 30 (.n (.len 14 (.t 29)) (.cons 29 (.n (.load 14 (.t 28)) (.cons 28 (.n (.faddr 0 (.t 3) 2) (.cons 3 (.v 3) .nil)) .nil)) .nil)) .nil))))])
   (.cond 8 (.seq (.run 0 [.asg 4 (.c (.bool false))])
     (.ret)) (.skip)))
  (.seq (.seq (.run 0 [.asg 5 (.c (.int .i64 0))])
   (.block 0 (.loop (
       .seq (.seq (.run 0 [.asg 9 (.n (.bin .lss 2 (.t 33) (.t 36)) (.cons 33 (.v 5) (.cons 36 (.n (.len 10 (.t 35)) (.cons 35 (.n (.load 10 (.t 34)) (.cons 34 (.n (.faddr 0 (.t 2) 0) (.cons 2 (.v 2) .nil)) .nil)) .nil)) .nil)))])
        (.cond 9 (.skip) (.exit 0)))
       (.seq (.block 1 (.seq (.run 11 [.asg 10 (.n (.bin .neq 20 (.t 44) (.t 49)) (.cons 44 (.n (.load 20 (.t 43)) (.cons 43 (.n (.iaddr 10 (.t 41) (.t 42)) (.cons 41 (.n (.load 10 (.t 40)) (.cons 40 (.n (.faddr 0 (.t 2) 0) (.cons 2 (.v 2) .nil)) .nil)) (.cons 42 (.v 5) .nil))) .nil)) (.cons 49 (.n (.load 20 (.t 48)) (.cons 48 (.n (.iaddr 10 (.t 46) (.t 47)) (.cons 46 (.n (.load 10 (.t 45)) (.cons 45 (.n (.faddr 0 (.t 3) 0) (.cons 3 (.v 3) .nil)) .nil)) (.cons 47 (.v 5) .nil))) .nil)) .nil)))])
          (.cond 10 (.seq (.run 0 [.asg 4 (.c (.bool false))])
            (.ret)) (.skip))))
       (.run 0 [.asg 5 (.n (.bin .add 2 (.t 38) (.c (.int .i64 1))) (.cons 38 (.v 5) .nil))]))))))
  (.seq (.seq (.run 0 [.asg 6 (.c (.int .i64 0))])
   (.block 2 (.loop (
       .seq (.seq (.run 0 [.asg 11 (.n (.bin .lss 2 (.t 51) (.t 54)) (.cons 51 (.v 6) (.cons 54 (.n (.len 9 (.t 53)) (.cons 53 (.n (.load 9 (.t 52)) (.cons 52 (.n (.faddr 0 (.t 2) 1) (.cons 2 (.v 2) .nil)) .nil)) .nil)) .nil)))])
        (.cond 11 (.skip) (.exit 2)))
       (.seq (.block 3 (.seq (.run 12 [.asg 12 (.n (.un .not (.t 68)) (.cons 68 (.n (.call 0 (.f 20) [(.t 62), (.t 67)]) (.cons 62 (.n (.load 6 (.t 61)) (.cons 61 (.n (.iaddr 9 (.t 59) (.t 60)) (.cons 59 (.n (.load 9 (.t 58)) (.cons 58 (.n (.faddr 0 (.t 2) 1) (.cons 2 (.v 2) .nil)) .nil)) (.cons 60 (.v 6) .nil))) .nil)) (.cons 67 (.n (.load 6 (.t 66)) (.cons 66 (.n (.iaddr 9 (.t 64) (.t 65)) (.cons 64 (.n (.load 9 (.t 63)) (.cons 63 (.n (.faddr 0 (.t 3) 1) (.cons 3 (.v 3) .nil)) .nil)) (.cons 65 (.v 6) .nil))) .nil)) .nil))) .nil))])
          (.cond 12 (.seq (.run 0 [.asg 4 (.c (.bool false))])
            (.ret)) (.skip))))
       (.run 0 [.asg 6 (.n (.bin .add 2 (.t 56) (.c (.int .i64 1))) (.cons 56 (.v 6) .nil))]))))))
  (.seq (.seq (.run 0 [.asg 7 (.c (.int .i64 0))])
   (.block 4 (.loop (
       .seq (.seq (.run 0 [.asg 13 (.n (.bin .lss 2 (.t 70) (.t 73)) (.cons 70 (.v 7) (.cons 73 (.n (.len 14 (.t 72)) (.cons 72 (.n (.load 14 (.t 71)) (.cons 71 (.n (.faddr 0 (.t 2) 2) (.cons 2 (.v 2) .nil)) .nil)) .nil)) .nil)))])
        (.cond 13 (.skip) (.exit 4)))
       (.seq (.block 5 (.seq (.run 12 [.asg 14 (.n (.un .not (.t 87)) (.cons 87 (.n (.call 0 (.f 196) [(.t 81), (.t 86)]) (.cons 81 (.n (.load 15 (.t 80)) (.cons 80 (.n (.iaddr 14 (.t 78) (.t 79)) (.cons 78 (.n (.load 14 (.t 77)) (.cons 77 (.n (.faddr 0 (.t 2) 2) (.cons 2 (.v 2) .nil)) .nil)) (.cons 79 (.v 7) .nil))) .nil)) (.cons 86 (.n (.load 15 (.t 85)) (.cons 85 (.n (.iaddr 14 (.t 83) (.t 84)) (.cons 83 (.n (.load 14 (.t 82)) (.cons 82 (.n (.faddr 0 (.t 3) 2) (.cons 3 (.v 3) .nil)) .nil)) (.cons 84 (.v 7) .nil))) .nil)) .nil))) .nil))])
          (.cond 14 (.seq (.run 0 [.asg 4 (.c (.bool false))])
            (.ret)) (.skip))))
       (.run 0 [.asg 7 (.n (.bin .add 2 (.t 75) (.c (.int .i64 1))) (.cons 75 (.v 7) .nil))]))))))
  (.seq (.run 0 [.asg 4 (.c (.bool true))])
  (.ret))))))
theorem c188 : TF E 188 n188 [(4, none)] t188 89 := tf_of (F := f188) rfl (by kernel_rfl) (by decide)

def n189 : List Nat := [0, 1, 2, 3, 4, 8, 9, 10, 11, 12, 13, 14, 15, 16, 17, 18, 19, 20, 22, 32, 47, 49, 50, 57, 64, 69, 74]
def t189 : TC := .seq (.run 0 [.eff none (some 4) (.box 0 (.t 0)) (.cons 0 (.v 0) .nil) none,
     .asg 5 (.c (.bool false))])
  (.seq (.seq (.run 0 [.asg 18 (.n (.un .not (.t 21)) (.cons 21 (.n (.call 0 (.f 178) []) .nil) .nil))])
   (.cond 18 (.seq (.run 0 [.asg 5 (.c (.bool false))])
     (.ret)) (.skip)))
  (.seq (.seq (.run 0 [.asg 19 (.ite (.n (.un .not (.t 25)) (.cons 25 (.n (.call 0 (.f 179) [(.t 23), (.t 24)]) (.cons 23 (.n (.load 0 (.t 4)) (.cons 4 (.v 4) .nil)) (.cons 24 (.v 1) .nil))) .nil)) (.c (.bool true)) (.n (.bin .neq 3 (.t 30) (.c (.int .i64 0))) (.cons 30 (.n (.call 0 (.f 181) [(.t 28), (.t 29)]) (.cons 28 (.n (.load 0 (.t 4)) (.cons 4 (.v 4) .nil)) (.cons 29 (.v 1) .nil))) .nil)))])
   (.cond 19 (.seq (.run 0 [.asg 5 (.c (.bool true))])
     (.ret)) (.skip)))
  (.seq (.run 14 [.asg 6 (.n (.bin .rem 2 (.t 34) (.t 37)) (.cons 34 (.n (.conv 13 2 (.t 33)) (.cons 33 (.v 2) .nil)) (.cons 37 (.n (.bin .add 2 (.t 36) (.c (.int .i64 1))) (.cons 36 (.n (.len 38 (.t 35)) (.cons 35 (.v 1) .nil)) .nil)) .nil))),
     .asg 7 (.n (.bin .rem 2 (.t 40) (.t 43)) (.cons 40 (.n (.conv 13 2 (.t 39)) (.cons 39 (.v 3) .nil)) (.cons 43 (.n (.bin .add 2 (.t 42) (.c (.int .i64 1))) (.cons 42 (.n (.len 38 (.t 41)) (.cons 41 (.v 1) .nil)) .nil)) .nil)))])
  (.seq (.seq (.run 0 [.asg 20 (.n (.bin .gtr 2 (.t 45) (.t 46)) (.cons 45 (.v 6) (.cons 46 (.v 7) .nil)))])
   (.cond 20 (.run 0 [.asg 21 (.v 6),
       .asg 6 (.v 7),
       .asg 7 (.v 21)]) (.skip)))
  (.seq (.run 0 [.asg 22 (.n (.call 0 (.f 183) [(.t 51), (.t 52), (.t 53)]) (.cons 51 (.n (.load 0 (.t 4)) (.cons 4 (.v 4) .nil)) (.cons 52 (.v 1) (.cons 53 (.v 6) .nil)))),
     .eff none (some 8) (.alloc 0) .nil none,
     .eff none none (.store 0 (.t 11) (.t 55)) (.cons 11 (.v 8) (.cons 55 (.n (.extract (.t 50) 0) (.cons 50 (.v 22) .nil)) .nil)) none,
     .asg 9 (.n (.extract (.t 50) 1) (.cons 50 (.v 22) .nil))])
  (.seq (.run 0 [.asg 23 (.n (.call 0 (.f 183) [(.t 58), (.t 59), (.t 60)]) (.cons 58 (.n (.load 0 (.t 4)) (.cons 4 (.v 4) .nil)) (.cons 59 (.v 1) (.cons 60 (.v 7) .nil)))),
     .eff none (some 10) (.alloc 0) .nil none,
     .eff none none (.store 0 (.t 13) (.t 62)) (.cons 13 (.v 10) (.cons 62 (.n (.extract (.t 57) 0) (.cons 57 (.v 23) .nil)) .nil)) none,
     .asg 11 (.n (.extract (.t 57) 1) (.cons 57 (.v 23) .nil))])
  (.seq (.run 0 [.asg 24 (.n (.call 0 (.f 131) [(.t 65)]) (.cons 65 (.n (.load 0 (.t 11)) (.cons 11 (.v 8) .nil)) .nil)),
     .eff none (some 12) (.alloc 29) .nil none,
     .eff none none (.store 29 (.t 15) (.t 67)) (.cons 15 (.v 12) (.cons 67 (.n (.extract (.t 64) 0) (.cons 64 (.v 24) .nil)) .nil)) none,
     .asg 13 (.n (.extract (.t 64) 1) (.cons 64 (.v 24) .nil))])
  (.seq (.run 0 [.asg 25 (.n (.call 0 (.f 131) [(.t 70)]) (.cons 70 (.n (.load 0 (.t 13)) (.cons 13 (.v 10) .nil)) .nil)),
     .eff none (some 14) (.alloc 29) .nil none,
     .eff none none (.store 29 (.t 17) (.t 72)) (.cons 17 (.v 14) (.cons 72 (.n (.extract (.t 69) 0) (.cons 69 (.v 25) .nil)) .nil)) none,
     .asg 15 (.n (.extract (.t 69) 1) (.cons 69 (.v 25) .nil))])
  (.seq (.run 0 [.asg 26 (.n (.call 0 (.f 30) [(.t 76), (.t 78)]) (.cons 76 (.n (.load 6 (.t 75)) (.cons 75 (.n (.faddr 29 (.t 15) 1) (.cons 15 (.v 12) .nil)) .nil)) (.cons 78 (.n (.load 6 (.t 77)) (.cons 77 (.n (.faddr 29 (.t 17) 1) (.cons 17 (.v 14) .nil)) .nil)) .nil))),
     .asg 16 (.n (.extract (.t 74) 0) (.cons 74 (.v 26) .nil)),
     .asg 17 (.n (.extract (.t 74) 1) (.cons 74 (.v 26) .nil))])
  (.seq (.run 34 [.asg 5 (.ite (.ite (.ite (.ite (.ite (.ite (.n (.bin .eql 3 (.t 82) (.c (.int .i64 0))) (.cons 82 (.v 9) .nil)) (.n (.bin .eql 3 (.t 85) (.c (.int .i64 0))) (.cons 85 (.v 11) .nil)) (.c (.bool false))) (.n (.bin .eql 3 (.t 89) (.c (.int .i64 0))) (.cons 89 (.v 13) .nil)) (.c (.bool false))) (.n (.bin .eql 3 (.t 93) (.c (.int .i64 0))) (.cons 93 (.v 15) .nil)) (.c (.bool false))) (.n (.bin .eql 3 (.t 97) (.c (.int .i64 0))) (.cons 97 (.v 17) .nil)) (.c (.bool false))) (.n (.bin .leq 2 (.t 101) (.c (.int .i64 0))) (.cons 101 (.v 16) .nil)) (.c (.bool false))) (.n (.bin .leq 2 (.t 108) (.t 112)) (.cons 108 (.n (.load 2 (.t 107)) (.cons 107 (.n (.iaddr 6 (.t 106) (.c (.int .i64 0))) (.cons 106 (.n (.load 6 (.t 105)) (.cons 105 (.n (.faddr 29 (.t 15) 1) (.cons 15 (.v 12) .nil)) .nil)) .nil)) .nil)) (.cons 112 (.n (.load 2 (.t 111)) (.cons 111 (.n (.iaddr 6 (.t 110) (.c (.int .i64 0))) (.cons 110 (.n (.load 6 (.t 109)) (.cons 109 (.n (.faddr 29 (.t 17) 1) (.cons 17 (.v 14) .nil)) .nil)) .nil)) .nil)) .nil))) (.c (.bool false)))])
  (.ret)))))))))))
theorem c189 : TF E 189 n189 [(5, none)] t189 115 := tf_of (F := f189) rfl (by kernel_rfl) (by decide)

def n191 : List Nat := [0, 1, 2, 3, 6, 7, 8, 9, 10, 11, 20, 32]
def t191 : TC := .seq (.seq (.run 0 [.asg 6 (.v 1),
      .asg 7 (.n (.len 6 (.t 8)) (.cons 8 (.v 6) .nil)),
      .asg 8 (.c (.int .i64 0))])
   (.block 0 (.loop (
       .seq (.run 0 [.asg 9 (.n (.bin .lss 2 (.t 10) (.t 9)) (.cons 10 (.v 8) (.cons 9 (.v 7) .nil)))])
       (.seq (.cond 9 (.skip) (.exit 0))
       (.seq (.block 1 (.seq (.run 0 [.asg 4 (.v 8),
             .asg 5 (.n (.load 2 (.t 13)) (.cons 13 (.n (.iaddr 6 (.t 8) (.t 10)) (.cons 8 (.v 6) (.cons 10 (.v 8) .nil))) .nil))])
          (.seq (.run 0 [.asg 10 (.n (.bin .neq 2 (.t 15) (.t 19)) (.cons 15 (.v 5) (.cons 19 (.n (.load 2 (.t 18)) (.cons 18 (.n (.iaddr 6 (.t 16) (.t 17)) (.cons 16 (.n (.load 6 (.t 2)) (.cons 2 (.v 2) .nil)) (.cons 17 (.v 4) .nil))) .nil)) .nil)))])
          (.cond 10 (.run 13 [.eff none (some 11) (.append 0 36 36 (.t 21) (.t 31)) (.cons 21 (.n (.load 36 (.t 3)) (.cons 3 (.v 3) .nil)) (.cons 31 (.n (.bslice false 36 1 [(0, (.t 30))]) (.cons 30 (.n (.build 37 [(0, (.t 22)), (1, (.t 23)), (2, (.t 29))]) (.cons 22 (.v 0) (.cons 23 (.v 4) (.cons 29 (.n (.bin .sub 2 (.t 24) (.t 28)) (.cons 24 (.v 5) (.cons 28 (.n (.load 2 (.t 27)) (.cons 27 (.n (.iaddr 6 (.t 25) (.t 26)) (.cons 25 (.n (.load 6 (.t 2)) (.cons 2 (.v 2) .nil)) (.cons 26 (.v 4) .nil))) .nil)) .nil))) .nil)))) .nil)) .nil)) (some 11),
              .eff none none (.store 36 (.t 3) (.t 32)) (.cons 3 (.v 3) (.cons 32 (.v 11) .nil)) (some 12)]) (.skip)))))
       (.run 0 [.asg 8 (.n (.bin .add 2 (.t 10) (.c (.int .i64 1))) (.cons 10 (.v 8) .nil))])))))))
  (.run 0 [.eff none none (.store 6 (.t 2) (.t 34)) (.cons 2 (.v 2) (.cons 34 (.v 1) .nil)) none])
theorem c191 : TF E 191 n191 [] t191 35 := tf_of (F := f191) rfl (by kernel_rfl) (by decide)

def n192 : List Nat := [0, 1, 2, 3, 4]
def t192 : TC := .seq (.run 0 [.eff none (some 2) (.box 0 (.t 0)) (.cons 0 (.v 0) .nil) none,
     .eff none (some 3) (.box 38 (.t 1)) (.cons 1 (.v 1) .nil) none,
     .asg 4 (.c .nilfn)])
  (.seq (.run 0 [.asg 4 (.n (.mkfn 198 [(.t 3), (.t 2)]) (.cons 3 (.v 3) (.cons 2 (.v 2) .nil)))])
  (.ret))
theorem c192 : TF E 192 n192 [(4, none)] t192 6 := tf_of (F := f192) rfl (by kernel_rfl) (by decide)

def n193 : List Nat := [0, 1, 2, 3]
def t193 : TC := .seq (.run 0 [.eff none (some 2) (.box 39 (.t 0)) (.cons 0 (.v 0) .nil) none,
     .asg 3 (.c (.bool false))])
  (.seq (.run 0 [.asg 3 (.ite (.ite (.ite (.n (.bin .lss 2 (.t 5) (.c (.int .i64 0))) (.cons 5 (.n (.load 2 (.t 4)) (.cons 4 (.n (.faddr 39 (.t 2) 0) (.cons 2 (.v 2) .nil)) .nil)) .nil)) (.c (.bool true)) (.n (.bin .gtr 2 (.t 9) (.c (.int .i64 1048576))) (.cons 9 (.n (.load 2 (.t 8)) (.cons 8 (.n (.faddr 39 (.t 2) 0) (.cons 2 (.v 2) .nil)) .nil)) .nil))) (.c (.bool true)) (.n (.bin .neq 2 (.t 15) (.t 18)) (.cons 15 (.n (.len 9 (.t 14)) (.cons 14 (.n (.load 9 (.t 13)) (.cons 13 (.n (.faddr 39 (.t 2) 1) (.cons 2 (.v 2) .nil)) .nil)) .nil)) (.cons 18 (.n (.len 9 (.t 17)) (.cons 17 (.n (.load 9 (.t 16)) (.cons 16 (.n (.faddr 0 (.t 1) 1) (.cons 1 (.v 1) .nil)) .nil)) .nil)) .nil)))) (.c (.bool true)) (.n (.call 0 (.f 94) [(.t 23), (.t 24)]) (.cons 23 (.n (.load 9 (.t 22)) (.cons 22 (.n (.faddr 39 (.t 2) 1) (.cons 2 (.v 2) .nil)) .nil)) (.cons 24 (.n (.mkfn 199 [(.t 1)]) (.cons 1 (.v 1) .nil)) .nil))))])
  (.ret))
theorem c193 : TF E 193 n193 [(3, none)] t193 27 := tf_of (F := f193) rfl (by kernel_rfl) (by decide)

def n194 : List Nat := [0, 1, 4]
def t194 : TC := .seq (.run 0 [.asg 2 (.c (.bool false))])
  (.seq (.run 0 [.asg 2 (.n (.bin .geq 2 (.t 7) (.c (.int .i64 0))) (.cons 7 (.n (.call 0 (.f 201) [(.t 5), (.t 6)]) (.cons 5 (.v 0) (.cons 6 (.v 1) .nil))) .nil))])
  (.ret))
theorem c194 : TF E 194 n194 [(2, none)] t194 9 := tf_of (F := f194) rfl (by kernel_rfl) (by decide)

def n195 : List Nat := [0, 1, 2, 3, 6, 7, 8, 9, 10, 12, 17, 19, 20, 21, 22, 30, 31, 32, 33, 35, 43, 50]
def t195 : TC := .seq (.run 0 [.eff none (some 3) (.box 0 (.t 0)) (.cons 0 (.v 0) .nil) none,
     .eff none (some 4) (.alloc 0) .nil none])
  (.seq (.run 0 [.asg 10 (.n (.build 0 [(0, (.t 14)), (2, (.t 16))]) (.cons 14 (.n (.load 10 (.t 13)) (.cons 13 (.n (.faddr 0 (.t 3) 0) (.cons 3 (.v 3) .nil)) .nil)) (.cons 16 (.n (.load 14 (.t 15)) (.cons 15 (.n (.faddr 0 (.t 3) 2) (.cons 3 (.v 3) .nil)) .nil)) .nil))),
     .eff none (some 5) (.alloc 0) .nil none,
     .eff none none (.store 0 (.t 7) (.t 17)) (.cons 7 (.v 5) (.cons 17 (.v 10) .nil)) none])
  (.seq (.seq (.run 0 [.asg 11 (.n (.load 9 (.t 18)) (.cons 18 (.n (.faddr 0 (.t 3) 1) (.cons 3 (.v 3) .nil)) .nil)),
      .asg 12 (.n (.len 9 (.t 19)) (.cons 19 (.v 11) .nil)),
      .asg 13 (.c (.int .i64 0))])
   (.block 0 (.loop (
       .seq (.run 0 [.asg 14 (.n (.bin .lss 2 (.t 21) (.t 20)) (.cons 21 (.v 13) (.cons 20 (.v 12) .nil)))])
       (.seq (.cond 14 (.skip) (.exit 0))
       (.seq (.block 1 (.seq (.run 0 [.asg 6 (.v 13),
             .asg 7 (.n (.load 6 (.t 24)) (.cons 24 (.n (.iaddr 9 (.t 19) (.t 21)) (.cons 19 (.v 11) (.cons 21 (.v 13) .nil))) .nil))])
          (.seq (.run 0 [.asg 8 (.n (.bslice false 9 1 [(0, (.t 26))]) (.cons 26 (.v 7) .nil))])
          (.seq (.seq (.run 0 [.asg 15 (.n (.slice 38 (.t 28) (some (.t 29)) none none) (.cons 28 (.v 1) (.cons 29 (.v 2) .nil))),
              .asg 16 (.n (.len 38 (.t 30)) (.cons 30 (.v 15) .nil)),
              .asg 17 (.c (.int .i64 0))])
           (.block 2 (.loop (
               .seq (.run 0 [.asg 18 (.n (.bin .lss 2 (.t 32) (.t 31)) (.cons 32 (.v 17) (.cons 31 (.v 16) .nil)))])
               (.seq (.cond 18 (.skip) (.exit 2))
               (.seq (.block 3 (.seq (.run 0 [.asg 19 (.n (.load 39 (.t 34)) (.cons 34 (.n (.iaddr 38 (.t 30) (.t 32)) (.cons 30 (.v 15) (.cons 32 (.v 17) .nil))) .nil)),
                     .eff none (some 9) (.alloc 39) .nil none,
                     .eff none none (.store 39 (.t 12) (.t 35)) (.cons 12 (.v 9) (.cons 35 (.v 19) .nil)) none])
                  (.run 0 [.eff none (some 20) (.append 0 9 9 (.t 36) (.t 42)) (.cons 36 (.v 8) (.cons 42 (.n (.bslice false 9 1 [(0, (.t 41))]) (.cons 41 (.n (.load 6 (.t 40)) (.cons 40 (.n (.iaddr 9 (.t 38) (.t 39)) (.cons 38 (.n (.load 9 (.t 37)) (.cons 37 (.n (.faddr 39 (.t 12) 1) (.cons 12 (.v 9) .nil)) .nil)) (.cons 39 (.v 6) .nil))) .nil)) .nil)) .nil)) none,
                    .asg 8 (.v 20)])))
               (.run 0 [.asg 17 (.n (.bin .add 2 (.t 32) (.c (.int .i64 1))) (.cons 32 (.v 17) .nil))])))))))
          (.run 8 [.eff none (some 21) (.append 0 9 9 (.t 46) (.t 49)) (.cons 46 (.n (.load 9 (.t 45)) (.cons 45 (.n (.faddr 0 (.t 7) 1) (.cons 7 (.v 5) .nil)) .nil)) (.cons 49 (.n (.bslice false 9 1 [(0, (.t 48))]) (.cons 48 (.n (.call 0 (.f 202) [(.t 47)]) (.cons 47 (.v 8) .nil)) .nil)) .nil)) (some 5),
            .eff none none (.store 9 (.t 51) (.t 50)) (.cons 51 (.n (.faddr 0 (.t 7) 1) (.cons 7 (.v 5) .nil)) (.cons 50 (.v 21) .nil)) (some 7)])))))
       (.run 0 [.asg 13 (.n (.bin .add 2 (.t 21) (.c (.int .i64 1))) (.cons 21 (.v 13) .nil))])))))))
  (.seq (.run 0 [.eff none none (.store 0 (.t 6) (.t 53)) (.cons 6 (.v 4) (.cons 53 (.n (.load 0 (.t 7)) (.cons 7 (.v 5) .nil)) .nil)) none])
  (.ret))))
theorem c195 : TF E 195 n195 [(4, some 0)] t195 54 := tf_of (F := f195) rfl (by kernel_rfl) (by decide)

def n196 : List Nat := [0, 1, 2, 3, 4, 5, 6, 7, 8, 37, 42, 49, 54, 82, 87, 100]
def t196 : TC := .seq (.run 0 [.eff none (some 2) (.box 15 (.t 0)) (.cons 0 (.v 0) .nil) none,
     .eff none (some 3) (.box 15 (.t 1)) (.cons 1 (.v 1) .nil) none,
     .asg 4 (.c (.bool false))])
  (.seq (.seq (.run 0 [.asg 9 (.ite (.ite (.ite (.n (.bin .neq 2 (.t 10) (.t 12)) (.cons 10 (.n (.load 2 (.t 9)) (.cons 9 (.n (.faddr 15 (.t 2) 0) (.cons 2 (.v 2) .nil)) .nil)) (.cons 12 (.n (.load 2 (.t 11)) (.cons 11 (.n (.faddr 15 (.t 3) 0) (.cons 3 (.v 3) .nil)) .nil)) .nil))) (.c (.bool true)) (.n (.bin .neq 2 (.t 16) (.t 18)) (.cons 16 (.n (.load 2 (.t 15)) (.cons 15 (.n (.faddr 15 (.t 2) 1) (.cons 2 (.v 2) .nil)) .nil)) (.cons 18 (.n (.load 2 (.t 17)) (.cons 17 (.n (.faddr 15 (.t 3) 1) (.cons 3 (.v 3) .nil)) .nil)) .nil)))) (.c (.bool true)) (.n (.un .not (.t 26)) (.cons 26 (.n (.call 0 (.f 20) [(.t 23), (.t 25)]) (.cons 23 (.n (.load 6 (.t 22)) (.cons 22 (.n (.faddr 15 (.t 2) 2) (.cons 2 (.v 2) .nil)) .nil)) (.cons 25 (.n (.load 6 (.t 24)) (.cons 24 (.n (.faddr 15 (.t 3) 2) (.cons 3 (.v 3) .nil)) .nil)) .nil))) .nil))) (.c (.bool true)) (.n (.bin .neq 2 (.t 32) (.t 35)) (.cons 32 (.n (.len 16 (.t 31)) (.cons 31 (.n (.load 16 (.t 30)) (.cons 30 (.n (.faddr 15 (.t 2) 3) (.cons 2 (.v 2) .nil)) .nil)) .nil)) (.cons 35 (.n (.len 16 (.t 34)) (.cons 34 (.n (.load 16 (.t 33)) (.cons 33 (.n (.faddr 15 (.t 3) 3) (.cons 3 (.v 3) .nil)) .nil)) .nil)) .nil))))])
   (.cond 9 (.seq (.run 0 [.asg 4 (.c (.bool false))])
     (.ret)) (.skip)))
  (.seq (.seq (.run 0 [.asg 5 (.c (.int .i64 0))])
   (.block 0 (.loop (
       .seq (.seq (.run 0 [.asg 10 (.n (.bin .lss 2 (.t 38) (.t 41)) (.cons 38 (.v 5) (.cons 41 (.n (.len 16 (.t 40)) (.cons 40 (.n (.load 16 (.t 39)) (.cons 39 (.n (.faddr 15 (.t 2) 3) (.cons 2 (.v 2) .nil)) .nil)) .nil)) .nil)))])
        (.cond 10 (.skip) (.exit 0)))
       (.seq (.block 1 (.seq (.run 0 [.asg 11 (.n (.load 17 (.t 48)) (.cons 48 (.n (.iaddr 16 (.t 46) (.t 47)) (.cons 46 (.n (.load 16 (.t 45)) (.cons 45 (.n (.faddr 15 (.t 2) 3) (.cons 2 (.v 2) .nil)) .nil)) (.cons 47 (.v 5) .nil))) .nil)),
             .eff none (some 6) (.alloc 17) .nil none,
             .eff none none (.store 17 (.t 6) (.t 49)) (.cons 6 (.v 6) (.cons 49 (.v 11) .nil)) none])
          (.seq (.run 0 [.asg 12 (.n (.load 17 (.t 53)) (.cons 53 (.n (.iaddr 16 (.t 51) (.t 52)) (.cons 51 (.n (.load 16 (.t 50)) (.cons 50 (.n (.faddr 15 (.t 3) 3) (.cons 3 (.v 3) .nil)) .nil)) (.cons 52 (.v 5) .nil))) .nil)),
             .eff none (some 7) (.alloc 17) .nil none,
             .eff none none (.store 17 (.t 7) (.t 54)) (.cons 7 (.v 7) (.cons 54 (.v 12) .nil)) none])
          (.seq (.seq (.run 0 [.asg 13 (.ite (.ite (.ite (.n (.bin .neq 2 (.t 56) (.t 58)) (.cons 56 (.n (.load 2 (.t 55)) (.cons 55 (.n (.faddr 17 (.t 6) 0) (.cons 6 (.v 6) .nil)) .nil)) (.cons 58 (.n (.load 2 (.t 57)) (.cons 57 (.n (.faddr 17 (.t 7) 0) (.cons 7 (.v 7) .nil)) .nil)) .nil))) (.c (.bool true)) (.n (.bin .neq 2 (.t 62) (.t 64)) (.cons 62 (.n (.load 2 (.t 61)) (.cons 61 (.n (.faddr 17 (.t 6) 1) (.cons 6 (.v 6) .nil)) .nil)) (.cons 64 (.n (.load 2 (.t 63)) (.cons 63 (.n (.faddr 17 (.t 7) 1) (.cons 7 (.v 7) .nil)) .nil)) .nil)))) (.c (.bool true)) (.n (.bin .neq 2 (.t 69) (.t 71)) (.cons 69 (.n (.load 2 (.t 68)) (.cons 68 (.n (.faddr 17 (.t 6) 2) (.cons 6 (.v 6) .nil)) .nil)) (.cons 71 (.n (.load 2 (.t 70)) (.cons 70 (.n (.faddr 17 (.t 7) 2) (.cons 7 (.v 7) .nil)) .nil)) .nil)))) (.c (.bool true)) (.n (.bin .neq 2 (.t 77) (.t 80)) (.cons 77 (.n (.len 18 (.t 76)) (.cons 76 (.n (.load 18 (.t 75)) (.cons 75 (.n (.faddr 17 (.t 6) 3) (.cons 6 (.v 6) .nil)) .nil)) .nil)) (.cons 80 (.n (.len 18 (.t 79)) (.cons 79 (.n (.load 18 (.t 78)) (.cons 78 (.n (.faddr 17 (.t 7) 3) (.cons 7 (.v 7) .nil)) .nil)) .nil)) .nil))))])
           (.cond 13 (.seq (.run 0 [.asg 4 (.c (.bool false))])
             (.ret)) (.skip)))
          (.seq (.run 0 [.asg 8 (.c (.int .i64 0))])
          (.block 2 (.loop (
              .seq (.seq (.run 0 [.asg 14 (.n (.bin .lss 2 (.t 83) (.t 86)) (.cons 83 (.v 8) (.cons 86 (.n (.len 18 (.t 85)) (.cons 85 (.n (.load 18 (.t 84)) (.cons 84 (.n (.faddr 17 (.t 6) 3) (.cons 6 (.v 6) .nil)) .nil)) .nil)) .nil)))])
               (.cond 14 (.skip) (.exit 2)))
              (.seq (.block 3 (.seq (.run 11 [.asg 15 (.n (.bin .neq 19 (.t 94) (.t 99)) (.cons 94 (.n (.load 19 (.t 93)) (.cons 93 (.n (.iaddr 18 (.t 91) (.t 92)) (.cons 91 (.n (.load 18 (.t 90)) (.cons 90 (.n (.faddr 17 (.t 6) 3) (.cons 6 (.v 6) .nil)) .nil)) (.cons 92 (.v 8) .nil))) .nil)) (.cons 99 (.n (.load 19 (.t 98)) (.cons 98 (.n (.iaddr 18 (.t 96) (.t 97)) (.cons 96 (.n (.load 18 (.t 95)) (.cons 95 (.n (.faddr 17 (.t 7) 3) (.cons 7 (.v 7) .nil)) .nil)) (.cons 97 (.v 8) .nil))) .nil)) .nil)))])
                 (.cond 15 (.seq (.run 0 [.asg 4 (.c (.bool false))])
                   (.ret)) (.skip))))
              (.run 0 [.asg 8 (.n (.bin .add 2 (.t 88) (.c (.int .i64 1))) (.cons 88 (.v 8) .nil))]))))))))))
       (.run 0 [.asg 5 (.n (.bin .add 2 (.t 43) (.c (.int .i64 1))) (.cons 43 (.v 5) .nil))]))))))
  (.seq (.run 0 [.asg 4 (.c (.bool true))])
  (.ret))))
theorem c196 : TF E 196 n196 [(4, none)] t196 101 := tf_of (F := f196) rfl (by kernel_rfl) (by decide)

def n198 : List Nat := [0, 1, 2, 4, 7, 8, 9, 18, 19]
def t198 : TC := .seq (.run 0 [.asg 4 (.n (.bin .add 2 (.t 6) (.c (.int .i64 1))) (.cons 6 (.n (.len 38 (.t 5)) (.cons 5 (.n (.load 38 (.t 1)) (.cons 1 (.v 1) .nil)) .nil)) .nil)),
     .asg 5 (.c (.int .i64 0))])
  (.block 0 (.loop (
      .seq (.run 0 [.asg 6 (.n (.bin .lss 2 (.t 8) (.t 7)) (.cons 8 (.v 5) (.cons 7 (.v 4) .nil)))])
      (.seq (.cond 6 (.skip) (.exit 0))
      (.seq (.block 1 (.seq (.run 0 [.asg 3 (.v 5)])
         (.seq (.run 0 [.eff none (some 7) (.call 2 (.t 11) [(.t 13), (.t 17)]) (.cons 11 (.v 0) (.cons 13 (.n (.bin .sub 2 (.t 12) (.c (.int .i64 1))) (.cons 12 (.v 3) .nil)) (.cons 17 (.n (.call 0 (.f 195) [(.t 14), (.t 15), (.t 16)]) (.cons 14 (.n (.load 0 (.t 2)) (.cons 2 (.v 2) .nil)) (.cons 15 (.n (.load 38 (.t 1)) (.cons 1 (.v 1) .nil)) (.cons 16 (.v 3) .nil)))) .nil))) none,
            .asg 8 (.n (.un .not (.t 18)) (.cons 18 (.v 7) .nil))])
         (.cond 8 (.ret) (.skip)))))
      (.run 0 [.asg 5 (.n (.bin .add 2 (.t 8) (.c (.int .i64 1))) (.cons 8 (.v 5) .nil))]))))))
theorem c198 : TF E 198 n198 [] t198 21 := tf_of (F := f198) rfl (by kernel_rfl) (by decide)

def n199 : List Nat := [0, 1, 3]
def t199 : TC := .seq (.run 0 [.asg 2 (.c (.bool false))])
  (.seq (.run 0 [.asg 2 (.ite (.n (.bin .neq 2 (.t 5) (.t 8)) (.cons 5 (.n (.len 6 (.t 4)) (.cons 4 (.v 0) .nil)) (.cons 8 (.n (.len 10 (.t 7)) (.cons 7 (.n (.load 10 (.t 6)) (.cons 6 (.n (.faddr 0 (.t 1) 0) (.cons 1 (.v 1) .nil)) .nil)) .nil)) .nil))) (.c (.bool true)) (.n (.call 0 (.f 71) [(.t 11), (.f 200)]) (.cons 11 (.v 0) .nil)))])
  (.ret))
theorem c199 : TF E 199 n199 [(2, none)] t199 14 := tf_of (F := f199) rfl (by kernel_rfl) (by decide)

def n200 : List Nat := [0, 2]
def t200 : TC := .seq (.run 0 [.asg 1 (.c (.bool false))])
  (.seq (.run 0 [.asg 1 (.ite (.n (.bin .lss 2 (.t 3) (.c (.int .i64 0))) (.cons 3 (.v 0) .nil)) (.c (.bool true)) (.n (.bin .gtr 2 (.t 6) (.c (.int .i64 4096))) (.cons 6 (.v 0) .nil)))])
  (.ret))
theorem c200 : TF E 200 n200 [(1, none)] t200 9 := tf_of (F := f200) rfl (by kernel_rfl) (by decide)

def n201 : List Nat := [0, 1, 4, 5, 7, 8, 9, 16]
def t201 : TC := .seq (.run 0 [.asg 2 (.c (.int .i64 0))])
  (.seq (.seq (.run 0 [.asg 4 (.n (.len 38 (.t 6)) (.cons 6 (.v 0) .nil)),
      .asg 5 (.c (.int .i64 0))])
   (.block 0 (.loop (
       .seq (.run 0 [.asg 6 (.n (.bin .lss 2 (.t 8) (.t 7)) (.cons 8 (.v 5) (.cons 7 (.v 4) .nil)))])
       (.seq (.cond 6 (.skip) (.exit 0))
       (.seq (.block 1 (.seq (.run 0 [.asg 3 (.v 5)])
          (.seq (.run 0 [.asg 7 (.n (.call 0 (.t 11) [(.t 15)]) (.cons 11 (.v 1) (.cons 15 (.n (.load 39 (.t 14)) (.cons 14 (.n (.iaddr 38 (.t 12) (.t 13)) (.cons 12 (.v 0) (.cons 13 (.v 3) .nil))) .nil)) .nil)))])
          (.cond 7 (.seq (.run 0 [.asg 2 (.v 3)])
            (.ret)) (.skip)))))
       (.run 0 [.asg 5 (.n (.bin .add 2 (.t 8) (.c (.int .i64 1))) (.cons 8 (.v 5) .nil))])))))))
  (.seq (.run 0 [.asg 2 (.c (.int .i64 (-1)))])
  (.ret)))
theorem c201 : TF E 201 n201 [(2, none)] t201 19 := tf_of (F := f201) rfl (by kernel_rfl) (by decide)

def n202 : List Nat := [0, 2, 3, 5, 6, 7, 11, 13, 14, 15, 16, 19, 20, 21, 22]
def t202 : TC := .seq (.run 0 [.asg 1 (.c (.imm .exact []))])
  (.seq (.run 0 [.eff none (some 6) (.call 2 (.f 96) [(.t 10)]) (.cons 10 (.n (.load 6 (.t 9)) (.cons 9 (.n (.iaddr 9 (.t 8) (.c (.int .i64 0))) (.cons 8 (.v 0) .nil)) .nil)) .nil) none,
     .asg 2 (.v 6)])
  (.seq (.seq (.run 0 [.asg 7 (.n (.slice 9 (.t 12) (some (.c (.int .i64 1))) none none) (.cons 12 (.v 0) .nil)),
      .asg 8 (.n (.len 9 (.t 13)) (.cons 13 (.v 7) .nil)),
      .asg 9 (.c (.int .i64 0))])
   (.block 0 (.loop (
       .seq (.run 0 [.asg 10 (.n (.bin .lss 2 (.t 15) (.t 14)) (.cons 15 (.v 9) (.cons 14 (.v 8) .nil)))])
       (.seq (.cond 10 (.skip) (.exit 0))
       (.seq (.block 1 (.seq (.run 0 [.asg 3 (.n (.load 6 (.t 17)) (.cons 17 (.n (.iaddr 9 (.t 13) (.t 15)) (.cons 13 (.v 7) (.cons 15 (.v 9) .nil))) .nil))])
          (.seq (.run 0 [.asg 11 (.v 3),
             .asg 12 (.n (.len 6 (.t 19)) (.cons 19 (.v 11) .nil)),
             .asg 13 (.c (.int .i64 0))])
          (.block 2 (.loop (
              .seq (.run 0 [.asg 14 (.n (.bin .lss 2 (.t 21) (.t 20)) (.cons 21 (.v 13) (.cons 20 (.v 12) .nil)))])
              (.seq (.cond 14 (.skip) (.exit 2))
              (.seq (.block 3 (.seq (.run 0 [.asg 4 (.v 13),
                    .asg 5 (.n (.load 2 (.t 24)) (.cons 24 (.n (.iaddr 6 (.t 19) (.t 21)) (.cons 19 (.v 11) (.cons 21 (.v 13) .nil))) .nil))])
                 (.run 0 [.eff none none (.store 2 (.t 35) (.t 34)) (.cons 35 (.n (.iaddr 6 (.t 26) (.t 27)) (.cons 26 (.v 2) (.cons 27 (.v 4) .nil))) (.cons 34 (.n (.mini [(.t 33), (.c (.int .i64 4096))]) (.cons 33 (.n (.bin .add 2 (.t 31) (.t 32)) (.cons 31 (.n (.load 2 (.t 30)) (.cons 30 (.n (.iaddr 6 (.t 28) (.t 29)) (.cons 28 (.v 2) (.cons 29 (.v 4) .nil))) .nil)) (.cons 32 (.v 5) .nil))) .nil)) .nil)) none])))
              (.run 0 [.asg 13 (.n (.bin .add 2 (.t 21) (.c (.int .i64 1))) (.cons 21 (.v 13) .nil))])))))))))
       (.run 0 [.asg 9 (.n (.bin .add 2 (.t 15) (.c (.int .i64 1))) (.cons 15 (.v 9) .nil))])))))))
  (.seq (.run 0 [.asg 1 (.v 2)])
  (.ret))))
theorem c202 : TF E 202 n202 [(1, none)] t202 39 := tf_of (F := f202) rfl (by kernel_rfl) (by decide)

theorem ty_0 : E.ty 0 = ⟨.struct [(0, 10), (1, 9), (2, 14)], 3, 72, [(.imm .exact []), (.imm .exact []), (.imm .exact [])], false⟩ := rfl
theorem ty_1 : E.ty 1 = ⟨.slice 2, 1, 24, [(.imm .exact [])], false⟩ := rfl
theorem ty_2 : E.ty 2 = ⟨.int .i64, 1, 8, [(.int .i64 0)], false⟩ := rfl
theorem ty_3 : E.ty 3 = ⟨.int .i64, 1, 8, [(.int .i64 0)], false⟩ := rfl
theorem ty_4 : E.ty 4 = ⟨.slice 1, 1, 24, [(.imm .exact [])], false⟩ := rfl
theorem ty_6 : E.ty 6 = ⟨.slice 2, 1, 24, [(.imm .exact [])], false⟩ := rfl
theorem ty_7 : E.ty 7 = ⟨.bool, 1, 1, [(.bool false)], false⟩ := rfl
theorem ty_9 : E.ty 9 = ⟨.slice 6, 1, 24, [(.imm .exact [])], false⟩ := rfl
theorem ty_10 : E.ty 10 = ⟨.slice 20, 1, 24, [(.imm .exact [])], false⟩ := rfl
theorem ty_11 : E.ty 11 = ⟨.struct [(0, 2), (1, 2)], 2, 16, [(.int .i64 0), (.int .i64 0)], true⟩ := rfl
theorem ty_13 : E.ty 13 = ⟨.int .u8, 1, 1, [(.int .u8 0)], false⟩ := rfl
theorem ty_14 : E.ty 14 = ⟨.slice 15, 1, 24, [(.imm .exact [])], false⟩ := rfl
theorem ty_15 : E.ty 15 = ⟨.struct [(0, 2), (1, 2), (2, 6), (3, 16)], 4, 64, [(.int .i64 0), (.int .i64 0), (.imm .exact []), (.imm .exact [])], false⟩ := rfl
theorem ty_16 : E.ty 16 = ⟨.slice 17, 1, 24, [(.imm .exact [])], false⟩ := rfl
theorem ty_17 : E.ty 17 = ⟨.struct [(0, 2), (1, 2), (2, 2), (3, 18)], 4, 48, [(.int .i64 0), (.int .i64 0), (.int .i64 0), (.imm .exact [])], false⟩ := rfl
theorem ty_18 : E.ty 18 = ⟨.slice 19, 1, 24, [(.imm .exact [])], false⟩ := rfl
theorem ty_19 : E.ty 19 = ⟨.struct [(0, 20), (3, 2)], 4, 32, [(.bool false), (.int .i64 0), (.int .i64 0), (.int .i64 0)], true⟩ := rfl
theorem ty_20 : E.ty 20 = ⟨.struct [(0, 7), (1, 2), (2, 2)], 3, 24, [(.bool false), (.int .i64 0), (.int .i64 0)], true⟩ := rfl
theorem ty_21 : E.ty 21 = ⟨.map 20 7, 1, 8, [(.map none)], false⟩ := rfl
theorem ty_22 : E.ty 22 = ⟨.arr 4 2, 4, 32, [(.int .i64 0), (.int .i64 0), (.int .i64 0), (.int .i64 0)], true⟩ := rfl
theorem ty_26 : E.ty 26 = ⟨.map 20 2, 1, 8, [(.map none)], false⟩ := rfl
theorem ty_28 : E.ty 28 = ⟨.struct [(0, 4), (1, 6), (2, 6), (3, 31)], 4, 96, [(.imm .exact []), (.imm .exact []), (.imm .exact []), (.imm .exact [])], false⟩ := rfl
theorem ty_29 : E.ty 29 = ⟨.struct [(0, 6), (1, 6), (2, 31)], 3, 72, [(.imm .exact []), (.imm .exact []), (.imm .exact [])], false⟩ := rfl
theorem ty_31 : E.ty 31 = ⟨.slice 32, 1, 24, [(.imm .exact [])], false⟩ := rfl
theorem ty_32 : E.ty 32 = ⟨.struct [(0, 1), (1, 2), (2, 9)], 3, 56, [(.imm .exact []), (.int .i64 0), (.imm .exact [])], false⟩ := rfl
theorem ty_33 : E.ty 33 = ⟨.func, 1, 8, [.nilfn], false⟩ := rfl
theorem ty_35 : E.ty 35 = ⟨.slice 1, 1, 24, [(.imm .exact [])], false⟩ := rfl
theorem ty_36 : E.ty 36 = ⟨.slice 37, 1, 24, [(.imm .exact [])], false⟩ := rfl
theorem ty_37 : E.ty 37 = ⟨.struct [(0, 2), (1, 2), (2, 2)], 3, 24, [(.int .i64 0), (.int .i64 0), (.int .i64 0)], true⟩ := rfl
theorem ty_38 : E.ty 38 = ⟨.slice 39, 1, 24, [(.imm .exact [])], false⟩ := rfl
theorem ty_39 : E.ty 39 = ⟨.struct [(0, 2), (1, 9)], 2, 32, [(.int .i64 0), (.imm .exact [])], false⟩ := rfl
theorem ty_40 : E.ty 40 = ⟨.func, 1, 8, [.nilfn], false⟩ := rfl

end Dv
