/- Texts that a proof of this claim uses, joined: Lw.TCode. -/
import Derived.Test.YtffnaiofjjgcgaaLwa
import Derived.Test.YtffnaiofjjgcgaaCode
import Derived.KernelRfl
set_option linter.all false
/- The tidy code of the functions, as printed by program. -/
namespace Dv
open Go (IntKind BinOp UnOp)

def n2 : List Nat := [0, 1, 2, 3, 4, 5, 6, 22, 27, 36, 41, 48, 58, 63, 73]
def t2 : TC := .seq (.run 0 [.eff none (some 1) (.box 0 (.t 0)) (.cons 0 (.v 0) .nil) none,
     .asg 2 (.c (.bool false))])
  (.seq (.seq (.run 0 [.asg 7 (.ite (.ite (.n (.bin .gtr 2 (.t 9) (.c (.int .i64 12))) (.cons 9 (.n (.len 10 (.t 8)) (.cons 8 (.n (.load 10 (.t 7)) (.cons 7 (.n (.faddr 0 (.t 1) 0) (.cons 1 (.v 1) .nil)) .nil)) .nil)) .nil)) (.c (.bool true)) (.n (.bin .gtr 2 (.t 14) (.c (.int .i64 4))) (.cons 14 (.n (.len 9 (.t 13)) (.cons 13 (.n (.load 9 (.t 12)) (.cons 12 (.n (.faddr 0 (.t 1) 1) (.cons 1 (.v 1) .nil)) .nil)) .nil)) .nil))) (.c (.bool true)) (.n (.bin .gtr 2 (.t 20) (.c (.int .i64 6))) (.cons 20 (.n (.len 14 (.t 19)) (.cons 19 (.n (.load 14 (.t 18)) (.cons 18 (.n (.faddr 0 (.t 1) 2) (.cons 1 (.v 1) .nil)) .nil)) .nil)) .nil)))])
   (.cond 7 (.seq (.run 0 [.asg 2 (.c (.bool false))])
     (.ret)) (.skip)))
  (.seq (.seq (.run 0 [.asg 3 (.c (.int .i64 0))])
   (.block 0 (.loop (
       .seq (.seq (.run 0 [.asg 8 (.n (.bin .lss 2 (.t 23) (.t 26)) (.cons 23 (.v 3) (.cons 26 (.n (.len 9 (.t 25)) (.cons 25 (.n (.load 9 (.t 24)) (.cons 24 (.n (.faddr 0 (.t 1) 1) (.cons 1 (.v 1) .nil)) .nil)) .nil)) .nil)))])
        (.cond 8 (.skip) (.exit 0)))
       (.seq (.block 1 (.seq (.run 0 [.asg 9 (.n (.bin .gtr 2 (.t 35) (.c (.int .i64 16))) (.cons 35 (.n (.len 6 (.t 34)) (.cons 34 (.n (.load 6 (.t 33)) (.cons 33 (.n (.iaddr 9 (.t 31) (.t 32)) (.cons 31 (.n (.load 9 (.t 30)) (.cons 30 (.n (.faddr 0 (.t 1) 1) (.cons 1 (.v 1) .nil)) .nil)) (.cons 32 (.v 3) .nil))) .nil)) .nil)) .nil))])
          (.cond 9 (.seq (.run 0 [.asg 2 (.c (.bool false))])
            (.ret)) (.skip))))
       (.run 0 [.asg 3 (.n (.bin .add 2 (.t 28) (.c (.int .i64 1))) (.cons 28 (.v 3) .nil))]))))))
  (.seq (.seq (.run 0 [.asg 4 (.c (.int .i64 0))])
   (.block 2 (.loop (
       .seq (.seq (.run 0 [.asg 10 (.n (.bin .lss 2 (.t 37) (.t 40)) (.cons 37 (.v 4) (.cons 40 (.n (.len 14 (.t 39)) (.cons 39 (.n (.load 14 (.t 38)) (.cons 38 (.n (.faddr 0 (.t 1) 2) (.cons 1 (.v 1) .nil)) .nil)) .nil)) .nil)))])
        (.cond 10 (.skip) (.exit 2)))
       (.seq (.block 3 (.seq (.run 0 [.asg 11 (.n (.load 15 (.t 47)) (.cons 47 (.n (.iaddr 14 (.t 45) (.t 46)) (.cons 45 (.n (.load 14 (.t 44)) (.cons 44 (.n (.faddr 0 (.t 1) 2) (.cons 1 (.v 1) .nil)) .nil)) (.cons 46 (.v 4) .nil))) .nil)),
             .eff none (some 5) (.alloc 15) .nil none,
             .eff none none (.store 15 (.t 5) (.t 48)) (.cons 5 (.v 5) (.cons 48 (.v 11) .nil)) none])
          (.seq (.seq (.run 0 [.asg 12 (.ite (.n (.bin .gtr 2 (.t 51) (.c (.int .i64 8))) (.cons 51 (.n (.len 6 (.t 50)) (.cons 50 (.n (.load 6 (.t 49)) (.cons 49 (.n (.faddr 15 (.t 5) 2) (.cons 5 (.v 5) .nil)) .nil)) .nil)) .nil)) (.c (.bool true)) (.n (.bin .gtr 2 (.t 56) (.c (.int .i64 8))) (.cons 56 (.n (.len 16 (.t 55)) (.cons 55 (.n (.load 16 (.t 54)) (.cons 54 (.n (.faddr 15 (.t 5) 3) (.cons 5 (.v 5) .nil)) .nil)) .nil)) .nil)))])
           (.cond 12 (.seq (.run 0 [.asg 2 (.c (.bool false))])
             (.ret)) (.skip)))
          (.seq (.run 0 [.asg 6 (.c (.int .i64 0))])
          (.block 4 (.loop (
              .seq (.seq (.run 0 [.asg 13 (.n (.bin .lss 2 (.t 59) (.t 62)) (.cons 59 (.v 6) (.cons 62 (.n (.len 16 (.t 61)) (.cons 61 (.n (.load 16 (.t 60)) (.cons 60 (.n (.faddr 15 (.t 5) 3) (.cons 5 (.v 5) .nil)) .nil)) .nil)) .nil)))])
               (.cond 13 (.skip) (.exit 4)))
              (.seq (.block 5 (.seq (.run 0 [.asg 14 (.n (.bin .gtr 2 (.t 72) (.c (.int .i64 12))) (.cons 72 (.n (.len 18 (.t 71)) (.cons 71 (.n (.load 18 (.t 70)) (.cons 70 (.n (.faddr 17 (.t 69) 3) (.cons 69 (.n (.iaddr 16 (.t 67) (.t 68)) (.cons 67 (.n (.load 16 (.t 66)) (.cons 66 (.n (.faddr 15 (.t 5) 3) (.cons 5 (.v 5) .nil)) .nil)) (.cons 68 (.v 6) .nil))) .nil)) .nil)) .nil)) .nil))])
                 (.cond 14 (.seq (.run 0 [.asg 2 (.c (.bool false))])
                   (.ret)) (.skip))))
              (.run 0 [.asg 6 (.n (.bin .add 2 (.t 64) (.c (.int .i64 1))) (.cons 64 (.v 6) .nil))])))))))))
       (.run 0 [.asg 4 (.n (.bin .add 2 (.t 42) (.c (.int .i64 1))) (.cons 42 (.v 4) .nil))]))))))
  (.seq (.run 0 [.asg 2 (.n (.bin .lss 2 (.t 75) (.c (.int .i64 2000))) (.cons 75 (.n (.call 0 (.f 61) [(.t 74), (.c (.int .i64 2000))]) (.cons 74 (.n (.load 0 (.t 1)) (.cons 1 (.v 1) .nil)) .nil)) .nil))])
  (.ret)))))
theorem c2 : TF E 2 n2 [(2, none)] t2 77 := tf_of (F := f2) rfl (by kernel_rfl) (by decide)

def n15 : List Nat := [0, 1, 2, 3, 5, 7, 9, 11, 12, 14, 37, 38, 40, 41, 42, 43, 45, 53, 58, 59, 60, 61, 73, 76, 77, 78, 79, 81, 119, 121, 122, 123, 124, 126, 151, 153, 154, 155, 156, 158, 169]
def t15 : TC := .seq (.run 0 [.eff none (some 1) (.box 0 (.t 0)) (.cons 0 (.v 0) .nil) none,
     .asg 2 (.c (.int .i64 0))])
  (.seq (.seq (.run 0 [.asg 10 (.ite (.ite (.ite (.n (.bin .gtr 2 (.t 17) (.c (.int .i64 4096))) (.cons 17 (.n (.len 10 (.t 16)) (.cons 16 (.n (.load 10 (.t 15)) (.cons 15 (.n (.faddr 0 (.t 1) 0) (.cons 1 (.v 1) .nil)) .nil)) .nil)) .nil)) (.c (.bool true)) (.n (.un .not (.t 23)) (.cons 23 (.n (.call 0 (.f 67) [(.t 22), (.c (.int .i64 1)), (.c (.int .i64 32))]) (.cons 22 (.n (.len 9 (.t 21)) (.cons 21 (.n (.load 9 (.t 20)) (.cons 20 (.n (.faddr 0 (.t 1) 1) (.cons 1 (.v 1) .nil)) .nil)) .nil)) .nil)) .nil))) (.c (.bool true)) (.n (.bin .gtr 2 (.t 29) (.c (.int .i64 64))) (.cons 29 (.n (.len 14 (.t 28)) (.cons 28 (.n (.load 14 (.t 27)) (.cons 27 (.n (.faddr 0 (.t 1) 2) (.cons 1 (.v 1) .nil)) .nil)) .nil)) .nil))) (.c (.bool true)) (.n (.un .not (.t 35)) (.cons 35 (.n (.call 0 (.f 69) [(.t 34), (.f 70)]) (.cons 34 (.n (.load 10 (.t 33)) (.cons 33 (.n (.faddr 0 (.t 1) 0) (.cons 1 (.v 1) .nil)) .nil)) .nil)) .nil)))])
   (.cond 10 (.seq (.run 0 [.asg 2 (.c (.int .i64 270))])
     (.ret)) (.skip)))
  (.seq (.run 0 [.eff none (some 11) (.mkmap 21) .nil none,
     .asg 3 (.v 11)])
  (.seq (.seq (.run 0 [.asg 12 (.n (.load 10 (.t 39)) (.cons 39 (.n (.faddr 0 (.t 1) 0) (.cons 1 (.v 1) .nil)) .nil)),
      .asg 13 (.n (.len 10 (.t 40)) (.cons 40 (.v 12) .nil)),
      .asg 14 (.c (.int .i64 0))])
   (.block 0 (.loop (
       .seq (.run 0 [.asg 15 (.n (.bin .lss 2 (.t 42) (.t 41)) (.cons 42 (.v 14) (.cons 41 (.v 13) .nil)))])
       (.seq (.cond 15 (.skip) (.exit 0))
       (.seq (.block 1 (.seq (.run 0 [.asg 16 (.n (.load 20 (.t 44)) (.cons 44 (.n (.iaddr 10 (.t 40) (.t 42)) (.cons 40 (.v 12) (.cons 42 (.v 14) .nil))) .nil)),
             .eff none (some 4) (.alloc 20) .nil none,
             .eff none none (.store 20 (.t 5) (.t 45)) (.cons 5 (.v 4) (.cons 45 (.v 16) .nil)) none])
          (.seq (.seq (.run 0 [.asg 17 (.ite (.n (.bin .lss 2 (.t 47) (.c (.int .i64 0))) (.cons 47 (.n (.load 2 (.t 46)) (.cons 46 (.n (.faddr 20 (.t 5) 1) (.cons 5 (.v 4) .nil)) .nil)) .nil)) (.c (.bool true)) (.n (.bin .lss 2 (.t 51) (.c (.int .i64 0))) (.cons 51 (.n (.load 2 (.t 50)) (.cons 50 (.n (.faddr 20 (.t 5) 2) (.cons 5 (.v 4) .nil)) .nil)) .nil)))])
           (.cond 17 (.seq (.run 0 [.asg 2 (.c (.int .i64 270))])
             (.ret)) (.skip)))
          (.run 0 [.eff none none (.mapset 21 (.t 54) (.t 55) (.c (.bool true))) (.cons 54 (.v 3) (.cons 55 (.n (.load 20 (.t 5)) (.cons 5 (.v 4) .nil)) .nil)) none]))))
       (.run 0 [.asg 14 (.n (.bin .add 2 (.t 42) (.c (.int .i64 1))) (.cons 42 (.v 14) .nil))])))))))
  (.seq (.seq (.run 0 [.asg 18 (.n (.load 9 (.t 57)) (.cons 57 (.n (.faddr 0 (.t 1) 1) (.cons 1 (.v 1) .nil)) .nil)),
      .asg 19 (.n (.len 9 (.t 58)) (.cons 58 (.v 18) .nil)),
      .asg 20 (.c (.int .i64 0))])
   (.block 2 (.loop (
       .seq (.run 0 [.asg 21 (.n (.bin .lss 2 (.t 60) (.t 59)) (.cons 60 (.v 20) (.cons 59 (.v 19) .nil)))])
       (.seq (.cond 21 (.skip) (.exit 2))
       (.seq (.block 3 (.seq (.run 0 [.asg 5 (.n (.load 6 (.t 62)) (.cons 62 (.n (.iaddr 9 (.t 58) (.t 60)) (.cons 58 (.v 18) (.cons 60 (.v 20) .nil))) .nil))])
          (.seq (.run 0 [.asg 22 (.ite (.n (.bin .neq 2 (.t 65) (.t 68)) (.cons 65 (.n (.len 6 (.t 64)) (.cons 64 (.v 5) .nil)) (.cons 68 (.n (.len 10 (.t 67)) (.cons 67 (.n (.load 10 (.t 66)) (.cons 66 (.n (.faddr 0 (.t 1) 0) (.cons 1 (.v 1) .nil)) .nil)) .nil)) .nil))) (.c (.bool true)) (.n (.call 0 (.f 71) [(.t 71), (.f 72)]) (.cons 71 (.v 5) .nil)))])
          (.cond 22 (.seq (.run 0 [.asg 2 (.c (.int .i64 270))])
            (.ret)) (.skip)))))
       (.run 0 [.asg 20 (.n (.bin .add 2 (.t 60) (.c (.int .i64 1))) (.cons 60 (.v 20) .nil))])))))))
  (.seq (.seq (.run 0 [.asg 23 (.n (.load 14 (.t 75)) (.cons 75 (.n (.faddr 0 (.t 1) 2) (.cons 1 (.v 1) .nil)) .nil)),
      .asg 24 (.n (.len 14 (.t 76)) (.cons 76 (.v 23) .nil)),
      .asg 25 (.c (.int .i64 0))])
   (.block 4 (.loop (
       .seq (.run 0 [.asg 26 (.n (.bin .lss 2 (.t 78) (.t 77)) (.cons 78 (.v 25) (.cons 77 (.v 24) .nil)))])
       (.seq (.cond 26 (.skip) (.exit 4))
       (.seq (.block 5 (.seq (.run 0 [.asg 27 (.n (.load 15 (.t 80)) (.cons 80 (.n (.iaddr 14 (.t 76) (.t 78)) (.cons 76 (.v 23) (.cons 78 (.v 25) .nil))) .nil)),
             .eff none (some 6) (.alloc 15) .nil none,
             .eff none none (.store 15 (.t 9) (.t 81)) (.cons 9 (.v 6) (.cons 81 (.v 27) .nil)) none])
          (.seq (.seq (.run 38 [.asg 28 (.ite (.ite (.ite (.ite (.n (.bin .eql 2 (.t 84) (.c (.int .i64 0))) (.cons 84 (.n (.len 6 (.t 83)) (.cons 83 (.n (.load 6 (.t 82)) (.cons 82 (.n (.faddr 15 (.t 9) 2) (.cons 9 (.v 6) .nil)) .nil)) .nil)) .nil)) (.c (.bool true)) (.n (.un .not (.t 90)) (.cons 90 (.n (.call 0 (.f 67) [(.t 89), (.c (.int .i64 1)), (.c (.int .i64 96))]) (.cons 89 (.n (.len 16 (.t 88)) (.cons 88 (.n (.load 16 (.t 87)) (.cons 87 (.n (.faddr 15 (.t 9) 3) (.cons 9 (.v 6) .nil)) .nil)) .nil)) .nil)) .nil))) (.c (.bool true)) (.n (.un .not (.t 96)) (.cons 96 (.n (.call 0 (.f 73) [(.t 95), (.f 74)]) (.cons 95 (.n (.load 6 (.t 94)) (.cons 94 (.n (.faddr 15 (.t 9) 2) (.cons 9 (.v 6) .nil)) .nil)) .nil)) .nil))) (.c (.bool true)) (.n (.bin .lss 2 (.t 103) (.c (.int .i64 0))) (.cons 103 (.n (.load 2 (.t 102)) (.cons 102 (.n (.iaddr 6 (.t 101) (.c (.int .i64 0))) (.cons 101 (.n (.load 6 (.t 100)) (.cons 100 (.n (.faddr 15 (.t 9) 2) (.cons 9 (.v 6) .nil)) .nil)) .nil)) .nil)) .nil))) (.c (.bool true)) (.n (.bin .geq 2 (.t 114) (.t 117)) (.cons 114 (.n (.load 2 (.t 113)) (.cons 113 (.n (.iaddr 6 (.t 108) (.t 112)) (.cons 108 (.n (.load 6 (.t 107)) (.cons 107 (.n (.faddr 15 (.t 9) 2) (.cons 9 (.v 6) .nil)) .nil)) (.cons 112 (.n (.bin .sub 2 (.t 111) (.c (.int .i64 1))) (.cons 111 (.n (.len 6 (.t 110)) (.cons 110 (.n (.load 6 (.t 109)) (.cons 109 (.n (.faddr 15 (.t 9) 2) (.cons 9 (.v 6) .nil)) .nil)) .nil)) .nil)) .nil))) .nil)) (.cons 117 (.n (.len 9 (.t 116)) (.cons 116 (.n (.load 9 (.t 115)) (.cons 115 (.n (.faddr 0 (.t 1) 1) (.cons 1 (.v 1) .nil)) .nil)) .nil)) .nil))))])
           (.cond 28 (.seq (.run 0 [.asg 2 (.c (.int .i64 270))])
             (.ret)) (.skip)))
          (.seq (.run 0 [.asg 29 (.n (.load 16 (.t 120)) (.cons 120 (.n (.faddr 15 (.t 9) 3) (.cons 9 (.v 6) .nil)) .nil)),
             .asg 30 (.n (.len 16 (.t 121)) (.cons 121 (.v 29) .nil)),
             .asg 31 (.c (.int .i64 0))])
          (.block 6 (.loop (
              .seq (.run 0 [.asg 32 (.n (.bin .lss 2 (.t 123) (.t 122)) (.cons 123 (.v 31) (.cons 122 (.v 30) .nil)))])
              (.seq (.cond 32 (.skip) (.exit 6))
              (.seq (.block 7 (.seq (.run 0 [.asg 33 (.n (.load 17 (.t 125)) (.cons 125 (.n (.iaddr 16 (.t 121) (.t 123)) (.cons 121 (.v 29) (.cons 123 (.v 31) .nil))) .nil)),
                    .eff none (some 7) (.alloc 17) .nil none,
                    .eff none none (.store 17 (.t 11) (.t 126)) (.cons 11 (.v 7) (.cons 126 (.v 33) .nil)) none])
                 (.seq (.run 0 [.asg 8 (.c (.int .i64 1048576))])
                 (.seq (.seq (.run 0 [.asg 34 (.ite (.ite (.ite (.n (.un .not (.t 130)) (.cons 130 (.n (.call 0 (.f 67) [(.t 128), (.c (.int .i64 0)), (.t 129)]) (.cons 128 (.n (.load 2 (.t 127)) (.cons 127 (.n (.faddr 17 (.t 11) 0) (.cons 11 (.v 7) .nil)) .nil)) (.cons 129 (.v 8) .nil))) .nil)) (.c (.bool true)) (.n (.un .not (.t 136)) (.cons 136 (.n (.call 0 (.f 67) [(.t 134), (.c (.int .i64 0)), (.t 135)]) (.cons 134 (.n (.load 2 (.t 133)) (.cons 133 (.n (.faddr 17 (.t 11) 1) (.cons 11 (.v 7) .nil)) .nil)) (.cons 135 (.v 8) .nil))) .nil))) (.c (.bool true)) (.n (.un .not (.t 143)) (.cons 143 (.n (.call 0 (.f 67) [(.t 141), (.c (.int .i64 0)), (.t 142)]) (.cons 141 (.n (.load 2 (.t 140)) (.cons 140 (.n (.faddr 17 (.t 11) 2) (.cons 11 (.v 7) .nil)) .nil)) (.cons 142 (.v 8) .nil))) .nil))) (.c (.bool true)) (.n (.un .not (.t 149)) (.cons 149 (.n (.call 0 (.f 75) [(.t 148), (.f 76)]) (.cons 148 (.n (.load 18 (.t 147)) (.cons 147 (.n (.faddr 17 (.t 11) 3) (.cons 11 (.v 7) .nil)) .nil)) .nil)) .nil)))])
                  (.cond 34 (.seq (.run 0 [.asg 2 (.c (.int .i64 270))])
                    (.ret)) (.skip)))
                 (.seq (.run 0 [.asg 35 (.n (.load 18 (.t 152)) (.cons 152 (.n (.faddr 17 (.t 11) 3) (.cons 11 (.v 7) .nil)) .nil)),
                    .asg 36 (.n (.len 18 (.t 153)) (.cons 153 (.v 35) .nil)),
                    .asg 37 (.c (.int .i64 0))])
                 (.block 8 (.loop (
                     .seq (.run 0 [.asg 38 (.n (.bin .lss 2 (.t 155) (.t 154)) (.cons 155 (.v 37) (.cons 154 (.v 36) .nil)))])
                     (.seq (.cond 38 (.skip) (.exit 8))
                     (.seq (.block 9 (.seq (.run 0 [.asg 39 (.n (.load 19 (.t 157)) (.cons 157 (.n (.iaddr 18 (.t 153) (.t 155)) (.cons 153 (.v 35) (.cons 155 (.v 37) .nil))) .nil)),
                           .eff none (some 9) (.alloc 19) .nil none,
                           .eff none none (.store 19 (.t 14) (.t 158)) (.cons 14 (.v 9) (.cons 158 (.v 39) .nil)) none])
                        (.seq (.run 0 [.asg 40 (.ite (.n (.un .not (.t 162)) (.cons 162 (.n (.lookup 21 (.t 159) (.t 161) false) (.cons 159 (.v 3) (.cons 161 (.n (.load 20 (.t 160)) (.cons 160 (.n (.faddr 19 (.t 14) 0) (.cons 14 (.v 9) .nil)) .nil)) .nil))) .nil)) (.c (.bool true)) (.n (.un .not (.t 167)) (.cons 167 (.n (.call 0 (.f 67) [(.t 166), (.c (.int .i64 1)), (.c (.int .i64 8))]) (.cons 166 (.n (.load 2 (.t 165)) (.cons 165 (.n (.faddr 19 (.t 14) 1) (.cons 14 (.v 9) .nil)) .nil)) .nil)) .nil)))])
                        (.cond 40 (.seq (.run 0 [.asg 2 (.c (.int .i64 270))])
                          (.ret)) (.skip)))))
                     (.run 0 [.asg 37 (.n (.bin .add 2 (.t 155) (.c (.int .i64 1))) (.cons 155 (.v 37) .nil))])))))))))))
              (.run 0 [.asg 31 (.n (.bin .add 2 (.t 123) (.c (.int .i64 1))) (.cons 123 (.v 31) .nil))]))))))))))
       (.run 0 [.asg 25 (.n (.bin .add 2 (.t 78) (.c (.int .i64 1))) (.cons 78 (.v 25) .nil))])))))))
  (.seq (.run 0 [.asg 2 (.c (.int .i64 0))])
  (.ret)))))))
theorem c15 : TF E 15 n15 [(2, none)] t15 173 := tf_of (F := f15) rfl (by kernel_rfl) (by decide)

def n36 : List Nat := [0, 2, 3, 7, 15]
def t36 : TC := .seq (.run 0 [.asg 1 (.c (.bool false))])
  (.seq (.seq (.run 0 [.asg 2 (.c (.int .i64 0))])
   (.block 0 (.loop (
       .seq (.seq (.run 0 [.asg 3 (.n (.bin .lss 2 (.t 4) (.t 6)) (.cons 4 (.v 2) (.cons 6 (.n (.len 9 (.t 5)) (.cons 5 (.v 0) .nil)) .nil)))])
        (.cond 3 (.skip) (.exit 0)))
       (.seq (.block 1 (.seq (.run 0 [.asg 4 (.n (.bin .gtr 2 (.t 14) (.c (.int .i64 60))) (.cons 14 (.n (.len 6 (.t 13)) (.cons 13 (.n (.load 6 (.t 12)) (.cons 12 (.n (.iaddr 9 (.t 10) (.t 11)) (.cons 10 (.v 0) (.cons 11 (.v 2) .nil))) .nil)) .nil)) .nil))])
          (.cond 4 (.seq (.run 0 [.asg 1 (.c (.bool false))])
            (.ret)) (.skip))))
       (.run 0 [.asg 2 (.n (.bin .add 2 (.t 8) (.c (.int .i64 1))) (.cons 8 (.v 2) .nil))]))))))
  (.seq (.run 0 [.asg 1 (.n (.bin .leq 2 (.t 17) (.c (.int .i64 40))) (.cons 17 (.n (.len 9 (.t 16)) (.cons 16 (.v 0) .nil)) .nil))])
  (.ret)))
theorem c36 : TF E 36 n36 [(1, none)] t36 19 := tf_of (F := f36) rfl (by kernel_rfl) (by decide)

def n37 : List Nat := [0, 1, 2, 3, 4, 8, 9, 10, 11, 17, 19]
def t37 : TC := .seq (.run 0 [.eff none (some 4) (.box 0 (.t 0)) (.cons 0 (.v 0) .nil) none,
     .asg 5 (.c (.int .i64 0)),
     .asg 6 (.c (.bool false)),
     .asg 7 (.c (.int .i64 0))])
  (.seq (.seq (.run 0 [.asg 8 (.n (.call 0 (.f 89) [(.t 12), (.t 13), (.t 14)]) (.cons 12 (.n (.load 0 (.t 4)) (.cons 4 (.v 4) .nil)) (.cons 13 (.v 1) (.cons 14 (.v 3) .nil))))])
   (.seq (.run 0 [.asg 9 (.n (.bin .neq 3 (.t 16) (.c (.int .i64 0))) (.cons 16 (.v 8) .nil))])
   (.cond 9 (.seq (.run 0 [.asg 5 (.c (.int .i64 0)),
        .asg 6 (.c (.bool false)),
        .asg 7 (.v 8)])
     (.ret)) (.skip))))
  (.seq (.run 0 [.asg 10 (.n (.call 0 (.f 90) [(.t 24), (.c (.bool true))]) (.cons 24 (.n (.build 25 [(0, (.t 20)), (1, (.t 21)), (2, (.t 22)), (3, (.t 23))]) (.cons 20 (.n (.load 0 (.t 4)) (.cons 4 (.v 4) .nil)) (.cons 21 (.v 1) (.cons 22 (.v 2) (.cons 23 (.v 3) .nil))))) .nil)),
     .asg 5 (.n (.extract (.t 19) 0) (.cons 19 (.v 10) .nil)),
     .asg 6 (.n (.extract (.t 19) 1) (.cons 19 (.v 10) .nil))])
  (.seq (.run 0 [.asg 5 (.v 5),
     .asg 6 (.v 6),
     .asg 7 (.c (.int .i64 0))])
  (.ret))))
theorem c37 : TF E 37 n37 [(5, none), (6, none), (7, none)] t37 30 := tf_of (F := f37) rfl (by kernel_rfl) (by decide)

def n39 : List Nat := [0, 1, 2, 3, 4, 8, 9, 10, 11, 12, 18, 20]
def t39 : TC := .seq (.run 0 [.eff none (some 4) (.box 0 (.t 0)) (.cons 0 (.v 0) .nil) none,
     .asg 5 (.c (.bool false)),
     .asg 6 (.c (.int .i64 0))])
  (.seq (.seq (.run 0 [.asg 7 (.n (.call 0 (.f 89) [(.t 13), (.t 14), (.t 15)]) (.cons 13 (.n (.load 0 (.t 4)) (.cons 4 (.v 4) .nil)) (.cons 14 (.v 1) (.cons 15 (.v 3) .nil))))])
   (.seq (.run 0 [.asg 10 (.n (.bin .neq 3 (.t 17) (.c (.int .i64 0))) (.cons 17 (.v 7) .nil))])
   (.cond 10 (.seq (.run 0 [.asg 5 (.c (.bool false)),
        .asg 6 (.v 7)])
     (.ret)) (.skip))))
  (.seq (.run 0 [.asg 11 (.n (.call 0 (.f 90) [(.t 25), (.c (.bool false))]) (.cons 25 (.n (.build 25 [(0, (.t 21)), (1, (.t 22)), (2, (.t 23)), (3, (.t 24))]) (.cons 21 (.n (.load 0 (.t 4)) (.cons 4 (.v 4) .nil)) (.cons 22 (.v 1) (.cons 23 (.v 2) (.cons 24 (.v 3) .nil))))) .nil)),
     .asg 8 (.n (.extract (.t 20) 0) (.cons 20 (.v 11) .nil)),
     .asg 9 (.n (.extract (.t 20) 1) (.cons 20 (.v 11) .nil))])
  (.seq (.run 0 [.asg 5 (.ite (.n (.un .not (.t 29)) (.cons 29 (.v 9) .nil)) (.c (.bool true)) (.n (.bin .gtr 2 (.t 32) (.c (.int .i64 0))) (.cons 32 (.v 8) .nil))),
     .asg 6 (.c (.int .i64 0))])
  (.ret))))
theorem c39 : TF E 39 n39 [(5, none), (6, none)] t39 35 := tf_of (F := f39) rfl (by kernel_rfl) (by decide)

def n41 : List Nat := [0, 1, 2, 4, 5, 6, 10, 19, 22, 23]
def t41 : TC := .seq (.run 0 [.eff none (some 2) (.box 0 (.t 0)) (.cons 0 (.v 0) .nil) none,
     .asg 3 (.c (.int .i64 0))])
  (.seq (.seq (.run 0 [.asg 4 (.n (.call 0 (.f 15) [(.t 7)]) (.cons 7 (.n (.load 0 (.t 2)) (.cons 2 (.v 2) .nil)) .nil))])
   (.seq (.run 0 [.asg 6 (.n (.bin .neq 3 (.t 9) (.c (.int .i64 0))) (.cons 9 (.v 4) .nil))])
   (.cond 6 (.seq (.run 0 [.asg 3 (.v 4)])
     (.ret)) (.skip))))
  (.seq (.run 0 [.asg 5 (.n (.mkfn 93 [(.t 2)]) (.cons 2 (.v 2) .nil))])
  (.seq (.seq (.run 0 [.asg 7 (.n (.bin .neq 2 (.t 14) (.t 17)) (.cons 14 (.n (.len 9 (.t 13)) (.cons 13 (.v 1) .nil)) (.cons 17 (.n (.len 9 (.t 16)) (.cons 16 (.n (.load 9 (.t 15)) (.cons 15 (.n (.faddr 0 (.t 2) 1) (.cons 2 (.v 2) .nil)) .nil)) .nil)) .nil))),
      .eff (some ((.v 7), false)) (some 8) (.call 1 (.f 94) [(.t 20), (.t 21)]) (.cons 20 (.v 1) (.cons 21 (.v 5) .nil)) none,
      .asg 9 (.ite (.v 7) (.c (.bool true)) (.v 8))])
   (.cond 9 (.seq (.run 0 [.asg 3 (.c (.int .i64 290))])
     (.ret)) (.skip)))
  (.seq (.run 0 [.asg 3 (.c (.int .i64 0))])
  (.ret)))))
theorem c41 : TF E 41 n41 [(3, none)] t41 24 := tf_of (F := f41) rfl (by kernel_rfl) (by decide)

def n61 : List Nat := [0, 1, 2, 4, 5, 6, 16]
def t61 : TC := .seq (.run 0 [.eff none (some 2) (.box 0 (.t 0)) (.cons 0 (.v 0) .nil) none,
     .asg 3 (.c (.int .i64 0))])
  (.seq (.run 0 [.asg 4 (.c (.int .i64 1))])
  (.seq (.seq (.run 0 [.asg 5 (.c (.int .i64 0))])
   (.block 0 (.loop (
       .seq (.seq (.run 0 [.asg 6 (.ite (.n (.bin .lss 2 (.t 7) (.t 10)) (.cons 7 (.v 5) (.cons 10 (.n (.len 14 (.t 9)) (.cons 9 (.n (.load 14 (.t 8)) (.cons 8 (.n (.faddr 0 (.t 2) 2) (.cons 2 (.v 2) .nil)) .nil)) .nil)) .nil))) (.n (.bin .lss 2 (.t 13) (.t 14)) (.cons 13 (.v 4) (.cons 14 (.v 1) .nil))) (.c (.bool false)))])
        (.cond 6 (.skip) (.exit 0)))
       (.seq (.block 1 (.run 0 [.asg 4 (.n (.bin .mul 2 (.t 19) (.t 27)) (.cons 19 (.v 4) (.cons 27 (.n (.maxi [(.c (.int .i64 1)), (.t 26)]) (.cons 26 (.n (.len 16 (.t 25)) (.cons 25 (.n (.load 16 (.t 24)) (.cons 24 (.n (.faddr 15 (.t 23) 3) (.cons 23 (.n (.iaddr 14 (.t 21) (.t 22)) (.cons 21 (.n (.load 14 (.t 20)) (.cons 20 (.n (.faddr 0 (.t 2) 2) (.cons 2 (.v 2) .nil)) .nil)) (.cons 22 (.v 5) .nil))) .nil)) .nil)) .nil)) .nil)) .nil)))]))
       (.run 0 [.asg 5 (.n (.bin .add 2 (.t 17) (.c (.int .i64 1))) (.cons 17 (.v 5) .nil))]))))))
  (.seq (.run 0 [.asg 3 (.n (.mini [(.t 29), (.t 30)]) (.cons 29 (.v 4) (.cons 30 (.v 1) .nil)))])
  (.ret))))
theorem c61 : TF E 61 n61 [(3, none)] t61 32 := tf_of (F := f61) rfl (by kernel_rfl) (by decide)

def n67 : List Nat := [0, 1, 2, 6]
def t67 : TC := .seq (.run 0 [.asg 3 (.c (.bool false))])
  (.seq (.run 0 [.asg 3 (.ite (.n (.bin .leq 2 (.t 7) (.t 8)) (.cons 7 (.v 1) (.cons 8 (.v 0) .nil))) (.n (.bin .leq 2 (.t 11) (.t 12)) (.cons 11 (.v 0) (.cons 12 (.v 2) .nil))) (.c (.bool false)))])
  (.ret))
theorem c67 : TF E 67 n67 [(3, none)] t67 15 := tf_of (F := f67) rfl (by kernel_rfl) (by decide)

def n69 : List Nat := [0, 1, 4, 5, 9, 23]
def t69 : TC := .seq (.run 0 [.asg 2 (.c (.bool false))])
  (.seq (.seq (.run 0 [.asg 3 (.c (.int .i64 1))])
   (.block 0 (.loop (
       .seq (.seq (.run 0 [.asg 4 (.n (.bin .lss 2 (.t 6) (.t 8)) (.cons 6 (.v 3) (.cons 8 (.n (.len 10 (.t 7)) (.cons 7 (.v 0) .nil)) .nil)))])
        (.cond 4 (.skip) (.exit 0)))
       (.seq (.block 1 (.seq (.run 12 [.asg 5 (.n (.bin .geq 2 (.t 22) (.c (.int .i64 0))) (.cons 22 (.n (.call 0 (.t 12) [(.t 17), (.t 21)]) (.cons 12 (.v 1) (.cons 17 (.n (.load 20 (.t 16)) (.cons 16 (.n (.iaddr 10 (.t 13) (.t 15)) (.cons 13 (.v 0) (.cons 15 (.n (.bin .sub 2 (.t 14) (.c (.int .i64 1))) (.cons 14 (.v 3) .nil)) .nil))) .nil)) (.cons 21 (.n (.load 20 (.t 20)) (.cons 20 (.n (.iaddr 10 (.t 18) (.t 19)) (.cons 18 (.v 0) (.cons 19 (.v 3) .nil))) .nil)) .nil)))) .nil))])
          (.cond 5 (.seq (.run 0 [.asg 2 (.c (.bool false))])
            (.ret)) (.skip))))
       (.run 0 [.asg 3 (.n (.bin .add 2 (.t 10) (.c (.int .i64 1))) (.cons 10 (.v 3) .nil))]))))))
  (.seq (.run 0 [.asg 2 (.c (.bool true))])
  (.ret)))
theorem c69 : TF E 69 n69 [(2, none)] t69 24 := tf_of (F := f69) rfl (by kernel_rfl) (by decide)

def n70 : List Nat := [0, 1, 2, 3, 4, 9, 11]
def t70 : TC := .seq (.run 0 [.eff none (some 2) (.box 20 (.t 0)) (.cons 0 (.v 0) .nil) none,
     .eff none (some 3) (.box 20 (.t 1)) (.cons 1 (.v 1) .nil) none,
     .asg 4 (.c (.int .i64 0))])
  (.seq (.seq (.run 0 [.asg 5 (.n (.bin .neq 7 (.t 6) (.t 8)) (.cons 6 (.n (.load 7 (.t 5)) (.cons 5 (.n (.faddr 20 (.t 2) 0) (.cons 2 (.v 2) .nil)) .nil)) (.cons 8 (.n (.load 7 (.t 7)) (.cons 7 (.n (.faddr 20 (.t 3) 0) (.cons 3 (.v 3) .nil)) .nil)) .nil)))])
   (.cond 5 (.seq (.seq (.run 0 [.asg 6 (.n (.load 7 (.t 10)) (.cons 10 (.n (.faddr 20 (.t 3) 0) (.cons 3 (.v 3) .nil)) .nil))])
      (.cond 6 (.seq (.run 0 [.asg 4 (.c (.int .i64 (-1)))])
        (.ret)) (.skip)))
     (.seq (.run 0 [.asg 4 (.c (.int .i64 1))])
     (.ret))) (.skip)))
  (.seq (.run 13 [.asg 4 (.n (.call 0 (.f 105) [(.t 22)]) (.cons 22 (.n (.bslice false 6 2 [(0, (.t 16)), (1, (.t 21))]) (.cons 16 (.n (.call 0 (.f 74) [(.t 13), (.t 15)]) (.cons 13 (.n (.load 2 (.t 12)) (.cons 12 (.n (.faddr 20 (.t 2) 1) (.cons 2 (.v 2) .nil)) .nil)) (.cons 15 (.n (.load 2 (.t 14)) (.cons 14 (.n (.faddr 20 (.t 3) 1) (.cons 3 (.v 3) .nil)) .nil)) .nil))) (.cons 21 (.n (.call 0 (.f 74) [(.t 18), (.t 20)]) (.cons 18 (.n (.load 2 (.t 17)) (.cons 17 (.n (.faddr 20 (.t 2) 2) (.cons 2 (.v 2) .nil)) .nil)) (.cons 20 (.n (.load 2 (.t 19)) (.cons 19 (.n (.faddr 20 (.t 3) 2) (.cons 3 (.v 3) .nil)) .nil)) .nil))) .nil))) .nil))])
  (.ret)))
theorem c70 : TF E 70 n70 [(4, none)] t70 24 := tf_of (F := f70) rfl (by kernel_rfl) (by decide)

def n71 : List Nat := [0, 1, 4]
def t71 : TC := .seq (.run 0 [.asg 2 (.c (.bool false))])
  (.seq (.run 0 [.asg 2 (.n (.bin .geq 2 (.t 7) (.c (.int .i64 0))) (.cons 7 (.n (.call 0 (.f 106) [(.t 5), (.t 6)]) (.cons 5 (.v 0) (.cons 6 (.v 1) .nil))) .nil))])
  (.ret))
theorem c71 : TF E 71 n71 [(2, none)] t71 9 := tf_of (F := f71) rfl (by kernel_rfl) (by decide)

def n72 : List Nat := [0, 2]
def t72 : TC := .seq (.run 0 [.asg 1 (.c (.bool false))])
  (.seq (.run 0 [.asg 1 (.n (.un .not (.t 4)) (.cons 4 (.n (.call 0 (.f 67) [(.t 3), (.c (.int .i64 0)), (.c (.int .i64 4096))]) (.cons 3 (.v 0) .nil)) .nil))])
  (.ret))
theorem c72 : TF E 72 n72 [(1, none)] t72 6 := tf_of (F := f72) rfl (by kernel_rfl) (by decide)

def n73 : List Nat := [0, 1, 4, 5, 9, 23]
def t73 : TC := .seq (.run 0 [.asg 2 (.c (.bool false))])
  (.seq (.seq (.run 0 [.asg 3 (.c (.int .i64 1))])
   (.block 0 (.loop (
       .seq (.seq (.run 0 [.asg 4 (.n (.bin .lss 2 (.t 6) (.t 8)) (.cons 6 (.v 3) (.cons 8 (.n (.len 6 (.t 7)) (.cons 7 (.v 0) .nil)) .nil)))])
        (.cond 4 (.skip) (.exit 0)))
       (.seq (.block 1 (.seq (.run 12 [.asg 5 (.n (.bin .geq 2 (.t 22) (.c (.int .i64 0))) (.cons 22 (.n (.call 0 (.t 12) [(.t 17), (.t 21)]) (.cons 12 (.v 1) (.cons 17 (.n (.load 2 (.t 16)) (.cons 16 (.n (.iaddr 6 (.t 13) (.t 15)) (.cons 13 (.v 0) (.cons 15 (.n (.bin .sub 2 (.t 14) (.c (.int .i64 1))) (.cons 14 (.v 3) .nil)) .nil))) .nil)) (.cons 21 (.n (.load 2 (.t 20)) (.cons 20 (.n (.iaddr 6 (.t 18) (.t 19)) (.cons 18 (.v 0) (.cons 19 (.v 3) .nil))) .nil)) .nil)))) .nil))])
          (.cond 5 (.seq (.run 0 [.asg 2 (.c (.bool false))])
            (.ret)) (.skip))))
       (.run 0 [.asg 3 (.n (.bin .add 2 (.t 10) (.c (.int .i64 1))) (.cons 10 (.v 3) .nil))]))))))
  (.seq (.run 0 [.asg 2 (.c (.bool true))])
  (.ret)))
theorem c73 : TF E 73 n73 [(2, none)] t73 24 := tf_of (F := f73) rfl (by kernel_rfl) (by decide)

def n74 : List Nat := [0, 1, 4, 5, 6, 11, 12, 13, 16, 19]
def t74 : TC := .seq (.run 0 [.asg 2 (.c (.int .i64 0))])
  (.seq (.run 0 [.asg 3 (.n (.call 0 (.f 107) [(.t 7)]) (.cons 7 (.v 0) .nil))])
  (.seq (.run 0 [.asg 4 (.n (.call 0 (.f 107) [(.t 9)]) (.cons 9 (.v 1) .nil))])
  (.seq (.seq (.run 0 [.asg 5 (.v 3)])
   (.cond 5 (.seq (.seq (.run 0 [.asg 6 (.v 4)])
      (.cond 6 (.seq (.run 0 [.asg 2 (.c (.int .i64 0))])
        (.ret)) (.skip)))
     (.seq (.run 0 [.asg 2 (.c (.int .i64 (-1)))])
     (.ret))) (.skip)))
  (.seq (.seq (.run 0 [.asg 7 (.v 4)])
   (.cond 7 (.seq (.run 0 [.asg 2 (.c (.int .i64 1))])
     (.ret)) (.skip)))
  (.seq (.seq (.run 0 [.asg 8 (.n (.bin .lss 2 (.t 14) (.t 15)) (.cons 14 (.v 0) (.cons 15 (.v 1) .nil)))])
   (.cond 8 (.seq (.run 0 [.asg 2 (.c (.int .i64 (-1)))])
     (.ret)) (.skip)))
  (.seq (.seq (.run 0 [.asg 9 (.n (.bin .gtr 2 (.t 17) (.t 18)) (.cons 17 (.v 0) (.cons 18 (.v 1) .nil)))])
   (.cond 9 (.seq (.run 0 [.asg 2 (.c (.int .i64 1))])
     (.ret)) (.skip)))
  (.seq (.run 0 [.asg 2 (.c (.int .i64 0))])
  (.ret))))))))
theorem c74 : TF E 74 n74 [(2, none)] t74 20 := tf_of (F := f74) rfl (by kernel_rfl) (by decide)

def n75 : List Nat := [0, 1, 4, 5, 9, 23]
def t75 : TC := .seq (.run 0 [.asg 2 (.c (.bool false))])
  (.seq (.seq (.run 0 [.asg 3 (.c (.int .i64 1))])
   (.block 0 (.loop (
       .seq (.seq (.run 0 [.asg 4 (.n (.bin .lss 2 (.t 6) (.t 8)) (.cons 6 (.v 3) (.cons 8 (.n (.len 18 (.t 7)) (.cons 7 (.v 0) .nil)) .nil)))])
        (.cond 4 (.skip) (.exit 0)))
       (.seq (.block 1 (.seq (.run 12 [.asg 5 (.n (.bin .geq 2 (.t 22) (.c (.int .i64 0))) (.cons 22 (.n (.call 0 (.t 12) [(.t 17), (.t 21)]) (.cons 12 (.v 1) (.cons 17 (.n (.load 19 (.t 16)) (.cons 16 (.n (.iaddr 18 (.t 13) (.t 15)) (.cons 13 (.v 0) (.cons 15 (.n (.bin .sub 2 (.t 14) (.c (.int .i64 1))) (.cons 14 (.v 3) .nil)) .nil))) .nil)) (.cons 21 (.n (.load 19 (.t 20)) (.cons 20 (.n (.iaddr 18 (.t 18) (.t 19)) (.cons 18 (.v 0) (.cons 19 (.v 3) .nil))) .nil)) .nil)))) .nil))])
          (.cond 5 (.seq (.run 0 [.asg 2 (.c (.bool false))])
            (.ret)) (.skip))))
       (.run 0 [.asg 3 (.n (.bin .add 2 (.t 10) (.c (.int .i64 1))) (.cons 10 (.v 3) .nil))]))))))
  (.seq (.run 0 [.asg 2 (.c (.bool true))])
  (.ret)))
theorem c75 : TF E 75 n75 [(2, none)] t75 24 := tf_of (F := f75) rfl (by kernel_rfl) (by decide)

def n76 : List Nat := [0, 1, 2, 3, 4]
def t76 : TC := .seq (.run 0 [.eff none (some 2) (.box 19 (.t 0)) (.cons 0 (.v 0) .nil) none,
     .eff none (some 3) (.box 19 (.t 1)) (.cons 1 (.v 1) .nil) none,
     .asg 4 (.c (.int .i64 0))])
  (.seq (.run 0 [.asg 4 (.n (.call 0 (.f 70) [(.t 6), (.t 8)]) (.cons 6 (.n (.load 20 (.t 5)) (.cons 5 (.n (.faddr 19 (.t 2) 0) (.cons 2 (.v 2) .nil)) .nil)) (.cons 8 (.n (.load 20 (.t 7)) (.cons 7 (.n (.faddr 19 (.t 3) 0) (.cons 3 (.v 3) .nil)) .nil)) .nil)))])
  (.ret))
theorem c76 : TF E 76 n76 [(4, none)] t76 10 := tf_of (F := f76) rfl (by kernel_rfl) (by decide)

def n89 : List Nat := [0, 1, 2, 3, 6, 7, 8, 9, 14, 21, 22, 23, 24, 25, 41]
def t89 : TC := .seq (.run 0 [.eff none (some 3) (.box 0 (.t 0)) (.cons 0 (.v 0) .nil) none,
     .asg 4 (.c (.int .i64 0))])
  (.seq (.seq (.run 0 [.asg 5 (.n (.call 0 (.f 41) [(.t 10), (.t 11)]) (.cons 10 (.n (.load 0 (.t 3)) (.cons 3 (.v 3) .nil)) (.cons 11 (.v 2) .nil)))])
   (.seq (.run 0 [.asg 8 (.n (.bin .neq 3 (.t 13) (.c (.int .i64 0))) (.cons 13 (.v 5) .nil))])
   (.cond 8 (.seq (.run 0 [.asg 4 (.v 5)])
     (.ret)) (.skip))))
  (.seq (.seq (.run 0 [.asg 9 (.n (.bin .gtr 2 (.t 17) (.t 20)) (.cons 17 (.n (.len 1 (.t 16)) (.cons 16 (.v 1) .nil)) (.cons 20 (.n (.len 14 (.t 19)) (.cons 19 (.n (.load 14 (.t 18)) (.cons 18 (.n (.faddr 0 (.t 3) 2) (.cons 3 (.v 3) .nil)) .nil)) .nil)) .nil)))])
   (.cond 9 (.seq (.run 0 [.asg 4 (.c (.int .i64 290))])
     (.ret)) (.skip)))
  (.seq (.seq (.run 0 [.asg 10 (.v 1),
      .asg 11 (.n (.len 1 (.t 22)) (.cons 22 (.v 10) .nil)),
      .asg 12 (.c (.int .i64 0))])
   (.block 0 (.loop (
       .seq (.run 0 [.asg 13 (.n (.bin .lss 2 (.t 24) (.t 23)) (.cons 24 (.v 12) (.cons 23 (.v 11) .nil)))])
       (.seq (.cond 13 (.skip) (.exit 0))
       (.seq (.block 1 (.seq (.run 0 [.asg 6 (.v 12),
             .asg 7 (.n (.load 2 (.t 27)) (.cons 27 (.n (.iaddr 1 (.t 22) (.t 24)) (.cons 22 (.v 10) (.cons 24 (.v 12) .nil))) .nil))])
          (.seq (.run 0 [.asg 14 (.ite (.n (.bin .lss 2 (.t 29) (.c (.int .i64 0))) (.cons 29 (.v 7) .nil)) (.c (.bool true)) (.n (.bin .geq 2 (.t 32) (.t 39)) (.cons 32 (.v 7) (.cons 39 (.n (.len 16 (.t 38)) (.cons 38 (.n (.load 16 (.t 37)) (.cons 37 (.n (.faddr 15 (.t 36) 3) (.cons 36 (.n (.iaddr 14 (.t 34) (.t 35)) (.cons 34 (.n (.load 14 (.t 33)) (.cons 33 (.n (.faddr 0 (.t 3) 2) (.cons 3 (.v 3) .nil)) .nil)) (.cons 35 (.v 6) .nil))) .nil)) .nil)) .nil)) .nil))))])
          (.cond 14 (.seq (.run 0 [.asg 4 (.c (.int .i64 290))])
            (.ret)) (.skip)))))
       (.run 0 [.asg 12 (.n (.bin .add 2 (.t 24) (.c (.int .i64 1))) (.cons 24 (.v 12) .nil))])))))))
  (.seq (.run 0 [.asg 4 (.c (.int .i64 0))])
  (.ret)))))
theorem c89 : TF E 89 n89 [(4, none)] t89 43 := tf_of (F := f89) rfl (by kernel_rfl) (by decide)

def n90 : List Nat := [0, 1, 2, 4, 5, 6, 7, 8, 9, 10, 11, 12, 13, 15, 16, 17, 18, 22, 23, 24, 25, 47, 48, 49, 51, 60]
def t90 : TC := .seq (.run 0 [.eff none (some 2) (.box 25 (.t 0)) (.cons 0 (.v 0) .nil) none,
     .asg 3 (.c (.int .i64 0)),
     .asg 4 (.c (.bool false))])
  (.seq (.seq (.run 0 [.asg 13 (.n (.load 9 (.t 14)) (.cons 14 (.n (.faddr 25 (.t 2) 3) (.cons 2 (.v 2) .nil)) .nil)),
      .asg 14 (.n (.len 9 (.t 15)) (.cons 15 (.v 13) .nil)),
      .asg 15 (.c (.int .i64 0))])
   (.block 0 (.loop (
       .seq (.run 0 [.asg 16 (.n (.bin .lss 2 (.t 17) (.t 16)) (.cons 17 (.v 15) (.cons 16 (.v 14) .nil)))])
       (.seq (.cond 16 (.skip) (.exit 0))
       (.seq (.block 1 (.seq (.run 0 [.asg 5 (.v 15),
             .asg 6 (.n (.load 6 (.t 20)) (.cons 20 (.n (.iaddr 9 (.t 15) (.t 17)) (.cons 15 (.v 13) (.cons 17 (.v 15) .nil))) .nil))])
          (.seq (.run 0 [.asg 17 (.v 6),
             .asg 18 (.n (.len 6 (.t 22)) (.cons 22 (.v 17) .nil)),
             .asg 19 (.c (.int .i64 0))])
          (.block 2 (.loop (
              .seq (.run 0 [.asg 20 (.n (.bin .lss 2 (.t 24) (.t 23)) (.cons 24 (.v 19) (.cons 23 (.v 18) .nil)))])
              (.seq (.cond 20 (.skip) (.exit 2))
              (.seq (.block 3 (.seq (.run 0 [.asg 7 (.v 19),
                    .asg 8 (.n (.load 2 (.t 27)) (.cons 27 (.n (.iaddr 6 (.t 22) (.t 24)) (.cons 22 (.v 17) (.cons 24 (.v 19) .nil))) .nil))])
                 (.run 0 [.asg 3 (.n (.bin .sub 2 (.t 29) (.t 40)) (.cons 29 (.v 3) (.cons 40 (.n (.bin .mul 2 (.t 30) (.t 39)) (.cons 30 (.v 8) (.cons 39 (.n (.load 2 (.t 38)) (.cons 38 (.n (.iaddr 6 (.t 36) (.t 37)) (.cons 36 (.n (.load 6 (.t 35)) (.cons 35 (.n (.iaddr 9 (.t 33) (.t 34)) (.cons 33 (.n (.load 9 (.t 32)) (.cons 32 (.n (.faddr 0 (.t 31) 1) (.cons 31 (.n (.faddr 25 (.t 2) 0) (.cons 2 (.v 2) .nil)) .nil)) .nil)) (.cons 34 (.v 5) .nil))) .nil)) (.cons 37 (.v 7) .nil))) .nil)) .nil))) .nil)))])))
              (.run 0 [.asg 19 (.n (.bin .add 2 (.t 24) (.c (.int .i64 1))) (.cons 24 (.v 19) .nil))])))))))))
       (.run 0 [.asg 15 (.n (.bin .add 2 (.t 17) (.c (.int .i64 1))) (.cons 17 (.v 15) .nil))])))))))
  (.seq (.seq (.run 0 [.asg 21 (.n (.len 14 (.t 46)) (.cons 46 (.n (.load 14 (.t 45)) (.cons 45 (.n (.faddr 0 (.t 44) 2) (.cons 44 (.n (.faddr 25 (.t 2) 0) (.cons 2 (.v 2) .nil)) .nil)) .nil)) .nil)),
      .asg 22 (.c (.int .i64 0))])
   (.block 4 (.loop (
       .seq (.run 0 [.asg 23 (.n (.bin .lss 2 (.t 48) (.t 47)) (.cons 48 (.v 22) (.cons 47 (.v 21) .nil)))])
       (.seq (.cond 23 (.skip) (.exit 4))
       (.seq (.block 5 (.seq (.run 0 [.asg 9 (.v 22)])
          (.seq (.run 0 [.asg 24 (.n (.call 0 (.f 97) [(.t 52), (.t 53), (.t 54)]) (.cons 52 (.n (.load 25 (.t 2)) (.cons 2 (.v 2) .nil)) (.cons 53 (.v 9) (.cons 54 (.v 1) .nil)))),
             .eff none (some 10) (.alloc 17) .nil none,
             .eff none none (.store 17 (.t 11) (.t 56)) (.cons 11 (.v 10) (.cons 56 (.n (.extract (.t 51) 0) (.cons 51 (.v 24) .nil)) .nil)) none,
             .asg 11 (.n (.extract (.t 51) 1) (.cons 51 (.v 24) .nil)),
             .asg 12 (.n (.extract (.t 51) 2) (.cons 51 (.v 24) .nil))])
          (.seq (.seq (.run 0 [.asg 25 (.n (.un .not (.t 59)) (.cons 59 (.v 12) .nil))])
           (.cond 25 (.seq (.run 0 [.asg 3 (.c (.int .i64 0)),
                .asg 4 (.c (.bool false))])
             (.ret)) (.skip)))
          (.run 0 [.asg 3 (.n (.bin .add 2 (.t 61) (.t 62)) (.cons 61 (.v 3) (.cons 62 (.v 11) .nil)))])))))
       (.run 0 [.asg 22 (.n (.bin .add 2 (.t 48) (.c (.int .i64 1))) (.cons 48 (.v 22) .nil))])))))))
  (.seq (.run 0 [.asg 3 (.v 3),
     .asg 4 (.c (.bool true))])
  (.ret))))
theorem c90 : TF E 90 n90 [(3, none), (4, none)] t90 66 := tf_of (F := f90) rfl (by kernel_rfl) (by decide)

def n93 : List Nat := [0, 1, 3]
def t93 : TC := .seq (.run 0 [.asg 2 (.c (.bool false))])
  (.seq (.run 0 [.asg 2 (.ite (.n (.bin .neq 2 (.t 5) (.t 8)) (.cons 5 (.n (.len 6 (.t 4)) (.cons 4 (.v 0) .nil)) (.cons 8 (.n (.len 10 (.t 7)) (.cons 7 (.n (.load 10 (.t 6)) (.cons 6 (.n (.faddr 0 (.t 1) 0) (.cons 1 (.v 1) .nil)) .nil)) .nil)) .nil))) (.c (.bool true)) (.n (.call 0 (.f 71) [(.t 11), (.f 112)]) (.cons 11 (.v 0) .nil)))])
  (.ret))
theorem c93 : TF E 93 n93 [(2, none)] t93 14 := tf_of (F := f93) rfl (by kernel_rfl) (by decide)

def n94 : List Nat := [0, 1, 4]
def t94 : TC := .seq (.run 0 [.asg 2 (.c (.bool false))])
  (.seq (.run 0 [.asg 2 (.n (.bin .geq 2 (.t 7) (.c (.int .i64 0))) (.cons 7 (.n (.call 0 (.f 113) [(.t 5), (.t 6)]) (.cons 5 (.v 0) (.cons 6 (.v 1) .nil))) .nil))])
  (.ret))
theorem c94 : TF E 94 n94 [(2, none)] t94 9 := tf_of (F := f94) rfl (by kernel_rfl) (by decide)

def n97 : List Nat := [0, 1, 2, 3, 5, 6, 7, 8, 9, 15, 20]
def t97 : TC := .seq (.run 0 [.eff none (some 3) (.box 25 (.t 0)) (.cons 0 (.v 0) .nil) none,
     .eff none (some 4) (.box 7 (.t 2)) (.cons 2 (.v 2) .nil) none,
     .eff none (some 5) (.alloc 17) .nil none,
     .asg 6 (.c (.int .i64 0)),
     .asg 7 (.c (.bool false))])
  (.seq (.run 0 [.asg 9 (.n (.load 15 (.t 14)) (.cons 14 (.n (.iaddr 14 (.t 12) (.t 13)) (.cons 12 (.n (.load 14 (.t 11)) (.cons 11 (.n (.faddr 0 (.t 10) 2) (.cons 10 (.n (.faddr 25 (.t 3) 0) (.cons 3 (.v 3) .nil)) .nil)) .nil)) (.cons 13 (.v 1) .nil))) .nil)),
     .eff none (some 8) (.alloc 15) .nil none,
     .eff none none (.store 15 (.t 9) (.t 15)) (.cons 9 (.v 8) (.cons 15 (.v 9) .nil)) none])
  (.seq (.run 0 [.eff none (some 10) (.call 1 (.f 116) [(.t 18), (.t 19)]) (.cons 18 (.n (.call 0 (.f 114) [(.t 16), (.t 17)]) (.cons 16 (.n (.load 25 (.t 3)) (.cons 3 (.v 3) .nil)) (.cons 17 (.v 1) .nil))) (.cons 19 (.n (.mkfn 115 [(.t 5), (.t 9), (.t 3)]) (.cons 5 (.v 4) (.cons 9 (.v 8) (.cons 3 (.v 3) .nil)))) .nil)) none,
     .eff none none (.store 17 (.t 6) (.t 21)) (.cons 6 (.v 5) (.cons 21 (.n (.extract (.t 20) 0) (.cons 20 (.v 10) .nil)) .nil)) none,
     .asg 6 (.n (.extract (.t 20) 1) (.cons 20 (.v 10) .nil)),
     .asg 7 (.n (.extract (.t 20) 2) (.cons 20 (.v 10) .nil))])
  (.ret)))
theorem c97 : TF E 97 n97 [(5, some 17), (6, none), (7, none)] t97 24 := tf_of (F := f97) rfl (by kernel_rfl) (by decide)

def n98 : List Nat := [0, 1, 2, 3, 4, 5, 7, 14]
def t98 : TC := .seq (.run 0 [.eff none (some 2) (.box 25 (.t 0)) (.cons 0 (.v 0) .nil) none,
     .eff none (some 3) (.box 20 (.t 1)) (.cons 1 (.v 1) .nil) none,
     .asg 4 (.c (.int .i64 0))])
  (.seq (.run 0 [.asg 6 (.n (.call 0 (.f 117) [(.t 10), (.t 11), (.f 118)]) (.cons 10 (.n (.load 10 (.t 9)) (.cons 9 (.n (.faddr 0 (.t 8) 0) (.cons 8 (.n (.faddr 25 (.t 2) 0) (.cons 2 (.v 2) .nil)) .nil)) .nil)) (.cons 11 (.n (.load 20 (.t 3)) (.cons 3 (.v 3) .nil)) .nil))),
     .asg 7 (.n (.extract (.t 7) 1) (.cons 7 (.v 6) .nil)),
     .asg 5 (.n (.extract (.t 7) 0) (.cons 7 (.v 6) .nil))])
  (.seq (.run 0 [.asg 4 (.v 5)])
  (.ret)))
theorem c98 : TF E 98 n98 [(4, none)] t98 16 := tf_of (F := f98) rfl (by kernel_rfl) (by decide)

def n105 : List Nat := [0, 2, 3, 5, 6, 7, 8, 9, 14]
def t105 : TC := .seq (.run 0 [.asg 1 (.c (.int .i64 0))])
  (.seq (.run 0 [.asg 2 (.c (.int .i64 0))])
  (.seq (.seq (.run 0 [.asg 4 (.v 0),
      .asg 5 (.n (.len 6 (.t 6)) (.cons 6 (.v 4) .nil)),
      .asg 6 (.c (.int .i64 0))])
   (.block 0 (.loop (
       .seq (.run 0 [.asg 7 (.n (.bin .lss 2 (.t 8) (.t 7)) (.cons 8 (.v 6) (.cons 7 (.v 5) .nil)))])
       (.seq (.cond 7 (.skip) (.exit 0))
       (.seq (.block 1 (.seq (.run 0 [.asg 3 (.n (.load 2 (.t 10)) (.cons 10 (.n (.iaddr 6 (.t 6) (.t 8)) (.cons 6 (.v 4) (.cons 8 (.v 6) .nil))) .nil))])
          (.seq (.run 0 [.asg 8 (.n (.bin .neq 2 (.t 12) (.t 13)) (.cons 12 (.v 3) (.cons 13 (.v 2) .nil)))])
          (.cond 8 (.seq (.run 0 [.asg 1 (.v 3)])
            (.ret)) (.skip)))))
       (.run 0 [.asg 6 (.n (.bin .add 2 (.t 8) (.c (.int .i64 1))) (.cons 8 (.v 6) .nil))])))))))
  (.seq (.run 0 [.asg 1 (.v 2)])
  (.ret))))
theorem c105 : TF E 105 n105 [(1, none)] t105 18 := tf_of (F := f105) rfl (by kernel_rfl) (by decide)

def n106 : List Nat := [0, 1, 4, 5, 7, 8, 9, 16]
def t106 : TC := .seq (.run 0 [.asg 2 (.c (.int .i64 0))])
  (.seq (.seq (.run 0 [.asg 4 (.n (.len 6 (.t 6)) (.cons 6 (.v 0) .nil)),
      .asg 5 (.c (.int .i64 0))])
   (.block 0 (.loop (
       .seq (.run 0 [.asg 6 (.n (.bin .lss 2 (.t 8) (.t 7)) (.cons 8 (.v 5) (.cons 7 (.v 4) .nil)))])
       (.seq (.cond 6 (.skip) (.exit 0))
       (.seq (.block 1 (.seq (.run 0 [.asg 3 (.v 5)])
          (.seq (.run 0 [.asg 7 (.n (.call 0 (.t 11) [(.t 15)]) (.cons 11 (.v 1) (.cons 15 (.n (.load 2 (.t 14)) (.cons 14 (.n (.iaddr 6 (.t 12) (.t 13)) (.cons 12 (.v 0) (.cons 13 (.v 3) .nil))) .nil)) .nil)))])
          (.cond 7 (.seq (.run 0 [.asg 2 (.v 3)])
            (.ret)) (.skip)))))
       (.run 0 [.asg 5 (.n (.bin .add 2 (.t 8) (.c (.int .i64 1))) (.cons 8 (.v 5) .nil))])))))))
  (.seq (.run 0 [.asg 2 (.c (.int .i64 (-1)))])
  (.ret)))
theorem c106 : TF E 106 n106 [(2, none)] t106 19 := tf_of (F := f106) rfl (by kernel_rfl) (by decide)

def n107 : List Nat := [0, 2]
def t107 : TC := .seq (.run 0 [.asg 1 (.c (.bool false))])
  (.seq (.run 0 [.asg 1 (.n (.bin .neq 2 (.t 3) (.t 4)) (.cons 3 (.v 0) (.cons 4 (.v 0) .nil)))])
  (.ret))
theorem c107 : TF E 107 n107 [(1, none)] t107 6 := tf_of (F := f107) rfl (by kernel_rfl) (by decide)

def n112 : List Nat := [0, 2]
def t112 : TC := .seq (.run 0 [.asg 1 (.c (.bool false))])
  (.seq (.run 0 [.asg 1 (.ite (.n (.bin .lss 2 (.t 3) (.c (.int .i64 0))) (.cons 3 (.v 0) .nil)) (.c (.bool true)) (.n (.bin .gtr 2 (.t 6) (.c (.int .i64 65536))) (.cons 6 (.v 0) .nil)))])
  (.ret))
theorem c112 : TF E 112 n112 [(1, none)] t112 9 := tf_of (F := f112) rfl (by kernel_rfl) (by decide)

def n113 : List Nat := [0, 1, 4, 5, 7, 8, 9, 16]
def t113 : TC := .seq (.run 0 [.asg 2 (.c (.int .i64 0))])
  (.seq (.seq (.run 0 [.asg 4 (.n (.len 9 (.t 6)) (.cons 6 (.v 0) .nil)),
      .asg 5 (.c (.int .i64 0))])
   (.block 0 (.loop (
       .seq (.run 0 [.asg 6 (.n (.bin .lss 2 (.t 8) (.t 7)) (.cons 8 (.v 5) (.cons 7 (.v 4) .nil)))])
       (.seq (.cond 6 (.skip) (.exit 0))
       (.seq (.block 1 (.seq (.run 0 [.asg 3 (.v 5)])
          (.seq (.run 0 [.asg 7 (.n (.call 0 (.t 11) [(.t 15)]) (.cons 11 (.v 1) (.cons 15 (.n (.load 6 (.t 14)) (.cons 14 (.n (.iaddr 9 (.t 12) (.t 13)) (.cons 12 (.v 0) (.cons 13 (.v 3) .nil))) .nil)) .nil)))])
          (.cond 7 (.seq (.run 0 [.asg 2 (.v 3)])
            (.ret)) (.skip)))))
       (.run 0 [.asg 5 (.n (.bin .add 2 (.t 8) (.c (.int .i64 1))) (.cons 8 (.v 5) .nil))])))))))
  (.seq (.run 0 [.asg 2 (.c (.int .i64 (-1)))])
  (.ret)))
theorem c113 : TF E 113 n113 [(2, none)] t113 19 := tf_of (F := f113) rfl (by kernel_rfl) (by decide)

def n114 : List Nat := [0, 1, 2, 3, 4]
def t114 : TC := .seq (.run 0 [.eff none (some 2) (.box 25 (.t 0)) (.cons 0 (.v 0) .nil) none,
     .eff none (some 3) (.box 2 (.t 1)) (.cons 1 (.v 1) .nil) none,
     .asg 4 (.c .nilfn)])
  (.seq (.run 0 [.asg 4 (.n (.mkfn 124 [(.t 2), (.t 3)]) (.cons 2 (.v 2) (.cons 3 (.v 3) .nil)))])
  (.ret))
theorem c114 : TF E 114 n114 [(4, none)] t114 6 := tf_of (F := f114) rfl (by kernel_rfl) (by decide)

def n115 : List Nat := [0, 1, 2, 3, 4, 5, 7, 8, 10, 11, 19, 20, 21, 22, 24, 30, 31, 32, 33]
def t115 : TC := .seq (.run 0 [.eff none (some 4) (.box 17 (.t 0)) (.cons 0 (.v 0) .nil) none,
     .asg 5 (.c (.int .i64 0))])
  (.seq (.seq (.run 0 [.asg 9 (.n (.load 7 (.t 1)) (.cons 1 (.v 1) .nil))])
   (.cond 9 (.run 0 [.asg 5 (.n (.bin .mul 2 (.t 13) (.t 16)) (.cons 13 (.n (.load 2 (.t 12)) (.cons 12 (.n (.faddr 17 (.t 4) 1) (.cons 4 (.v 4) .nil)) .nil)) (.cons 16 (.n (.len 6 (.t 15)) (.cons 15 (.n (.load 6 (.t 14)) (.cons 14 (.n (.faddr 15 (.t 2) 2) (.cons 2 (.v 2) .nil)) .nil)) .nil)) .nil)))]) (.skip)))
  (.seq (.seq (.run 0 [.asg 10 (.n (.load 18 (.t 18)) (.cons 18 (.n (.faddr 17 (.t 4) 3) (.cons 4 (.v 4) .nil)) .nil)),
      .asg 11 (.n (.len 18 (.t 19)) (.cons 19 (.v 10) .nil)),
      .asg 12 (.c (.int .i64 0))])
   (.block 0 (.loop (
       .seq (.run 0 [.asg 13 (.n (.bin .lss 2 (.t 21) (.t 20)) (.cons 21 (.v 12) (.cons 20 (.v 11) .nil)))])
       (.seq (.cond 13 (.skip) (.exit 0))
       (.seq (.block 1 (.seq (.run 0 [.asg 14 (.n (.load 19 (.t 23)) (.cons 23 (.n (.iaddr 18 (.t 19) (.t 21)) (.cons 19 (.v 10) (.cons 21 (.v 12) .nil))) .nil)),
             .eff none (some 6) (.alloc 19) .nil none,
             .eff none none (.store 19 (.t 7) (.t 24)) (.cons 7 (.v 6) (.cons 24 (.v 14) .nil)) none])
          (.seq (.run 0 [.asg 7 (.n (.call 0 (.f 98) [(.t 25), (.t 27)]) (.cons 25 (.n (.load 25 (.t 3)) (.cons 3 (.v 3) .nil)) (.cons 27 (.n (.load 20 (.t 26)) (.cons 26 (.n (.faddr 19 (.t 7) 0) (.cons 7 (.v 6) .nil)) .nil)) .nil)))])
          (.seq (.run 0 [.asg 15 (.n (.load 6 (.t 29)) (.cons 29 (.n (.faddr 15 (.t 2) 2) (.cons 2 (.v 2) .nil)) .nil)),
             .asg 16 (.n (.len 6 (.t 30)) (.cons 30 (.v 15) .nil)),
             .asg 17 (.c (.int .i64 0))])
          (.block 2 (.loop (
              .seq (.run 0 [.asg 18 (.n (.bin .lss 2 (.t 32) (.t 31)) (.cons 32 (.v 17) (.cons 31 (.v 16) .nil)))])
              (.seq (.cond 18 (.skip) (.exit 2))
              (.seq (.block 3 (.seq (.run 0 [.asg 8 (.n (.load 2 (.t 34)) (.cons 34 (.n (.iaddr 6 (.t 30) (.t 32)) (.cons 30 (.v 15) (.cons 32 (.v 17) .nil))) .nil))])
                 (.run 14 [.asg 5 (.n (.bin .add 2 (.t 36) (.t 47)) (.cons 36 (.v 5) (.cons 47 (.n (.bin .mul 2 (.t 44) (.t 46)) (.cons 44 (.n (.load 2 (.t 43)) (.cons 43 (.n (.iaddr 6 (.t 41) (.t 42)) (.cons 41 (.n (.load 6 (.t 40)) (.cons 40 (.n (.iaddr 9 (.t 38) (.t 39)) (.cons 38 (.n (.load 9 (.t 37)) (.cons 37 (.n (.faddr 25 (.t 3) 3) (.cons 3 (.v 3) .nil)) .nil)) (.cons 39 (.v 8) .nil))) .nil)) (.cons 42 (.v 7) .nil))) .nil)) (.cons 46 (.n (.load 2 (.t 45)) (.cons 45 (.n (.faddr 19 (.t 7) 1) (.cons 7 (.v 6) .nil)) .nil)) .nil))) .nil)))])))
              (.run 0 [.asg 17 (.n (.bin .add 2 (.t 32) (.c (.int .i64 1))) (.cons 32 (.v 17) .nil))]))))))))))
       (.run 0 [.asg 12 (.n (.bin .add 2 (.t 21) (.c (.int .i64 1))) (.cons 21 (.v 12) .nil))])))))))
  (.seq (.run 0 [.asg 5 (.v 5)])
  (.ret))))
theorem c115 : TF E 115 n115 [(5, none)] t115 52 := tf_of (F := f115) rfl (by kernel_rfl) (by decide)

def n116 : List Nat := [0, 1, 3, 4, 5, 6, 7, 8, 9, 10, 20, 24, 25]
def t116 : TC := .seq (.run 0 [.eff none (some 2) (.box 27 (.t 1)) (.cons 1 (.v 1) .nil) none,
     .eff none (some 3) (.alloc 17) .nil none,
     .eff none (some 4) (.alloc 2) .nil none,
     .eff none (some 5) (.alloc 7) .nil none])
  (.seq (.seq (.run 0 [.asg 8 (.v 0)])
   (.block 0 (.rfunc 8 [9] (.run 0 [.eff none (some 6) (.alloc 17) .nil none,
         .eff none none (.store 17 (.t 7) (.t 10)) (.cons 7 (.v 6) (.cons 10 (.v 9) .nil)) none]) (
       .block 1 (.seq (.run 0 [.asg 7 (.n (.call 0 (.t 11) [(.t 12)]) (.cons 11 (.n (.load 27 (.t 3)) (.cons 3 (.v 2) .nil)) (.cons 12 (.n (.load 17 (.t 7)) (.cons 7 (.v 6) .nil)) .nil)))])
         (.seq (.run 0 [.asg 10 (.ite (.n (.un .not (.t 14)) (.cons 14 (.n (.load 7 (.t 6)) (.cons 6 (.v 5) .nil)) .nil)) (.c (.bool true)) (.n (.bin .lss 2 (.t 17) (.t 18)) (.cons 17 (.v 7) (.cons 18 (.n (.load 2 (.t 5)) (.cons 5 (.v 4) .nil)) .nil))))])
         (.cond 10 (.run 0 [.eff none none (.store 17 (.t 4) (.t 21)) (.cons 4 (.v 3) (.cons 21 (.n (.load 17 (.t 7)) (.cons 7 (.v 6) .nil)) .nil)) none,
             .eff none none (.store 2 (.t 5) (.t 22)) (.cons 5 (.v 4) (.cons 22 (.v 7) .nil)) none,
             .eff none none (.store 7 (.t 6) (.c (.bool true))) (.cons 6 (.v 5) .nil) none]) (.skip))))))))
  (.seq (.seq (.run 6 [.asg 11 (.n (.load 2 (.t 5)) (.cons 5 (.v 4) .nil)),
      .asg 12 (.n (.load 7 (.t 6)) (.cons 6 (.v 5) .nil)),
      .eff none none (.store 17 (.t 4) (.t 23)) (.cons 4 (.v 3) (.cons 23 (.n (.load 17 (.t 4)) (.cons 4 (.v 3) .nil)) .nil)) (some 3),
      .eff none none (.store 2 (.t 5) (.t 24)) (.cons 5 (.v 4) (.cons 24 (.v 11) .nil)) (some 4),
      .eff none none (.store 7 (.t 6) (.t 25)) (.cons 6 (.v 5) (.cons 25 (.v 12) .nil)) (some 5)])
   (.chk [(4, 3), (5, 3), (5, 4)]))
  (.ret)))
theorem c116 : TF E 116 n116 [(3, some 17), (4, some 2), (5, some 7)] t116 26 := tf_of (F := f116) rfl (by kernel_rfl) (by decide)

def n117 : List Nat := [0, 1, 2, 4, 6, 7, 8, 9, 10, 11, 17, 31]
def t117 : TC := .seq (.run 0 [.eff none (some 3) (.box 20 (.t 1)) (.cons 1 (.v 1) .nil) none,
     .asg 4 (.c (.int .i64 0)),
     .asg 5 (.c (.bool false))])
  (.seq (.run 0 [.asg 6 (.n (.len 10 (.t 12)) (.cons 12 (.v 0) .nil))])
  (.seq (.run 0 [.asg 7 (.c (.int .i64 0)),
     .asg 8 (.v 6)])
  (.seq (.block 0 (.loop (
       .seq (.seq (.run 0 [.asg 10 (.n (.bin .lss 2 (.t 15) (.t 16)) (.cons 15 (.v 7) (.cons 16 (.v 8) .nil)))])
        (.cond 10 (.skip) (.exit 0)))
       (.block 1 (.seq (.run 0 [.asg 9 (.n (.conv 12 2 (.t 22)) (.cons 22 (.n (.bin .shr 12 (.t 21) (.c (.int .u64 1))) (.cons 21 (.n (.conv 2 12 (.t 20)) (.cons 20 (.n (.bin .add 2 (.t 18) (.t 19)) (.cons 18 (.v 7) (.cons 19 (.v 8) .nil))) .nil)) .nil)) .nil))])
         (.seq (.run 8 [.asg 11 (.n (.bin .lss 2 (.t 30) (.c (.int .i64 0))) (.cons 30 (.n (.call 0 (.t 24) [(.t 28), (.t 29)]) (.cons 24 (.v 2) (.cons 28 (.n (.load 20 (.t 27)) (.cons 27 (.n (.iaddr 10 (.t 25) (.t 26)) (.cons 25 (.v 0) (.cons 26 (.v 9) .nil))) .nil)) (.cons 29 (.n (.load 20 (.t 4)) (.cons 4 (.v 3) .nil)) .nil)))) .nil))])
         (.cond 11 (.run 0 [.asg 7 (.n (.bin .add 2 (.t 32) (.c (.int .i64 1))) (.cons 32 (.v 9) .nil))]) (.run 0 [.asg 8 (.v 9)]))))))))
  (.seq (.run 16 [.asg 4 (.v 7),
     .asg 5 (.ite (.n (.bin .lss 2 (.t 36) (.t 37)) (.cons 36 (.v 7) (.cons 37 (.v 6) .nil))) (.n (.bin .eql 2 (.t 46) (.c (.int .i64 0))) (.cons 46 (.n (.call 0 (.t 40) [(.t 44), (.t 45)]) (.cons 40 (.v 2) (.cons 44 (.n (.load 20 (.t 43)) (.cons 43 (.n (.iaddr 10 (.t 41) (.t 42)) (.cons 41 (.v 0) (.cons 42 (.v 7) .nil))) .nil)) (.cons 45 (.n (.load 20 (.t 4)) (.cons 4 (.v 3) .nil)) .nil)))) .nil)) (.c (.bool false)))])
  (.ret)))))
theorem c117 : TF E 117 n117 [(4, none), (5, none)] t117 49 := tf_of (F := f117) rfl (by kernel_rfl) (by decide)

def n118 : List Nat := [0, 1, 2, 3, 4, 5]
def t118 : TC := .seq (.run 0 [.eff none (some 2) (.box 20 (.t 0)) (.cons 0 (.v 0) .nil) none,
     .eff none (some 3) (.box 20 (.t 1)) (.cons 1 (.v 1) .nil) none,
     .asg 4 (.c (.int .i64 0))])
  (.seq (.run 0 [.asg 5 (.c (.fn 125 []))])
  (.seq (.run 20 [.asg 4 (.n (.call 0 (.f 105) [(.t 23)]) (.cons 23 (.n (.bslice false 6 3 [(0, (.t 12)), (1, (.t 17)), (2, (.t 22))]) (.cons 12 (.n (.call 0 (.f 74) [(.t 8), (.t 11)]) (.cons 8 (.n (.call 0 (.t 6) [(.t 7)]) (.cons 6 (.v 5) (.cons 7 (.n (.load 20 (.t 2)) (.cons 2 (.v 2) .nil)) .nil))) (.cons 11 (.n (.call 0 (.t 9) [(.t 10)]) (.cons 9 (.v 5) (.cons 10 (.n (.load 20 (.t 3)) (.cons 3 (.v 3) .nil)) .nil))) .nil))) (.cons 17 (.n (.call 0 (.f 74) [(.t 14), (.t 16)]) (.cons 14 (.n (.load 2 (.t 13)) (.cons 13 (.n (.faddr 20 (.t 2) 1) (.cons 2 (.v 2) .nil)) .nil)) (.cons 16 (.n (.load 2 (.t 15)) (.cons 15 (.n (.faddr 20 (.t 3) 1) (.cons 3 (.v 3) .nil)) .nil)) .nil))) (.cons 22 (.n (.call 0 (.f 74) [(.t 19), (.t 21)]) (.cons 19 (.n (.load 2 (.t 18)) (.cons 18 (.n (.faddr 20 (.t 2) 2) (.cons 2 (.v 2) .nil)) .nil)) (.cons 21 (.n (.load 2 (.t 20)) (.cons 20 (.n (.faddr 20 (.t 3) 2) (.cons 3 (.v 3) .nil)) .nil)) .nil))) .nil)))) .nil))])
  (.ret)))
theorem c118 : TF E 118 n118 [(4, none)] t118 25 := tf_of (F := f118) rfl (by kernel_rfl) (by decide)

def n124 : List Nat := [0, 1, 2, 4, 5, 12, 13, 14, 15, 18, 40, 43, 45]
def t124 : TC := .seq (.run 0 [.asg 5 (.n (.load 16 (.t 11)) (.cons 11 (.n (.faddr 15 (.t 10) 3) (.cons 10 (.n (.iaddr 14 (.t 8) (.t 9)) (.cons 8 (.n (.load 14 (.t 7)) (.cons 7 (.n (.faddr 0 (.t 6) 2) (.cons 6 (.n (.faddr 25 (.t 1) 0) (.cons 1 (.v 1) .nil)) .nil)) .nil)) (.cons 9 (.n (.load 2 (.t 2)) (.cons 2 (.v 2) .nil)) .nil))) .nil)) .nil)),
     .asg 6 (.n (.len 16 (.t 12)) (.cons 12 (.v 5) .nil)),
     .asg 7 (.c (.int .i64 0))])
  (.block 0 (.loop (
      .seq (.run 0 [.asg 8 (.n (.bin .lss 2 (.t 14) (.t 13)) (.cons 14 (.v 7) (.cons 13 (.v 6) .nil)))])
      (.seq (.cond 8 (.skip) (.exit 0))
      (.seq (.block 1 (.seq (.run 0 [.asg 9 (.n (.load 17 (.t 17)) (.cons 17 (.n (.iaddr 16 (.t 12) (.t 14)) (.cons 12 (.v 5) (.cons 14 (.v 7) .nil))) .nil)),
            .eff none (some 4) (.alloc 17) .nil none,
            .asg 3 (.v 7),
            .eff none none (.store 17 (.t 5) (.t 18)) (.cons 5 (.v 4) (.cons 18 (.v 9) .nil)) none])
         (.seq (.run 0 [.asg 10 (.ite (.n (.bin .leq 2 (.t 20) (.t 22)) (.cons 20 (.n (.load 2 (.t 19)) (.cons 19 (.n (.faddr 17 (.t 5) 0) (.cons 5 (.v 4) .nil)) .nil)) (.cons 22 (.n (.load 2 (.t 21)) (.cons 21 (.n (.faddr 25 (.t 1) 2) (.cons 1 (.v 1) .nil)) .nil)) .nil))) (.ite (.n (.bin .geq 2 (.t 25) (.t 28)) (.cons 25 (.n (.load 2 (.t 2)) (.cons 2 (.v 2) .nil)) (.cons 28 (.n (.len 1 (.t 27)) (.cons 27 (.n (.load 1 (.t 26)) (.cons 26 (.n (.faddr 25 (.t 1) 1) (.cons 1 (.v 1) .nil)) .nil)) .nil)) .nil))) (.c (.bool true)) (.n (.bin .eql 2 (.t 35) (.t 36)) (.cons 35 (.n (.load 2 (.t 34)) (.cons 34 (.n (.iaddr 1 (.t 32) (.t 33)) (.cons 32 (.n (.load 1 (.t 31)) (.cons 31 (.n (.faddr 25 (.t 1) 1) (.cons 1 (.v 1) .nil)) .nil)) (.cons 33 (.n (.load 2 (.t 2)) (.cons 2 (.v 2) .nil)) .nil))) .nil)) (.cons 36 (.v 3) .nil)))) (.c (.bool false))),
            .eff (some ((.v 10), true)) (some 11) (.call 2 (.t 41) [(.t 42)]) (.cons 41 (.v 0) (.cons 42 (.n (.load 17 (.t 5)) (.cons 5 (.v 4) .nil)) .nil)) none,
            .asg 12 (.ite (.v 10) (.n (.un .not (.t 43)) (.cons 43 (.v 11) .nil)) (.c (.bool false)))])
         (.cond 12 (.ret) (.skip)))))
      (.run 0 [.asg 7 (.n (.bin .add 2 (.t 14) (.c (.int .i64 1))) (.cons 14 (.v 7) .nil))]))))))
theorem c124 : TF E 124 n124 [] t124 47 := tf_of (F := f124) rfl (by kernel_rfl) (by decide)

def n125 : List Nat := [0, 1, 2, 4]
def t125 : TC := .seq (.run 0 [.eff none (some 1) (.box 20 (.t 0)) (.cons 0 (.v 0) .nil) none,
     .asg 2 (.c (.int .i64 0))])
  (.seq (.seq (.run 0 [.asg 3 (.n (.load 7 (.t 3)) (.cons 3 (.n (.faddr 20 (.t 1) 0) (.cons 1 (.v 1) .nil)) .nil))])
   (.cond 3 (.seq (.run 0 [.asg 2 (.c (.int .i64 1))])
     (.ret)) (.skip)))
  (.seq (.run 0 [.asg 2 (.c (.int .i64 0))])
  (.ret)))
theorem c125 : TF E 125 n125 [(2, none)] t125 5 := tf_of (F := f125) rfl (by kernel_rfl) (by decide)

theorem ty_0 : E.ty 0 = ⟨.struct [(0, 10), (1, 9), (2, 14)], 3, 72, [(.imm .exact []), (.imm .exact []), (.imm .exact [])], false⟩ := rfl
theorem ty_1 : E.ty 1 = ⟨.slice 2, 1, 24, [(.imm .exact [])], false⟩ := rfl
theorem ty_2 : E.ty 2 = ⟨.int .i64, 1, 8, [(.int .i64 0)], false⟩ := rfl
theorem ty_3 : E.ty 3 = ⟨.int .i64, 1, 8, [(.int .i64 0)], false⟩ := rfl
theorem ty_4 : E.ty 4 = ⟨.slice 1, 1, 24, [(.imm .exact [])], false⟩ := rfl
theorem ty_5 : E.ty 5 = ⟨.slice 7, 1, 24, [(.imm .exact [])], false⟩ := rfl
theorem ty_6 : E.ty 6 = ⟨.slice 2, 1, 24, [(.imm .exact [])], false⟩ := rfl
theorem ty_7 : E.ty 7 = ⟨.bool, 1, 1, [(.bool false)], false⟩ := rfl
theorem ty_8 : E.ty 8 = ⟨.slice 11, 1, 24, [(.imm .exact [])], false⟩ := rfl
theorem ty_9 : E.ty 9 = ⟨.slice 6, 1, 24, [(.imm .exact [])], false⟩ := rfl
theorem ty_10 : E.ty 10 = ⟨.slice 20, 1, 24, [(.imm .exact [])], false⟩ := rfl
theorem ty_11 : E.ty 11 = ⟨.struct [(0, 2), (1, 2)], 2, 16, [(.int .i64 0), (.int .i64 0)], true⟩ := rfl
theorem ty_12 : E.ty 12 = ⟨.int .u64, 1, 8, [(.int .u64 0)], false⟩ := rfl
theorem ty_13 : E.ty 13 = ⟨.int .u8, 1, 1, [(.int .u8 0)], false⟩ := rfl
theorem ty_14 : E.ty 14 = ⟨.slice 15, 1, 24, [(.imm .exact [])], false⟩ := rfl
theorem ty_15 : E.ty 15 = ⟨.struct [(0, 2), (1, 2), (2, 6), (3, 16)], 4, 64, [(.int .i64 0), (.int .i64 0), (.imm .exact []), (.imm .exact [])], false⟩ := rfl
theorem ty_16 : E.ty 16 = ⟨.slice 17, 1, 24, [(.imm .exact [])], false⟩ := rfl
theorem ty_17 : E.ty 17 = ⟨.struct [(0, 2), (1, 2), (2, 2), (3, 18)], 4, 48, [(.int .i64 0), (.int .i64 0), (.int .i64 0), (.imm .exact [])], false⟩ := rfl
theorem ty_18 : E.ty 18 = ⟨.slice 19, 1, 24, [(.imm .exact [])], false⟩ := rfl
theorem ty_19 : E.ty 19 = ⟨.struct [(0, 20), (3, 2)], 4, 32, [(.bool false), (.int .i64 0), (.int .i64 0), (.int .i64 0)], true⟩ := rfl
theorem ty_20 : E.ty 20 = ⟨.struct [(0, 7), (1, 2), (2, 2)], 3, 24, [(.bool false), (.int .i64 0), (.int .i64 0)], true⟩ := rfl
theorem ty_21 : E.ty 21 = ⟨.map 20 7, 1, 8, [(.map none)], false⟩ := rfl
theorem ty_22 : E.ty 22 = ⟨.arr 4 2, 4, 32, [(.int .i64 0), (.int .i64 0), (.int .i64 0), (.int .i64 0)], true⟩ := rfl
theorem ty_23 : E.ty 23 = ⟨.arr 2 6, 2, 48, [(.imm .exact []), (.imm .exact [])], false⟩ := rfl
theorem ty_24 : E.ty 24 = ⟨.slice 23, 1, 24, [(.imm .exact [])], false⟩ := rfl
theorem ty_25 : E.ty 25 = ⟨.struct [(0, 0), (3, 1), (4, 2), (5, 9)], 6, 128, [(.imm .exact []), (.imm .exact []), (.imm .exact []), (.imm .exact []), (.int .i64 0), (.imm .exact [])], false⟩ := rfl
theorem ty_26 : E.ty 26 = ⟨.map 20 2, 1, 8, [(.map none)], false⟩ := rfl
theorem ty_27 : E.ty 27 = ⟨.func, 1, 8, [.nilfn], false⟩ := rfl

end Dv
