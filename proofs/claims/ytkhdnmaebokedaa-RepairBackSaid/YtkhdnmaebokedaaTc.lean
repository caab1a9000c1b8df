/- Texts that a proof of this claim uses, joined: Lw.TCode. -/
import Derived.Test.YtkhdnmaebokedaaLwa
import Derived.Test.YtkhdnmaebokedaaCode
import Derived.KernelRfl
set_option linter.all false
/- The tidy code of the functions, as printed by program. -/
namespace Dv
open Go (IntKind BinOp UnOp)

def n2 : List Nat := [0, 1, 2, 3, 4, 5, 6, 22, 27, 36, 41, 48, 58, 63, 73]
def t2 : TC := .seq (.run 0 [.eff none (some 1) (.box 0 (.t 0)) (.cons 0 (.v 0) .nil) none,
     .asg 2 (.c (.bool false))])
  (.seq (.seq (.run 0 [.asg 7 (.ite (.ite (.n (.bin .gtr 2 (.t 9) (.c (.int .i64 12))) (.cons 9 (.n (.len 10 (.t 8)) (.cons 8 (.n (.load 10 (.t 7)) (.cons 7 (.n (.faddr 0 (.t 1) 0) (.cons 1 (.v 1) .nil)) .nil)) .nil)) .nil)) (.c (.bool true)) (.n (.bin .gtr 2 (.t 14) (.c (.int .i64 4))) (.cons 14 (.n (.len 9 (.t 13)) (.cons 13 (.n (.load 9 (.t 12)) (.cons 12 (.n (.faddr 0 (.t 1) 1) (.cons 1 (.v 1) .nil)) .nil)) .nil)) .nil))) (.c (.bool true)) (.n (.bin .gtr 2 (.t 20) (.c (.int .i64 6))) (.cons 20 (.n (.len 14 (.t 19)) (.cons 19 (.n (.load 14 (.t 18)) (.cons 18 (.n (.faddr 0 (.t 1) 2) (.cons 1 (.v 1) .nil)) .nil)) .nil)) .nil)))])
   (.cond 7 (.seq (.run 0 [.asg 2 (.c (.bool false))])
     (.ret)) (.skip)))
  (.seq (.seq (.run 0 [.asg 3 (.c (.int .i64 0))])
   (.block 0 (.loop (
       .seq (.seq (.run 0 [.asg 8 (.n (.bin .lss 2 (.t 23) (.t 26)) (.cons 23 (.v 3) (.cons 26 (.n (.len 9 (.t 25)) (.cons 25 (.n (.load 9 (.t 24)) (.cons 24 (.n (.faddr 0 (.t 1) 1) (.cons 1 (.v 1) .nil)) .nil)) .nil)) .nil)))])
        (.cond 8 (.skip) (.exit 0)))
       (.seq (.block 1 (.seq (.run 0 [.asg 9 (.n (.bin .gtr 2 (.t 35) (.c (.int .i64 16))) (.cons 35 (.n (.len 6 (.t 34)) (.cons 34 (.n (.load 6 (.t 33)) (.cons 33 (.n (.iaddr 9 (.t 31) (.t 32)) (.cons 31 (.n (.load 9 (.t 30)) (.cons 30 (.n (.faddr 0 (.t 1) 1) (.cons 1 (.v 1) .nil)) .nil)) (.cons 32 (.v 3) .nil))) .nil)) .nil)) .nil))])
          (.cond 9 (.seq (.run 0 [.asg 2 (.c (.bool false))])
            (.ret)) (.skip))))
       (.run 0 [.asg 3 (.n (.bin .add 2 (.t 28) (.c (.int .i64 1))) (.cons 28 (.v 3) .nil))]))))))
  (.seq (.seq (.run 0 [.asg 4 (.c (.int .i64 0))])
   (.block 2 (.loop (
       .seq (.seq (.run 0 [.asg 10 (.n (.bin .lss 2 (.t 37) (.t 40)) (.cons 37 (.v 4) (.cons 40 (.n (.len 14 (.t 39)) (.cons 39 (.n (.load 14 (.t 38)) (.cons 38 (.n (.faddr 0 (.t 1) 2) (.cons 1 (.v 1) .nil)) .nil)) .nil)) .nil)))])
        (.cond 10 (.skip) (.exit 2)))
       (.seq (.block 3 (.seq (.run 0 [.asg 11 (.n (.load 15 (.t 47)) (.cons 47 (.n (.iaddr 14 (.t 45) (.t 46)) (.cons 45 (.n (.load 14 (.t 44)) (.cons 44 (.n (.faddr 0 (.t 1) 2) (.cons 1 (.v 1) .nil)) .nil)) (.cons 46 (.v 4) .nil))) .nil)),
             .eff none (some 5) (.alloc 15) .nil none,
             .eff none none (.store 15 (.t 5) (.t 48)) (.cons 5 (.v 5) (.cons 48 (.v 11) .nil)) none])
          (.seq (.seq (.run 0 [.asg 12 (.ite (.n (.bin .gtr 2 (.t 51) (.c (.int .i64 8))) (.cons 51 (.n (.len 6 (.t 50)) (.cons 50 (.n (.load 6 (.t 49)) (.cons 49 (.n (.faddr 15 (.t 5) 2) (.cons 5 (.v 5) .nil)) .nil)) .nil)) .nil)) (.c (.bool true)) (.n (.bin .gtr 2 (.t 56) (.c (.int .i64 8))) (.cons 56 (.n (.len 16 (.t 55)) (.cons 55 (.n (.load 16 (.t 54)) (.cons 54 (.n (.faddr 15 (.t 5) 3) (.cons 5 (.v 5) .nil)) .nil)) .nil)) .nil)))])
           (.cond 12 (.seq (.run 0 [.asg 2 (.c (.bool false))])
             (.ret)) (.skip)))
          (.seq (.run 0 [.asg 6 (.c (.int .i64 0))])
          (.block 4 (.loop (
              .seq (.seq (.run 0 [.asg 13 (.n (.bin .lss 2 (.t 59) (.t 62)) (.cons 59 (.v 6) (.cons 62 (.n (.len 16 (.t 61)) (.cons 61 (.n (.load 16 (.t 60)) (.cons 60 (.n (.faddr 15 (.t 5) 3) (.cons 5 (.v 5) .nil)) .nil)) .nil)) .nil)))])
               (.cond 13 (.skip) (.exit 4)))
              (.seq (.block 5 (.seq (.run 0 [.asg 14 (.n (.bin .gtr 2 (.t 72) (.c (.int .i64 12))) (.cons 72 (.n (.len 18 (.t 71)) (.cons 71 (.n (.load 18 (.t 70)) (.cons 70 (.n (.faddr 17 (.t 69) 3) (.cons 69 (.n (.iaddr 16 (.t 67) (.t 68)) (.cons 67 (.n (.load 16 (.t 66)) (.cons 66 (.n (.faddr 15 (.t 5) 3) (.cons 5 (.v 5) .nil)) .nil)) (.cons 68 (.v 6) .nil))) .nil)) .nil)) .nil)) .nil))])
                 (.cond 14 (.seq (.run 0 [.asg 2 (.c (.bool false))])
                   (.ret)) (.skip))))
              (.run 0 [.asg 6 (.n (.bin .add 2 (.t 64) (.c (.int .i64 1))) (.cons 64 (.v 6) .nil))])))))))))
       (.run 0 [.asg 4 (.n (.bin .add 2 (.t 42) (.c (.int .i64 1))) (.cons 42 (.v 4) .nil))]))))))
  (.seq (.run 0 [.asg 2 (.n (.bin .lss 2 (.t 75) (.c (.int .i64 2000))) (.cons 75 (.n (.call 0 (.f 61) [(.t 74), (.c (.int .i64 2000))]) (.cons 74 (.n (.load 0 (.t 1)) (.cons 1 (.v 1) .nil)) .nil)) .nil))])
  (.ret)))))
theorem c2 : TF E 2 n2 [(2, none)] t2 77 := tf_of (F := f2) rfl (by kernel_rfl) (by decide)

def n15 : List Nat := [0, 1, 2, 3, 5, 7, 9, 11, 12, 14, 37, 38, 40, 41, 42, 43, 45, 53, 58, 59, 60, 61, 73, 76, 77, 78, 79, 81, 119, 121, 122, 123, 124, 126, 151, 153, 154, 155, 156, 158, 169]
def t15 : TC := .seq (.run 0 [.eff none (some 1) (.box 0 (.t 0)) (.cons 0 (.v 0) .nil) none,
     .asg 2 (.c (.int .i64 0))])
  (.seq (.seq (.run 0 [.asg 10 (.ite (.ite (.ite (.n (.bin .gtr 2 (.t 17) (.c (.int .i64 4096))) (.cons 17 (.n (.len 10 (.t 16)) (.cons 16 (.n (.load 10 (.t 15)) (.cons 15 (.n (.faddr 0 (.t 1) 0) (.cons 1 (.v 1) .nil)) .nil)) .nil)) .nil)) (.c (.bool true)) (.n (.un .not (.t 23)) (.cons 23 (.n (.call 0 (.f 67) [(.t 22), (.c (.int .i64 1)), (.c (.int .i64 32))]) (.cons 22 (.n (.len 9 (.t 21)) (.cons 21 (.n (.load 9 (.t 20)) (.cons 20 (.n (.faddr 0 (.t 1) 1) (.cons 1 (.v 1) .nil)) .nil)) .nil)) .nil)) .nil))) (.c (.bool true)) (.n (.bin .gtr 2 (.t 29) (.c (.int .i64 64))) (.cons 29 (.n (.len 14 (.t 28)) (.cons 28 (.n (.load 14 (.t 27)) (.cons 27 (.n (.faddr 0 (.t 1) 2) (.cons 1 (.v 1) .nil)) .nil)) .nil)) .nil))) (.c (.bool true)) (.n (.un .not (.t 35)) (.cons 35 (.n (.call 0 (.f 69) [(.t 34), (.f 70)]) (.cons 34 (.n (.load 10 (.t 33)) (.cons 33 (.n (.faddr 0 (.t 1) 0) (.cons 1 (.v 1) .nil)) .nil)) .nil)) .nil)))])
   (.cond 10 (.seq (.run 0 [.asg 2 (.c (.int .i64 270))])
     (.ret)) (.skip)))
  (.seq (.run 0 [.eff none (some 11) (.mkmap 21) .nil none,
     .asg 3 (.v 11)])
  (.seq (.seq (.run 0 [.asg 12 (.n (.load 10 (.t 39)) (.cons 39 (.n (.faddr 0 (.t 1) 0) (.cons 1 (.v 1) .nil)) .nil)),
      .asg 13 (.n (.len 10 (.t 40)) (.cons 40 (.v 12) .nil)),
      .asg 14 (.c (.int .i64 0))])
   (.block 0 (.loop (
       .seq (.run 0 [.asg 15 (.n (.bin .lss 2 (.t 42) (.t 41)) (.cons 42 (.v 14) (.cons 41 (.v 13) .nil)))])
       (.seq (.cond 15 (.skip) (.exit 0))
       (.seq (.block 1 (.seq (.run 0 [.asg 16 (.n (.load 20 (.t 44)) (.cons 44 (.n (.iaddr 10 (.t 40) (.t 42)) (.cons 40 (.v 12) (.cons 42 (.v 14) .nil))) .nil)),
             .eff none (some 4) (.alloc 20) .nil none,
             .eff none none (.store 20 (.t 5) (.t 45)) (.cons 5 (.v 4) (.cons 45 (.v 16) .nil)) none])
          (.seq (.seq (.run 0 [.asg 17 (.ite (.n (.bin .lss 2 (.t 47) (.c (.int .i64 0))) (.cons 47 (.n (.load 2 (.t 46)) (.cons 46 (.n (.faddr 20 (.t 5) 1) (.cons 5 (.v 4) .nil)) .nil)) .nil)) (.c (.bool true)) (.n (.bin .lss 2 (.t 51) (.c (.int .i64 0))) (.cons 51 (.n (.load 2 (.t 50)) (.cons 50 (.n (.faddr 20 (.t 5) 2) (.cons 5 (.v 4) .nil)) .nil)) .nil)))])
           (.cond 17 (.seq (.run 0 [.asg 2 (.c (.int .i64 270))])
             (.ret)) (.skip)))
          (.run 0 [.eff none none (.mapset 21 (.t 54) (.t 55) (.c (.bool true))) (.cons 54 (.v 3) (.cons 55 (.n (.load 20 (.t 5)) (.cons 5 (.v 4) .nil)) .nil)) none]))))
       (.run 0 [.asg 14 (.n (.bin .add 2 (.t 42) (.c (.int .i64 1))) (.cons 42 (.v 14) .nil))])))))))
  (.seq (.seq (.run 0 [.asg 18 (.n (.load 9 (.t 57)) (.cons 57 (.n (.faddr 0 (.t 1) 1) (.cons 1 (.v 1) .nil)) .nil)),
      .asg 19 (.n (.len 9 (.t 58)) (.cons 58 (.v 18) .nil)),
      .asg 20 (.c (.int .i64 0))])
   (.block 2 (.loop (
       .seq (.run 0 [.asg 21 (.n (.bin .lss 2 (.t 60) (.t 59)) (.cons 60 (.v 20) (.cons 59 (.v 19) .nil)))])
       (.seq (.cond 21 (.skip) (.exit 2))
       (.seq (.block 3 (.seq (.run 0 [.asg 5 (.n (.load 6 (.t 62)) (.cons 62 (.n (.iaddr 9 (.t 58) (.t 60)) (.cons 58 (.v 18) (.cons 60 (.v 20) .nil))) .nil))])
          (.seq (.run 0 [.asg 22 (.ite (.n (.bin .neq 2 (.t 65) (.t 68)) (.cons 65 (.n (.len 6 (.t 64)) (.cons 64 (.v 5) .nil)) (.cons 68 (.n (.len 10 (.t 67)) (.cons 67 (.n (.load 10 (.t 66)) (.cons 66 (.n (.faddr 0 (.t 1) 0) (.cons 1 (.v 1) .nil)) .nil)) .nil)) .nil))) (.c (.bool true)) (.n (.call 0 (.f 71) [(.t 71), (.f 72)]) (.cons 71 (.v 5) .nil)))])
          (.cond 22 (.seq (.run 0 [.asg 2 (.c (.int .i64 270))])
            (.ret)) (.skip)))))
       (.run 0 [.asg 20 (.n (.bin .add 2 (.t 60) (.c (.int .i64 1))) (.cons 60 (.v 20) .nil))])))))))
  (.seq (.seq (.run 0 [.asg 23 (.n (.load 14 (.t 75)) (.cons 75 (.n (.faddr 0 (.t 1) 2) (.cons 1 (.v 1) .nil)) .nil)),
      .asg 24 (.n (.len 14 (.t 76)) (.cons 76 (.v 23) .nil)),
      .asg 25 (.c (.int .i64 0))])
   (.block 4 (.loop (
       .seq (.run 0 [.asg 26 (.n (.bin .lss 2 (.t 78) (.t 77)) (.cons 78 (.v 25) (.cons 77 (.v 24) .nil)))])
       (.seq (.cond 26 (.skip) (.exit 4))
       (.seq (.block 5 (.seq (.run 0 [.asg 27 (.n (.load 15 (.t 80)) (.cons 80 (.n (.iaddr 14 (.t 76) (.t 78)) (.cons 76 (.v 23) (.cons 78 (.v 25) .nil))) .nil)),
             .eff none (some 6) (.alloc 15) .nil none,
             .eff none none (.store 15 (.t 9) (.t 81)) (.cons 9 (.v 6) (.cons 81 (.v 27) .nil)) none])
          (.seq (.seq (.run 38 [.asg 28 (.ite (.ite (.ite (.ite (.n (.bin .eql 2 (.t 84) (.c (.int .i64 0))) (.cons 84 (.n (.len 6 (.t 83)) (.cons 83 (.n (.load 6 (.t 82)) (.cons 82 (.n (.faddr 15 (.t 9) 2) (.cons 9 (.v 6) .nil)) .nil)) .nil)) .nil)) (.c (.bool true)) (.n (.un .not (.t 90)) (.cons 90 (.n (.call 0 (.f 67) [(.t 89), (.c (.int .i64 1)), (.c (.int .i64 96))]) (.cons 89 (.n (.len 16 (.t 88)) (.cons 88 (.n (.load 16 (.t 87)) (.cons 87 (.n (.faddr 15 (.t 9) 3) (.cons 9 (.v 6) .nil)) .nil)) .nil)) .nil)) .nil))) (.c (.bool true)) (.n (.un .not (.t 96)) (.cons 96 (.n (.call 0 (.f 73) [(.t 95), (.f 74)]) (.cons 95 (.n (.load 6 (.t 94)) (.cons 94 (.n (.faddr 15 (.t 9) 2) (.cons 9 (.v 6) .nil)) .nil)) .nil)) .nil))) (.c (.bool true)) (.n (.bin .lss 2 (.t 103) (.c (.int .i64 0))) (.cons 103 (.n (.load 2 (.t 102)) (.cons 102 (.n (.iaddr 6 (.t 101) (.c (.int .i64 0))) (.cons 101 (.n (.load 6 (.t 100)) (.cons 100 (.n (.faddr 15 (.t 9) 2) (.cons 9 (.v 6) .nil)) .nil)) .nil)) .nil)) .nil))) (.c (.bool true)) (.n (.bin .geq 2 (.t 114) (.t 117)) (.cons 114 (.n (.load 2 (.t 113)) (.cons 113 (.n (.iaddr 6 (.t 108) (.t 112)) (.cons 108 (.n (.load 6 (.t 107)) (.cons 107 (.n (.faddr 15 (.t 9) 2) (.cons 9 (.v 6) .nil)) .nil)) (.cons 112 (.n (.bin .sub 2 (.t 111) (.c (.int .i64 1))) (.cons 111 (.n (.len 6 (.t 110)) (.cons 110 (.n (.load 6 (.t 109)) (.cons 109 (.n (.faddr 15 (.t 9) 2) (.cons 9 (.v 6) .nil)) .nil)) .nil)) .nil)) .nil))) .nil)) (.cons 117 (.n (.len 9 (.t 116)) (.cons 116 (.n (.load 9 (.t 115)) (.cons 115 (.n (.faddr 0 (.t 1) 1) (.cons 1 (.v 1) .nil)) .nil)) .nil)) .nil))))])
           (.cond 28 (.seq (.run 0 [.asg 2 (.c (.int .i64 270))])
             (.ret)) (.skip)))
          (.seq (.run 0 [.asg 29 (.n (.load 16 (.t 120)) (.cons 120 (.n (.faddr 15 (.t 9) 3) (.cons 9 (.v 6) .nil)) .nil)),
             .asg 30 (.n (.len 16 (.t 121)) (.cons 121 (.v 29) .nil)),
             .asg 31 (.c (.int .i64 0))])
          (.block 6 (.loop (
              .seq (.run 0 [.asg 32 (.n (.bin .lss 2 (.t 123) (.t 122)) (.cons 123 (.v 31) (.cons 122 (.v 30) .nil)))])
              (.seq (.cond 32 (.skip) (.exit 6))
              (.seq (.block 7 (.seq (.run 0 [.asg 33 (.n (.load 17 (.t 125)) (.cons 125 (.n (.iaddr 16 (.t 121) (.t 123)) (.cons 121 (.v 29) (.cons 123 (.v 31) .nil))) .nil)),
                    .eff none (some 7) (.alloc 17) .nil none,
                    .eff none none (.store 17 (.t 11) (.t 126)) (.cons 11 (.v 7) (.cons 126 (.v 33) .nil)) none])
                 (.seq (.run 0 [.asg 8 (.c (.int .i64 1048576))])
                 (.seq (.seq (.run 0 [.asg 34 (.ite (.ite (.ite (.n (.un .not (.t 130)) (.cons 130 (.n (.call 0 (.f 67) [(.t 128), (.c (.int .i64 0)), (.t 129)]) (.cons 128 (.n (.load 2 (.t 127)) (.cons 127 (.n (.faddr 17 (.t 11) 0) (.cons 11 (.v 7) .nil)) .nil)) (.cons 129 (.v 8) .nil))) .nil)) (.c (.bool true)) (.n (.un .not (.t 136)) (.cons 136 (.n (.call 0 (.f 67) [(.t 134), (.c (.int .i64 0)), (.t 135)]) (.cons 134 (.n (.load 2 (.t 133)) (.cons 133 (.n (.faddr 17 (.t 11) 1) (.cons 11 (.v 7) .nil)) .nil)) (.cons 135 (.v 8) .nil))) .nil))) (.c (.bool true)) (.n (.un .not (.t 143)) (.cons 143 (.n (.call 0 (.f 67) [(.t 141), (.c (.int .i64 0)), (.t 142)]) (.cons 141 (.n (.load 2 (.t 140)) (.cons 140 (.n (.faddr 17 (.t 11) 2) (.cons 11 (.v 7) .nil)) .nil)) (.cons 142 (.v 8) .nil))) .nil))) (.c (.bool true)) (.n (.un .not (.t 149)) (.cons 149 (.n (.call 0 (.f 75) [(.t 148), (.f 76)]) (.cons 148 (.n (.load 18 (.t 147)) (.cons 147 (.n (.faddr 17 (.t 11) 3) (.cons 11 (.v 7) .nil)) .nil)) .nil)) .nil)))])
                  (.cond 34 (.seq (.run 0 [.asg 2 (.c (.int .i64 270))])
                    (.ret)) (.skip)))
                 (.seq (.run 0 [.asg 35 (.n (.load 18 (.t 152)) (.cons 152 (.n (.faddr 17 (.t 11) 3) (.cons 11 (.v 7) .nil)) .nil)),
                    .asg 36 (.n (.len 18 (.t 153)) (.cons 153 (.v 35) .nil)),
                    .asg 37 (.c (.int .i64 0))])
                 (.block 8 (.loop (
                     .seq (.run 0 [.asg 38 (.n (.bin .lss 2 (.t 155) (.t 154)) (.cons 155 (.v 37) (.cons 154 (.v 36) .nil)))])
                     (.seq (.cond 38 (.skip) (.exit 8))
                     (.seq (.block 9 (.seq (.run 0 [.asg 39 (.n (.load 19 (.t 157)) (.cons 157 (.n (.iaddr 18 (.t 153) (.t 155)) (.cons 153 (.v 35) (.cons 155 (.v 37) .nil))) .nil)),
                           .eff none (some 9) (.alloc 19) .nil none,
                           .eff none none (.store 19 (.t 14) (.t 158)) (.cons 14 (.v 9) (.cons 158 (.v 39) .nil)) none])
                        (.seq (.run 0 [.asg 40 (.ite (.n (.un .not (.t 162)) (.cons 162 (.n (.lookup 21 (.t 159) (.t 161) false) (.cons 159 (.v 3) (.cons 161 (.n (.load 20 (.t 160)) (.cons 160 (.n (.faddr 19 (.t 14) 0) (.cons 14 (.v 9) .nil)) .nil)) .nil))) .nil)) (.c (.bool true)) (.n (.un .not (.t 167)) (.cons 167 (.n (.call 0 (.f 67) [(.t 166), (.c (.int .i64 1)), (.c (.int .i64 8))]) (.cons 166 (.n (.load 2 (.t 165)) (.cons 165 (.n (.faddr 19 (.t 14) 1) (.cons 14 (.v 9) .nil)) .nil)) .nil)) .nil)))])
                        (.cond 40 (.seq (.run 0 [.asg 2 (.c (.int .i64 270))])
                          (.ret)) (.skip)))))
                     (.run 0 [.asg 37 (.n (.bin .add 2 (.t 155) (.c (.int .i64 1))) (.cons 155 (.v 37) .nil))])))))))))))
              (.run 0 [.asg 31 (.n (.bin .add 2 (.t 123) (.c (.int .i64 1))) (.cons 123 (.v 31) .nil))]))))))))))
       (.run 0 [.asg 25 (.n (.bin .add 2 (.t 78) (.c (.int .i64 1))) (.cons 78 (.v 25) .nil))])))))))
  (.seq (.run 0 [.asg 2 (.c (.int .i64 0))])
  (.ret)))))))
theorem c15 : TF E 15 n15 [(2, none)] t15 173 := tf_of (F := f15) rfl (by kernel_rfl) (by decide)

def n20 : List Nat := [0, 1, 4, 5, 10, 14, 25]
def t20 : TC := .seq (.run 0 [.asg 2 (.c (.bool false))])
  (.seq (.seq (.run 0 [.asg 4 (.n (.bin .neq 2 (.t 7) (.t 9)) (.cons 7 (.n (.len 6 (.t 6)) (.cons 6 (.v 0) .nil)) (.cons 9 (.n (.len 6 (.t 8)) (.cons 8 (.v 1) .nil)) .nil)))])
   (.cond 4 (.seq (.run 0 [.asg 2 (.c (.bool false))])
     (.ret)) (.skip)))
  (.seq (.seq (.run 0 [.asg 3 (.c (.int .i64 0))])
   (.block 0 (.loop (
       .seq (.seq (.run 0 [.asg 5 (.n (.bin .lss 2 (.t 11) (.t 13)) (.cons 11 (.v 3) (.cons 13 (.n (.len 6 (.t 12)) (.cons 12 (.v 0) .nil)) .nil)))])
        (.cond 5 (.skip) (.exit 0)))
       (.seq (.block 1 (.seq (.run 9 [.asg 6 (.n (.bin .neq 2 (.t 20) (.t 24)) (.cons 20 (.n (.load 2 (.t 19)) (.cons 19 (.n (.iaddr 6 (.t 17) (.t 18)) (.cons 17 (.v 0) (.cons 18 (.v 3) .nil))) .nil)) (.cons 24 (.n (.load 2 (.t 23)) (.cons 23 (.n (.iaddr 6 (.t 21) (.t 22)) (.cons 21 (.v 1) (.cons 22 (.v 3) .nil))) .nil)) .nil)))])
          (.cond 6 (.seq (.run 0 [.asg 2 (.c (.bool false))])
            (.ret)) (.skip))))
       (.run 0 [.asg 3 (.n (.bin .add 2 (.t 15) (.c (.int .i64 1))) (.cons 15 (.v 3) .nil))]))))))
  (.seq (.run 0 [.asg 2 (.c (.bool true))])
  (.ret))))
theorem c20 : TF E 20 n20 [(2, none)] t20 26 := tf_of (F := f20) rfl (by kernel_rfl) (by decide)

def n61 : List Nat := [0, 1, 2, 4, 5, 6, 16]
def t61 : TC := .seq (.run 0 [.eff none (some 2) (.box 0 (.t 0)) (.cons 0 (.v 0) .nil) none,
     .asg 3 (.c (.int .i64 0))])
  (.seq (.run 0 [.asg 4 (.c (.int .i64 1))])
  (.seq (.seq (.run 0 [.asg 5 (.c (.int .i64 0))])
   (.block 0 (.loop (
       .seq (.seq (.run 0 [.asg 6 (.ite (.n (.bin .lss 2 (.t 7) (.t 10)) (.cons 7 (.v 5) (.cons 10 (.n (.len 14 (.t 9)) (.cons 9 (.n (.load 14 (.t 8)) (.cons 8 (.n (.faddr 0 (.t 2) 2) (.cons 2 (.v 2) .nil)) .nil)) .nil)) .nil))) (.n (.bin .lss 2 (.t 13) (.t 14)) (.cons 13 (.v 4) (.cons 14 (.v 1) .nil))) (.c (.bool false)))])
        (.cond 6 (.skip) (.exit 0)))
       (.seq (.block 1 (.run 0 [.asg 4 (.n (.bin .mul 2 (.t 19) (.t 27)) (.cons 19 (.v 4) (.cons 27 (.n (.maxi [(.c (.int .i64 1)), (.t 26)]) (.cons 26 (.n (.len 16 (.t 25)) (.cons 25 (.n (.load 16 (.t 24)) (.cons 24 (.n (.faddr 15 (.t 23) 3) (.cons 23 (.n (.iaddr 14 (.t 21) (.t 22)) (.cons 21 (.n (.load 14 (.t 20)) (.cons 20 (.n (.faddr 0 (.t 2) 2) (.cons 2 (.v 2) .nil)) .nil)) (.cons 22 (.v 5) .nil))) .nil)) .nil)) .nil)) .nil)) .nil)))]))
       (.run 0 [.asg 5 (.n (.bin .add 2 (.t 17) (.c (.int .i64 1))) (.cons 17 (.v 5) .nil))]))))))
  (.seq (.run 0 [.asg 3 (.n (.mini [(.t 29), (.t 30)]) (.cons 29 (.v 4) (.cons 30 (.v 1) .nil)))])
  (.ret))))
theorem c61 : TF E 61 n61 [(3, none)] t61 32 := tf_of (F := f61) rfl (by kernel_rfl) (by decide)

def n67 : List Nat := [0, 1, 2, 6]
def t67 : TC := .seq (.run 0 [.asg 3 (.c (.bool false))])
  (.seq (.run 0 [.asg 3 (.ite (.n (.bin .leq 2 (.t 7) (.t 8)) (.cons 7 (.v 1) (.cons 8 (.v 0) .nil))) (.n (.bin .leq 2 (.t 11) (.t 12)) (.cons 11 (.v 0) (.cons 12 (.v 2) .nil))) (.c (.bool false)))])
  (.ret))
theorem c67 : TF E 67 n67 [(3, none)] t67 15 := tf_of (F := f67) rfl (by kernel_rfl) (by decide)

def n69 : List Nat := [0, 1, 4, 5, 9, 23]
def t69 : TC := .seq (.run 0 [.asg 2 (.c (.bool false))])
  (.seq (.seq (.run 0 [.asg 3 (.c (.int .i64 1))])
   (.block 0 (.loop (
       .seq (.seq (.run 0 [.asg 4 (.n (.bin .lss 2 (.t 6) (.t 8)) (.cons 6 (.v 3) (.cons 8 (.n (.len 10 (.t 7)) (.cons 7 (.v 0) .nil)) .nil)))])
        (.cond 4 (.skip) (.exit 0)))
       (.seq (.block 1 (.seq (.run 12 [.asg 5 (.n (.bin .geq 2 (.t 22) (.c (.int .i64 0))) (.cons 22 (.n (.call 0 (.t 12) [(.t 17), (.t 21)]) (.cons 12 (.v 1) (.cons 17 (.n (.load 20 (.t 16)) (.cons 16 (.n (.iaddr 10 (.t 13) (.t 15)) (.cons 13 (.v 0) (.cons 15 (.n (.bin .sub 2 (.t 14) (.c (.int .i64 1))) (.cons 14 (.v 3) .nil)) .nil))) .nil)) (.cons 21 (.n (.load 20 (.t 20)) (.cons 20 (.n (.iaddr 10 (.t 18) (.t 19)) (.cons 18 (.v 0) (.cons 19 (.v 3) .nil))) .nil)) .nil)))) .nil))])
          (.cond 5 (.seq (.run 0 [.asg 2 (.c (.bool false))])
            (.ret)) (.skip))))
       (.run 0 [.asg 3 (.n (.bin .add 2 (.t 10) (.c (.int .i64 1))) (.cons 10 (.v 3) .nil))]))))))
  (.seq (.run 0 [.asg 2 (.c (.bool true))])
  (.ret)))
theorem c69 : TF E 69 n69 [(2, none)] t69 24 := tf_of (F := f69) rfl (by kernel_rfl) (by decide)

def n70 : List Nat := [0, 1, 2, 3, 4, 9, 11]
def t70 : TC := .seq (.run 0 [.eff none (some 2) (.box 20 (.t 0)) (.cons 0 (.v 0) .nil) none,
     .eff none (some 3) (.box 20 (.t 1)) (.cons 1 (.v 1) .nil) none,
     .asg 4 (.c (.int .i64 0))])
  (.seq (.seq (.run 0 [.asg 5 (.n (.bin .neq 7 (.t 6) (.t 8)) (.cons 6 (.n (.load 7 (.t 5)) (.cons 5 (.n (.faddr 20 (.t 2) 0) (.cons 2 (.v 2) .nil)) .nil)) (.cons 8 (.n (.load 7 (.t 7)) (.cons 7 (.n (.faddr 20 (.t 3) 0) (.cons 3 (.v 3) .nil)) .nil)) .nil)))])
   (.cond 5 (.seq (.seq (.run 0 [.asg 6 (.n (.load 7 (.t 10)) (.cons 10 (.n (.faddr 20 (.t 3) 0) (.cons 3 (.v 3) .nil)) .nil))])
      (.cond 6 (.seq (.run 0 [.asg 4 (.c (.int .i64 (-1)))])
        (.ret)) (.skip)))
     (.seq (.run 0 [.asg 4 (.c (.int .i64 1))])
     (.ret))) (.skip)))
  (.seq (.run 13 [.asg 4 (.n (.call 0 (.f 105) [(.t 22)]) (.cons 22 (.n (.bslice false 6 2 [(0, (.t 16)), (1, (.t 21))]) (.cons 16 (.n (.call 0 (.f 74) [(.t 13), (.t 15)]) (.cons 13 (.n (.load 2 (.t 12)) (.cons 12 (.n (.faddr 20 (.t 2) 1) (.cons 2 (.v 2) .nil)) .nil)) (.cons 15 (.n (.load 2 (.t 14)) (.cons 14 (.n (.faddr 20 (.t 3) 1) (.cons 3 (.v 3) .nil)) .nil)) .nil))) (.cons 21 (.n (.call 0 (.f 74) [(.t 18), (.t 20)]) (.cons 18 (.n (.load 2 (.t 17)) (.cons 17 (.n (.faddr 20 (.t 2) 2) (.cons 2 (.v 2) .nil)) .nil)) (.cons 20 (.n (.load 2 (.t 19)) (.cons 19 (.n (.faddr 20 (.t 3) 2) (.cons 3 (.v 3) .nil)) .nil)) .nil))) .nil))) .nil))])
  (.ret)))
theorem c70 : TF E 70 n70 [(4, none)] t70 24 := tf_of (F := f70) rfl (by kernel_rfl) (by decide)

def n71 : List Nat := [0, 1, 4]
def t71 : TC := .seq (.run 0 [.asg 2 (.c (.bool false))])
  (.seq (.run 0 [.asg 2 (.n (.bin .geq 2 (.t 7) (.c (.int .i64 0))) (.cons 7 (.n (.call 0 (.f 106) [(.t 5), (.t 6)]) (.cons 5 (.v 0) (.cons 6 (.v 1) .nil))) .nil))])
  (.ret))
theorem c71 : TF E 71 n71 [(2, none)] t71 9 := tf_of (F := f71) rfl (by kernel_rfl) (by decide)

def n72 : List Nat := [0, 2]
def t72 : TC := .seq (.run 0 [.asg 1 (.c (.bool false))])
  (.seq (.run 0 [.asg 1 (.n (.un .not (.t 4)) (.cons 4 (.n (.call 0 (.f 67) [(.t 3), (.c (.int .i64 0)), (.c (.int .i64 4096))]) (.cons 3 (.v 0) .nil)) .nil))])
  (.ret))
theorem c72 : TF E 72 n72 [(1, none)] t72 6 := tf_of (F := f72) rfl (by kernel_rfl) (by decide)

def n73 : List Nat := [0, 1, 4, 5, 9, 23]
def t73 : TC := .seq (.run 0 [.asg 2 (.c (.bool false))])
  (.seq (.seq (.run 0 [.asg 3 (.c (.int .i64 1))])
   (.block 0 (.loop (
       .seq (.seq (.run 0 [.asg 4 (.n (.bin .lss 2 (.t 6) (.t 8)) (.cons 6 (.v 3) (.cons 8 (.n (.len 6 (.t 7)) (.cons 7 (.v 0) .nil)) .nil)))])
        (.cond 4 (.skip) (.exit 0)))
       (.seq (.block 1 (.seq (.run 12 [.asg 5 (.n (.bin .geq 2 (.t 22) (.c (.int .i64 0))) (.cons 22 (.n (.call 0 (.t 12) [(.t 17), (.t 21)]) (.cons 12 (.v 1) (.cons 17 (.n (.load 2 (.t 16)) (.cons 16 (.n (.iaddr 6 (.t 13) (.t 15)) (.cons 13 (.v 0) (.cons 15 (.n (.bin .sub 2 (.t 14) (.c (.int .i64 1))) (.cons 14 (.v 3) .nil)) .nil))) .nil)) (.cons 21 (.n (.load 2 (.t 20)) (.cons 20 (.n (.iaddr 6 (.t 18) (.t 19)) (.cons 18 (.v 0) (.cons 19 (.v 3) .nil))) .nil)) .nil)))) .nil))])
          (.cond 5 (.seq (.run 0 [.asg 2 (.c (.bool false))])
            (.ret)) (.skip))))
       (.run 0 [.asg 3 (.n (.bin .add 2 (.t 10) (.c (.int .i64 1))) (.cons 10 (.v 3) .nil))]))))))
  (.seq (.run 0 [.asg 2 (.c (.bool true))])
  (.ret)))
theorem c73 : TF E 73 n73 [(2, none)] t73 24 := tf_of (F := f73) rfl (by kernel_rfl) (by decide)

def n74 : List Nat := [0, 1, 4, 5, 6, 11, 12, 13, 16, 19]
def t74 : TC := .seq (.run 0 [.asg 2 (.c (.int .i64 0))])
  (.seq (.run 0 [.asg 3 (.n (.call 0 (.f 107) [(.t 7)]) (.cons 7 (.v 0) .nil))])
  (.seq (.run 0 [.asg 4 (.n (.call 0 (.f 107) [(.t 9)]) (.cons 9 (.v 1) .nil))])
  (.seq (.seq (.run 0 [.asg 5 (.v 3)])
   (.cond 5 (.seq (.seq (.run 0 [.asg 6 (.v 4)])
      (.cond 6 (.seq (.run 0 [.asg 2 (.c (.int .i64 0))])
        (.ret)) (.skip)))
     (.seq (.run 0 [.asg 2 (.c (.int .i64 (-1)))])
     (.ret))) (.skip)))
  (.seq (.seq (.run 0 [.asg 7 (.v 4)])
   (.cond 7 (.seq (.run 0 [.asg 2 (.c (.int .i64 1))])
     (.ret)) (.skip)))
  (.seq (.seq (.run 0 [.asg 8 (.n (.bin .lss 2 (.t 14) (.t 15)) (.cons 14 (.v 0) (.cons 15 (.v 1) .nil)))])
   (.cond 8 (.seq (.run 0 [.asg 2 (.c (.int .i64 (-1)))])
     (.ret)) (.skip)))
  (.seq (.seq (.run 0 [.asg 9 (.n (.bin .gtr 2 (.t 17) (.t 18)) (.cons 17 (.v 0) (.cons 18 (.v 1) .nil)))])
   (.cond 9 (.seq (.run 0 [.asg 2 (.c (.int .i64 1))])
     (.ret)) (.skip)))
  (.seq (.run 0 [.asg 2 (.c (.int .i64 0))])
  (.ret))))))))
theorem c74 : TF E 74 n74 [(2, none)] t74 20 := tf_of (F := f74) rfl (by kernel_rfl) (by decide)

def n75 : List Nat := [0, 1, 4, 5, 9, 23]
def t75 : TC := .seq (.run 0 [.asg 2 (.c (.bool false))])
  (.seq (.seq (.run 0 [.asg 3 (.c (.int .i64 1))])
   (.block 0 (.loop (
       .seq (.seq (.run 0 [.asg 4 (.n (.bin .lss 2 (.t 6) (.t 8)) (.cons 6 (.v 3) (.cons 8 (.n (.len 18 (.t 7)) (.cons 7 (.v 0) .nil)) .nil)))])
        (.cond 4 (.skip) (.exit 0)))
       (.seq (.block 1 (.seq (.run 12 [.asg 5 (.n (.bin .geq 2 (.t 22) (.c (.int .i64 0))) (.cons 22 (.n (.call 0 (.t 12) [(.t 17), (.t 21)]) (.cons 12 (.v 1) (.cons 17 (.n (.load 19 (.t 16)) (.cons 16 (.n (.iaddr 18 (.t 13) (.t 15)) (.cons 13 (.v 0) (.cons 15 (.n (.bin .sub 2 (.t 14) (.c (.int .i64 1))) (.cons 14 (.v 3) .nil)) .nil))) .nil)) (.cons 21 (.n (.load 19 (.t 20)) (.cons 20 (.n (.iaddr 18 (.t 18) (.t 19)) (.cons 18 (.v 0) (.cons 19 (.v 3) .nil))) .nil)) .nil)))) .nil))])
          (.cond 5 (.seq (.run 0 [.asg 2 (.c (.bool false))])
            (.ret)) (.skip))))
       (.run 0 [.asg 3 (.n (.bin .add 2 (.t 10) (.c (.int .i64 1))) (.cons 10 (.v 3) .nil))]))))))
  (.seq (.run 0 [.asg 2 (.c (.bool true))])
  (.ret)))
theorem c75 : TF E 75 n75 [(2, none)] t75 24 := tf_of (F := f75) rfl (by kernel_rfl) (by decide)

def n76 : List Nat := [0, 1, 2, 3, 4]
def t76 : TC := .seq (.run 0 [.eff none (some 2) (.box 19 (.t 0)) (.cons 0 (.v 0) .nil) none,
     .eff none (some 3) (.box 19 (.t 1)) (.cons 1 (.v 1) .nil) none,
     .asg 4 (.c (.int .i64 0))])
  (.seq (.run 0 [.asg 4 (.n (.call 0 (.f 70) [(.t 6), (.t 8)]) (.cons 6 (.n (.load 20 (.t 5)) (.cons 5 (.n (.faddr 19 (.t 2) 0) (.cons 2 (.v 2) .nil)) .nil)) (.cons 8 (.n (.load 20 (.t 7)) (.cons 7 (.n (.faddr 19 (.t 3) 0) (.cons 3 (.v 3) .nil)) .nil)) .nil)))])
  (.ret))
theorem c76 : TF E 76 n76 [(4, none)] t76 10 := tf_of (F := f76) rfl (by kernel_rfl) (by decide)

def n105 : List Nat := [0, 2, 3, 5, 6, 7, 8, 9, 14]
def t105 : TC := .seq (.run 0 [.asg 1 (.c (.int .i64 0))])
  (.seq (.run 0 [.asg 2 (.c (.int .i64 0))])
  (.seq (.seq (.run 0 [.asg 4 (.v 0),
      .asg 5 (.n (.len 6 (.t 6)) (.cons 6 (.v 4) .nil)),
      .asg 6 (.c (.int .i64 0))])
   (.block 0 (.loop (
       .seq (.run 0 [.asg 7 (.n (.bin .lss 2 (.t 8) (.t 7)) (.cons 8 (.v 6) (.cons 7 (.v 5) .nil)))])
       (.seq (.cond 7 (.skip) (.exit 0))
       (.seq (.block 1 (.seq (.run 0 [.asg 3 (.n (.load 2 (.t 10)) (.cons 10 (.n (.iaddr 6 (.t 6) (.t 8)) (.cons 6 (.v 4) (.cons 8 (.v 6) .nil))) .nil))])
          (.seq (.run 0 [.asg 8 (.n (.bin .neq 2 (.t 12) (.t 13)) (.cons 12 (.v 3) (.cons 13 (.v 2) .nil)))])
          (.cond 8 (.seq (.run 0 [.asg 1 (.v 3)])
            (.ret)) (.skip)))))
       (.run 0 [.asg 6 (.n (.bin .add 2 (.t 8) (.c (.int .i64 1))) (.cons 8 (.v 6) .nil))])))))))
  (.seq (.run 0 [.asg 1 (.v 2)])
  (.ret))))
theorem c105 : TF E 105 n105 [(1, none)] t105 18 := tf_of (F := f105) rfl (by kernel_rfl) (by decide)

def n106 : List Nat := [0, 1, 4, 5, 7, 8, 9, 16]
def t106 : TC := .seq (.run 0 [.asg 2 (.c (.int .i64 0))])
  (.seq (.seq (.run 0 [.asg 4 (.n (.len 6 (.t 6)) (.cons 6 (.v 0) .nil)),
      .asg 5 (.c (.int .i64 0))])
   (.block 0 (.loop (
       .seq (.run 0 [.asg 6 (.n (.bin .lss 2 (.t 8) (.t 7)) (.cons 8 (.v 5) (.cons 7 (.v 4) .nil)))])
       (.seq (.cond 6 (.skip) (.exit 0))
       (.seq (.block 1 (.seq (.run 0 [.asg 3 (.v 5)])
          (.seq (.run 0 [.asg 7 (.n (.call 0 (.t 11) [(.t 15)]) (.cons 11 (.v 1) (.cons 15 (.n (.load 2 (.t 14)) (.cons 14 (.n (.iaddr 6 (.t 12) (.t 13)) (.cons 12 (.v 0) (.cons 13 (.v 3) .nil))) .nil)) .nil)))])
          (.cond 7 (.seq (.run 0 [.asg 2 (.v 3)])
            (.ret)) (.skip)))))
       (.run 0 [.asg 5 (.n (.bin .add 2 (.t 8) (.c (.int .i64 1))) (.cons 8 (.v 5) .nil))])))))))
  (.seq (.run 0 [.asg 2 (.c (.int .i64 (-1)))])
  (.ret)))
theorem c106 : TF E 106 n106 [(2, none)] t106 19 := tf_of (F := f106) rfl (by kernel_rfl) (by decide)

def n107 : List Nat := [0, 2]
def t107 : TC := .seq (.run 0 [.asg 1 (.c (.bool false))])
  (.seq (.run 0 [.asg 1 (.n (.bin .neq 2 (.t 3) (.t 4)) (.cons 3 (.v 0) (.cons 4 (.v 0) .nil)))])
  (.ret))
theorem c107 : TF E 107 n107 [(1, none)] t107 6 := tf_of (F := f107) rfl (by kernel_rfl) (by decide)

def n212 : List Nat := [0, 1, 2, 3, 4, 5, 6, 7, 8, 9, 10, 11, 12, 13, 14, 15, 16, 17, 18, 19, 20, 21, 23, 32, 36, 42, 48, 54, 63, 69, 75, 81, 120]
def t212 : TC := .seq (.run 0 [.asg 0 (.c (.bool false))])
  (.seq (.run 0 [.eff none (some 1) (.alloc 0) .nil none,
     .eff none none (.store 0 (.t 1) (.t 22)) (.cons 1 (.v 1) (.cons 22 (.n (.call 0 (.f 221) []) .nil) .nil)) none])
  (.seq (.run 0 [.asg 22 (.n (.call 0 (.f 215) [(.t 24), (.t 25)]) (.cons 24 (.n (.load 0 (.t 1)) (.cons 1 (.v 1) .nil)) (.cons 25 (.n (.build 29 []) .nil) .nil))),
     .eff none (some 2) (.alloc 29) .nil none,
     .eff none none (.store 29 (.t 2) (.t 27)) (.cons 2 (.v 2) (.cons 27 (.n (.extract (.t 23) 0) (.cons 23 (.v 22) .nil)) .nil)) none,
     .asg 3 (.n (.extract (.t 23) 1) (.cons 23 (.v 22) .nil))])
  (.seq (.run 0 [.asg 23 (.n (.load 15 (.t 31)) (.cons 31 (.n (.iaddr 14 (.t 30) (.c (.int .i64 0))) (.cons 30 (.n (.load 14 (.t 29)) (.cons 29 (.n (.faddr 0 (.t 1) 2) (.cons 1 (.v 1) .nil)) .nil)) .nil)) .nil)),
     .eff none (some 4) (.alloc 15) .nil none,
     .eff none none (.store 15 (.t 4) (.t 32)) (.cons 4 (.v 4) (.cons 32 (.v 23) .nil)) none])
  (.seq (.run 0 [.eff none none (.store 16 (.t 35) (.t 34)) (.cons 35 (.n (.faddr 15 (.t 4) 3) (.cons 4 (.v 4) .nil)) (.cons 34 (.n (.bslice false 16 1 [(0, (.t 33))]) (.cons 33 (.n (.build 17 [(1, (.c (.int .i64 1)))]) .nil) .nil)) .nil)) none])
  (.seq (.run 0 [.asg 24 (.n (.call 0 (.f 214) [(.t 37), (.c (.int .i64 0)), (.t 38)]) (.cons 37 (.n (.load 0 (.t 1)) (.cons 1 (.v 1) .nil)) (.cons 38 (.n (.load 15 (.t 4)) (.cons 4 (.v 4) .nil)) .nil))),
     .eff none (some 5) (.alloc 0) .nil none,
     .eff none none (.store 0 (.t 5) (.t 40)) (.cons 5 (.v 5) (.cons 40 (.n (.extract (.t 36) 0) (.cons 36 (.v 24) .nil)) .nil)) none,
     .asg 6 (.n (.extract (.t 36) 1) (.cons 36 (.v 24) .nil))])
  (.seq (.run 0 [.asg 25 (.n (.call 0 (.f 215) [(.t 43), (.t 44)]) (.cons 43 (.n (.load 0 (.t 5)) (.cons 5 (.v 5) .nil)) (.cons 44 (.n (.load 29 (.t 2)) (.cons 2 (.v 2) .nil)) .nil))),
     .eff none (some 7) (.alloc 29) .nil none,
     .eff none none (.store 29 (.t 7) (.t 46)) (.cons 7 (.v 7) (.cons 46 (.n (.extract (.t 42) 0) (.cons 42 (.v 25) .nil)) .nil)) none,
     .asg 8 (.n (.extract (.t 42) 1) (.cons 42 (.v 25) .nil))])
  (.seq (.run 0 [.asg 26 (.n (.call 0 (.f 222) [(.t 49), (.t 50)]) (.cons 49 (.n (.load 0 (.t 1)) (.cons 1 (.v 1) .nil)) (.cons 50 (.n (.load 29 (.t 2)) (.cons 2 (.v 2) .nil)) .nil))),
     .asg 9 (.n (.extract (.t 48) 0) (.cons 48 (.v 26) .nil)),
     .asg 10 (.n (.extract (.t 48) 1) (.cons 48 (.v 26) .nil))])
  (.seq (.run 0 [.asg 27 (.n (.call 0 (.f 222) [(.t 55), (.t 56)]) (.cons 55 (.n (.load 0 (.t 5)) (.cons 5 (.v 5) .nil)) (.cons 56 (.n (.load 29 (.t 2)) (.cons 2 (.v 2) .nil)) .nil))),
     .asg 11 (.n (.extract (.t 54) 0) (.cons 54 (.v 27) .nil)),
     .asg 12 (.n (.extract (.t 54) 1) (.cons 54 (.v 27) .nil))])
  (.seq (.run 0 [.eff none (some 13) (.alloc 0) .nil none,
     .eff none none (.store 0 (.t 13) (.t 62)) (.cons 13 (.v 13) (.cons 62 (.n (.build 0 [(1, (.t 61))]) (.cons 61 (.n (.bslice false 9 1 [(0, (.t 60))]) (.cons 60 (.n (.bslice false 6 0 []) .nil) .nil)) .nil)) .nil)) none])
  (.seq (.run 0 [.asg 28 (.n (.call 0 (.f 214) [(.t 64), (.c (.int .i64 0)), (.t 65)]) (.cons 64 (.n (.load 0 (.t 13)) (.cons 13 (.v 13) .nil)) (.cons 65 (.n (.load 15 (.t 4)) (.cons 4 (.v 4) .nil)) .nil))),
     .eff none (some 14) (.alloc 0) .nil none,
     .eff none none (.store 0 (.t 14) (.t 67)) (.cons 14 (.v 14) (.cons 67 (.n (.extract (.t 63) 0) (.cons 63 (.v 28) .nil)) .nil)) none,
     .asg 15 (.n (.extract (.t 63) 1) (.cons 63 (.v 28) .nil))])
  (.seq (.run 0 [.asg 29 (.n (.call 0 (.f 222) [(.t 70), (.t 71)]) (.cons 70 (.n (.load 0 (.t 1)) (.cons 1 (.v 1) .nil)) (.cons 71 (.n (.build 29 []) .nil) .nil))),
     .asg 16 (.n (.extract (.t 69) 0) (.cons 69 (.v 29) .nil)),
     .asg 17 (.n (.extract (.t 69) 1) (.cons 69 (.v 29) .nil))])
  (.seq (.run 0 [.asg 30 (.n (.call 0 (.f 215) [(.t 76), (.t 77)]) (.cons 76 (.n (.load 0 (.t 13)) (.cons 13 (.v 13) .nil)) (.cons 77 (.n (.build 29 []) .nil) .nil))),
     .eff none (some 18) (.alloc 29) .nil none,
     .eff none none (.store 29 (.t 18) (.t 79)) (.cons 18 (.v 18) (.cons 79 (.n (.extract (.t 75) 0) (.cons 75 (.v 30) .nil)) .nil)) none,
     .asg 19 (.n (.extract (.t 75) 1) (.cons 75 (.v 30) .nil))])
  (.seq (.run 0 [.asg 31 (.n (.call 0 (.f 215) [(.t 82), (.t 83)]) (.cons 82 (.n (.build 0 []) .nil) (.cons 83 (.n (.load 29 (.t 2)) (.cons 2 (.v 2) .nil)) .nil))),
     .eff none (some 20) (.alloc 29) .nil none,
     .eff none none (.store 29 (.t 20) (.t 85)) (.cons 20 (.v 20) (.cons 85 (.n (.extract (.t 81) 0) (.cons 81 (.v 31) .nil)) .nil)) none,
     .asg 21 (.n (.extract (.t 81) 1) (.cons 81 (.v 31) .nil))])
  (.seq (.seq (.run 0 [.asg 32 (.ite (.ite (.ite (.ite (.ite (.ite (.ite (.ite (.n (.bin .neq 3 (.t 87) (.c (.int .i64 0))) (.cons 87 (.v 3) .nil)) (.c (.bool true)) (.n (.bin .neq 3 (.t 90) (.c (.int .i64 0))) (.cons 90 (.v 6) .nil))) (.c (.bool true)) (.n (.bin .neq 3 (.t 94) (.c (.int .i64 0))) (.cons 94 (.v 8) .nil))) (.c (.bool true)) (.n (.bin .neq 3 (.t 98) (.c (.int .i64 0))) (.cons 98 (.v 10) .nil))) (.c (.bool true)) (.n (.bin .neq 3 (.t 102) (.c (.int .i64 0))) (.cons 102 (.v 12) .nil))) (.c (.bool true)) (.n (.bin .neq 3 (.t 106) (.c (.int .i64 330))) (.cons 106 (.v 15) .nil))) (.c (.bool true)) (.n (.bin .neq 3 (.t 110) (.c (.int .i64 0))) (.cons 110 (.v 17) .nil))) (.c (.bool true)) (.n (.bin .neq 3 (.t 114) (.c (.int .i64 0))) (.cons 114 (.v 19) .nil))) (.c (.bool true)) (.n (.bin .neq 3 (.t 118) (.c (.int .i64 270))) (.cons 118 (.v 21) .nil)))])
   (.cond 32 (.seq (.run 0 [.asg 0 (.c (.bool false))])
     (.ret)) (.skip)))
  (.seq (.run 0 [.asg 0 (.ite (.ite (.ite (.ite (.ite (.ite (.ite (.ite (.ite (.ite (.n (.call 0 (.f 20) [(.t 122), (.t 123)]) (.cons 122 (.n (.load 6 (.t 121)) (.cons 121 (.n (.faddr 29 (.t 2) 0) (.cons 2 (.v 2) .nil)) .nil)) (.cons 123 (.n (.bslice false 6 2 [(0, (.c (.int .i64 1))), (1, (.c (.int .i64 0)))]) .nil) .nil))) (.n (.call 0 (.f 20) [(.t 127), (.t 128)]) (.cons 127 (.n (.load 6 (.t 126)) (.cons 126 (.n (.faddr 29 (.t 2) 1) (.cons 2 (.v 2) .nil)) .nil)) (.cons 128 (.n (.bslice false 6 4 [(0, (.c (.int .i64 0))), (1, (.c (.int .i64 10))), (2, (.c (.int .i64 3))), (3, (.c (.int .i64 0)))]) .nil) .nil))) (.c (.bool false))) (.n (.call 0 (.f 20) [(.t 133), (.t 134)]) (.cons 133 (.n (.load 6 (.t 132)) (.cons 132 (.n (.faddr 29 (.t 7) 0) (.cons 7 (.v 7) .nil)) .nil)) (.cons 134 (.n (.bslice false 6 2 [(0, (.c (.int .i64 0))), (1, (.c (.int .i64 0)))]) .nil) .nil))) (.c (.bool false))) (.v 9) (.c (.bool false))) (.n (.un .not (.t 141)) (.cons 141 (.v 11) .nil)) (.c (.bool false))) (.n (.un .not (.t 145)) (.cons 145 (.v 16) .nil)) (.c (.bool false))) (.n (.bin .eql 2 (.t 151) (.c (.int .i64 0))) (.cons 151 (.n (.len 6 (.t 150)) (.cons 150 (.n (.load 6 (.t 149)) (.cons 149 (.n (.faddr 29 (.t 18) 0) (.cons 18 (.v 18) .nil)) .nil)) .nil)) .nil)) (.c (.bool false))) (.n (.call 0 (.f 20) [(.t 156), (.t 157)]) (.cons 156 (.n (.load 6 (.t 155)) (.cons 155 (.n (.faddr 29 (.t 18) 1) (.cons 18 (.v 18) .nil)) .nil)) (.cons 157 (.n (.bslice false 6 4 [(0, (.c (.int .i64 0))), (1, (.c (.int .i64 0))), (2, (.c (.int .i64 0))), (3, (.c (.int .i64 0)))]) .nil) .nil))) (.c (.bool false))) (.n (.bin .eql 3 (.t 163) (.c (.int .i64 0))) (.cons 163 (.n (.call 0 (.f 216) [(.t 161), (.t 162)]) (.cons 161 (.n (.load 0 (.t 1)) (.cons 1 (.v 1) .nil)) (.cons 162 (.n (.load 29 (.t 2)) (.cons 2 (.v 2) .nil)) .nil))) .nil)) (.c (.bool false))) (.n (.bin .eql 3 (.t 169) (.c (.int .i64 0))) (.cons 169 (.n (.call 0 (.f 216) [(.t 167), (.t 168)]) (.cons 167 (.n (.load 0 (.t 5)) (.cons 5 (.v 5) .nil)) (.cons 168 (.n (.load 29 (.t 7)) (.cons 7 (.v 7) .nil)) .nil))) .nil)) (.c (.bool false))) (.n (.bin .eql 3 (.t 175) (.c (.int .i64 0))) (.cons 175 (.n (.call 0 (.f 216) [(.t 173), (.t 174)]) (.cons 173 (.n (.load 0 (.t 13)) (.cons 13 (.v 13) .nil)) (.cons 174 (.n (.load 29 (.t 18)) (.cons 18 (.v 18) .nil)) .nil))) .nil)) (.c (.bool false)))])
  (.ret))))))))))))))))
theorem c212 : TF E 212 n212 [(0, none)] t212 178 := tf_of (F := f212) rfl (by kernel_rfl) (by decide)

def n214 : List Nat := [0, 1, 2, 3, 5, 6, 7, 8, 9, 10, 14, 25, 31, 35]
def t214 : TC := .seq (.run 0 [.eff none (some 3) (.box 0 (.t 0)) (.cons 0 (.v 0) .nil) none,
     .eff none (some 4) (.box 15 (.t 2)) (.cons 2 (.v 2) .nil) none,
     .eff none (some 5) (.alloc 0) .nil none,
     .asg 6 (.c (.int .i64 0))])
  (.seq (.seq (.run 0 [.asg 7 (.n (.call 0 (.f 15) [(.t 11)]) (.cons 11 (.n (.load 0 (.t 3)) (.cons 3 (.v 3) .nil)) .nil))])
   (.seq (.run 0 [.asg 10 (.n (.bin .neq 3 (.t 13) (.c (.int .i64 0))) (.cons 13 (.v 7) .nil))])
   (.cond 10 (.seq (.run 0 [.eff none none (.store 0 (.t 6) (.t 15)) (.cons 6 (.v 5) (.cons 15 (.n (.load 0 (.t 6)) (.cons 6 (.v 5) .nil)) .nil)) none,
        .asg 6 (.v 7)])
     (.ret)) (.skip))))
  (.seq (.seq (.run 0 [.asg 11 (.ite (.n (.bin .lss 2 (.t 17) (.c (.int .i64 0))) (.cons 17 (.v 1) .nil)) (.c (.bool true)) (.n (.bin .geq 2 (.t 20) (.t 23)) (.cons 20 (.v 1) (.cons 23 (.n (.len 14 (.t 22)) (.cons 22 (.n (.load 14 (.t 21)) (.cons 21 (.n (.faddr 0 (.t 3) 2) (.cons 3 (.v 3) .nil)) .nil)) .nil)) .nil))))])
   (.cond 11 (.seq (.run 0 [.eff none none (.store 0 (.t 6) (.t 26)) (.cons 6 (.v 5) (.cons 26 (.n (.load 0 (.t 6)) (.cons 6 (.v 5) .nil)) .nil)) none,
        .asg 6 (.c (.int .i64 330))])
     (.ret)) (.skip)))
  (.seq (.run 0 [.asg 12 (.n (.call 0 (.f 224) [(.t 27), (.t 28), (.t 30)]) (.cons 27 (.n (.load 0 (.t 3)) (.cons 3 (.v 3) .nil)) (.cons 28 (.v 1) (.cons 30 (.n (.bslice false 14 1 [(0, (.t 29))]) (.cons 29 (.n (.load 15 (.t 5)) (.cons 5 (.v 4) .nil)) .nil)) .nil)))),
     .eff none (some 8) (.alloc 0) .nil none,
     .eff none none (.store 0 (.t 9) (.t 31)) (.cons 9 (.v 8) (.cons 31 (.v 12) .nil)) none])
  (.seq (.seq (.run 0 [.asg 9 (.n (.call 0 (.f 15) [(.t 32)]) (.cons 32 (.n (.load 0 (.t 9)) (.cons 9 (.v 8) .nil)) .nil))])
   (.seq (.run 0 [.asg 13 (.n (.bin .neq 3 (.t 34) (.c (.int .i64 0))) (.cons 34 (.v 9) .nil))])
   (.cond 13 (.seq (.run 0 [.eff none none (.store 0 (.t 6) (.t 36)) (.cons 6 (.v 5) (.cons 36 (.n (.load 0 (.t 6)) (.cons 6 (.v 5) .nil)) .nil)) none,
        .asg 6 (.v 9)])
     (.ret)) (.skip))))
  (.seq (.run 0 [.eff none none (.store 0 (.t 6) (.t 38)) (.cons 6 (.v 5) (.cons 38 (.n (.load 0 (.t 9)) (.cons 9 (.v 8) .nil)) .nil)) none,
     .asg 6 (.c (.int .i64 0))])
  (.ret))))))
theorem c214 : TF E 214 n214 [(5, some 0), (6, none)] t214 39 := tf_of (F := f214) rfl (by kernel_rfl) (by decide)

def n217 : List Nat := [0, 1, 2, 3, 5, 6, 7, 8, 9, 10, 12, 22, 23, 31, 74, 75]
def t217 : TC := .seq (.run 0 [.eff none (some 3) (.box 0 (.t 0)) (.cons 0 (.v 0) .nil) none,
     .eff none (some 4) (.box 15 (.t 2)) (.cons 2 (.v 2) .nil) none,
     .asg 5 (.c (.bool false))])
  (.seq (.seq (.run 0 [.asg 10 (.n (.un .not (.t 11)) (.cons 11 (.n (.call 0 (.f 212) []) .nil) .nil))])
   (.cond 10 (.seq (.run 0 [.asg 5 (.c (.bool false))])
     (.ret)) (.skip)))
  (.seq (.seq (.run 0 [.asg 11 (.ite (.n (.un .not (.t 14)) (.cons 14 (.n (.call 0 (.f 2) [(.t 13)]) (.cons 13 (.n (.load 0 (.t 3)) (.cons 3 (.v 3) .nil)) .nil)) .nil)) (.c (.bool true)) (.n (.un .not (.t 20)) (.cons 20 (.n (.call 0 (.f 2) [(.t 19)]) (.cons 19 (.n (.build 0 [(2, (.t 18))]) (.cons 18 (.n (.bslice false 14 1 [(0, (.t 17))]) (.cons 17 (.n (.load 15 (.t 5)) (.cons 5 (.v 4) .nil)) .nil)) .nil)) .nil)) .nil)))])
   (.cond 11 (.seq (.run 0 [.asg 5 (.c (.bool true))])
     (.ret)) (.skip)))
  (.seq (.run 0 [.asg 12 (.n (.call 0 (.f 214) [(.t 24), (.t 25), (.t 26)]) (.cons 24 (.n (.load 0 (.t 3)) (.cons 3 (.v 3) .nil)) (.cons 25 (.v 1) (.cons 26 (.n (.load 15 (.t 5)) (.cons 5 (.v 4) .nil)) .nil)))),
     .eff none (some 6) (.alloc 0) .nil none,
     .eff none none (.store 0 (.t 7) (.t 28)) (.cons 7 (.v 6) (.cons 28 (.n (.extract (.t 23) 0) (.cons 23 (.v 12) .nil)) .nil)) none,
     .asg 7 (.n (.extract (.t 23) 1) (.cons 23 (.v 12) .nil))])
  (.seq (.seq (.run 0 [.asg 13 (.n (.bin .neq 3 (.t 30) (.c (.int .i64 0))) (.cons 30 (.v 7) .nil))])
   (.cond 13 (.seq (.run 0 [.asg 5 (.ite (.n (.bin .eql 2 (.t 34) (.c (.int .i64 0))) (.cons 34 (.n (.len 14 (.t 33)) (.cons 33 (.n (.load 14 (.t 32)) (.cons 32 (.n (.faddr 0 (.t 7) 2) (.cons 7 (.v 6) .nil)) .nil)) .nil)) .nil)) (.n (.bin .eql 2 (.t 39) (.c (.int .i64 0))) (.cons 39 (.n (.len 10 (.t 38)) (.cons 38 (.n (.load 10 (.t 37)) (.cons 37 (.n (.faddr 0 (.t 7) 0) (.cons 7 (.v 6) .nil)) .nil)) .nil)) .nil)) (.c (.bool false)))])
     (.ret)) (.skip)))
  (.seq (.seq (.run 33 [.asg 14 (.ite (.ite (.ite (.ite (.n (.bin .lss 2 (.t 42) (.c (.int .i64 0))) (.cons 42 (.v 1) .nil)) (.c (.bool true)) (.n (.bin .geq 2 (.t 45) (.t 48)) (.cons 45 (.v 1) (.cons 48 (.n (.len 14 (.t 47)) (.cons 47 (.n (.load 14 (.t 46)) (.cons 46 (.n (.faddr 0 (.t 3) 2) (.cons 3 (.v 3) .nil)) .nil)) .nil)) .nil)))) (.c (.bool true)) (.n (.bin .neq 3 (.t 53) (.c (.int .i64 0))) (.cons 53 (.n (.call 0 (.f 15) [(.t 52)]) (.cons 52 (.n (.load 0 (.t 7)) (.cons 7 (.v 6) .nil)) .nil)) .nil))) (.c (.bool true)) (.n (.bin .neq 2 (.t 59) (.t 62)) (.cons 59 (.n (.len 14 (.t 58)) (.cons 58 (.n (.load 14 (.t 57)) (.cons 57 (.n (.faddr 0 (.t 7) 2) (.cons 7 (.v 6) .nil)) .nil)) .nil)) (.cons 62 (.n (.len 14 (.t 61)) (.cons 61 (.n (.load 14 (.t 60)) (.cons 60 (.n (.faddr 0 (.t 3) 2) (.cons 3 (.v 3) .nil)) .nil)) .nil)) .nil)))) (.c (.bool true)) (.n (.un .not (.t 72)) (.cons 72 (.n (.call 0 (.f 218) [(.t 70), (.t 71)]) (.cons 70 (.n (.load 15 (.t 69)) (.cons 69 (.n (.iaddr 14 (.t 67) (.t 68)) (.cons 67 (.n (.load 14 (.t 66)) (.cons 66 (.n (.faddr 0 (.t 7) 2) (.cons 7 (.v 6) .nil)) .nil)) (.cons 68 (.v 1) .nil))) .nil)) (.cons 71 (.n (.load 15 (.t 5)) (.cons 5 (.v 4) .nil)) .nil))) .nil)))])
   (.cond 14 (.seq (.run 0 [.asg 5 (.c (.bool false))])
     (.ret)) (.skip)))
  (.seq (.run 14 [.asg 15 (.n (.call 0 (.f 214) [(.t 76), (.t 77), (.t 82)]) (.cons 76 (.n (.load 0 (.t 7)) (.cons 7 (.v 6) .nil)) (.cons 77 (.v 1) (.cons 82 (.n (.load 15 (.t 81)) (.cons 81 (.n (.iaddr 14 (.t 79) (.t 80)) (.cons 79 (.n (.load 14 (.t 78)) (.cons 78 (.n (.faddr 0 (.t 3) 2) (.cons 3 (.v 3) .nil)) .nil)) (.cons 80 (.v 1) .nil))) .nil)) .nil)))),
     .eff none (some 8) (.alloc 0) .nil (some 11),
     .eff none none (.store 0 (.t 9) (.t 84)) (.cons 9 (.v 8) (.cons 84 (.n (.extract (.t 75) 0) (.cons 75 (.v 15) .nil)) .nil)) (some 12),
     .asg 9 (.n (.extract (.t 75) 1) (.cons 75 (.v 15) .nil))])
  (.seq (.run 0 [.asg 5 (.ite (.n (.bin .eql 3 (.t 86) (.c (.int .i64 0))) (.cons 86 (.v 9) .nil)) (.n (.call 0 (.f 219) [(.t 89), (.t 90)]) (.cons 89 (.n (.load 0 (.t 9)) (.cons 9 (.v 8) .nil)) (.cons 90 (.n (.load 0 (.t 3)) (.cons 3 (.v 3) .nil)) .nil))) (.c (.bool false)))])
  (.ret))))))))
theorem c217 : TF E 217 n217 [(5, none)] t217 93 := tf_of (F := f217) rfl (by kernel_rfl) (by decide)

def n218 : List Nat := [0, 1, 2, 3, 4, 5, 6, 7, 36, 41, 48, 53, 80]
def t218 : TC := .seq (.run 0 [.eff none (some 2) (.box 15 (.t 0)) (.cons 0 (.v 0) .nil) none,
     .eff none (some 3) (.box 15 (.t 1)) (.cons 1 (.v 1) .nil) none,
     .asg 4 (.c (.bool false))])
  (.seq (.seq (.run 0 [.asg 8 (.ite (.ite (.ite (.n (.bin .neq 2 (.t 9) (.t 11)) (.cons 9 (.n (.load 2 (.t 8)) (.cons 8 (.n (.faddr 15 (.t 2) 0) (.cons 2 (.v 2) .nil)) .nil)) (.cons 11 (.n (.load 2 (.t 10)) (.cons 10 (.n (.faddr 15 (.t 3) 0) (.cons 3 (.v 3) .nil)) .nil)) .nil))) (.c (.bool true)) (.n (.bin .neq 2 (.t 15) (.t 17)) (.cons 15 (.n (.load 2 (.t 14)) (.cons 14 (.n (.faddr 15 (.t 2) 1) (.cons 2 (.v 2) .nil)) .nil)) (.cons 17 (.n (.load 2 (.t 16)) (.cons 16 (.n (.faddr 15 (.t 3) 1) (.cons 3 (.v 3) .nil)) .nil)) .nil)))) (.c (.bool true)) (.n (.un .not (.t 25)) (.cons 25 (.n (.call 0 (.f 20) [(.t 22), (.t 24)]) (.cons 22 (.n (.load 6 (.t 21)) (.cons 21 (.n (.faddr 15 (.t 2) 2) (.cons 2 (.v 2) .nil)) .nil)) (.cons 24 (.n (.load 6 (.t 23)) (.cons 23 (.n (.faddr 15 (.t 3) 2) (.cons 3 (.v 3) .nil)) .nil)) .nil))) .nil))) (.c (.bool true)) (.n (.bin .neq 2 (.t 31) (.t 34)) (.cons 31 (.n (.len 16 (.t 30)) (.cons 30 (.n (.load 16 (.t 29)) (.cons 29 (.n (.faddr 15 (.t 2) 3) (.cons 2 (.v 2) .nil)) .nil)) .nil)) (.cons 34 (.n (.len 16 (.t 33)) (.cons 33 (.n (.load 16 (.t 32)) (.cons 32 (.n (.faddr 15 (.t 3) 3) (.cons 3 (.v 3) .nil)) .nil)) .nil)) .nil))))])
   (.cond 8 (.seq (.run 0 [.asg 4 (.c (.bool false))])
     (.ret)) (.skip)))
  (.seq (.seq (.run 0 [.asg 5 (.c (.int .i64 0))])
   (.block 0 (.loop (
       .seq (.seq (.run 0 [.asg 9 (.n (.bin .lss 2 (.t 37) (.t 40)) (.cons 37 (.v 5) (.cons 40 (.n (.len 16 (.t 39)) (.cons 39 (.n (.load 16 (.t 38)) (.cons 38 (.n (.faddr 15 (.t 2) 3) (.cons 2 (.v 2) .nil)) .nil)) .nil)) .nil)))])
        (.cond 9 (.skip) (.exit 0)))
       (.seq (.block 1 (.seq (.run 0 [.asg 10 (.n (.load 17 (.t 47)) (.cons 47 (.n (.iaddr 16 (.t 45) (.t 46)) (.cons 45 (.n (.load 16 (.t 44)) (.cons 44 (.n (.faddr 15 (.t 2) 3) (.cons 2 (.v 2) .nil)) .nil)) (.cons 46 (.v 5) .nil))) .nil)),
             .eff none (some 6) (.alloc 17) .nil none,
             .eff none none (.store 17 (.t 6) (.t 48)) (.cons 6 (.v 6) (.cons 48 (.v 10) .nil)) none])
          (.seq (.run 0 [.asg 11 (.n (.load 17 (.t 52)) (.cons 52 (.n (.iaddr 16 (.t 50) (.t 51)) (.cons 50 (.n (.load 16 (.t 49)) (.cons 49 (.n (.faddr 15 (.t 3) 3) (.cons 3 (.v 3) .nil)) .nil)) (.cons 51 (.v 5) .nil))) .nil)),
             .eff none (some 7) (.alloc 17) .nil none,
             .eff none none (.store 17 (.t 7) (.t 53)) (.cons 7 (.v 7) (.cons 53 (.v 11) .nil)) none])
          (.seq (.run 0 [.asg 12 (.ite (.ite (.ite (.n (.bin .neq 2 (.t 55) (.t 57)) (.cons 55 (.n (.load 2 (.t 54)) (.cons 54 (.n (.faddr 17 (.t 6) 0) (.cons 6 (.v 6) .nil)) .nil)) (.cons 57 (.n (.load 2 (.t 56)) (.cons 56 (.n (.faddr 17 (.t 7) 0) (.cons 7 (.v 7) .nil)) .nil)) .nil))) (.c (.bool true)) (.n (.bin .neq 2 (.t 61) (.t 63)) (.cons 61 (.n (.load 2 (.t 60)) (.cons 60 (.n (.faddr 17 (.t 6) 1) (.cons 6 (.v 6) .nil)) .nil)) (.cons 63 (.n (.load 2 (.t 62)) (.cons 62 (.n (.faddr 17 (.t 7) 1) (.cons 7 (.v 7) .nil)) .nil)) .nil)))) (.c (.bool true)) (.n (.bin .neq 2 (.t 68) (.t 70)) (.cons 68 (.n (.load 2 (.t 67)) (.cons 67 (.n (.faddr 17 (.t 6) 2) (.cons 6 (.v 6) .nil)) .nil)) (.cons 70 (.n (.load 2 (.t 69)) (.cons 69 (.n (.faddr 17 (.t 7) 2) (.cons 7 (.v 7) .nil)) .nil)) .nil)))) (.c (.bool true)) (.n (.un .not (.t 78)) (.cons 78 (.n (.call 0 (.f 232) [(.t 75), (.t 77)]) (.cons 75 (.n (.load 18 (.t 74)) (.cons 74 (.n (.faddr 17 (.t 6) 3) (.cons 6 (.v 6) .nil)) .nil)) (.cons 77 (.n (.load 18 (.t 76)) (.cons 76 (.n (.faddr 17 (.t 7) 3) (.cons 7 (.v 7) .nil)) .nil)) .nil))) .nil)))])
          (.cond 12 (.seq (.run 0 [.asg 4 (.c (.bool false))])
            (.ret)) (.skip))))))
       (.run 0 [.asg 5 (.n (.bin .add 2 (.t 42) (.c (.int .i64 1))) (.cons 42 (.v 5) .nil))]))))))
  (.seq (.run 0 [.asg 4 (.c (.bool true))])
  (.ret))))
theorem c218 : TF E 218 n218 [(4, none)] t218 81 := tf_of (F := f218) rfl (by kernel_rfl) (by decide)

def n219 : List Nat := [0, 1, 2, 3, 4, 5, 6, 7, 32, 37, 50, 55, 69, 74, 88]
def t219 : TC := .seq (.run 0 [.eff none (some 2) (.box 0 (.t 0)) (.cons 0 (.v 0) .nil) none,
     .eff none (some 3) (.box 0 (.t 1)) (.cons 1 (.v 1) .nil) none,
     .asg 4 (.c (.bool false))])
  (.seq (.seq (.run 0 [.asg 8 (.ite (.ite (.n (.bin .neq 2 (.t 10) (.t 13)) (.cons 10 (.n (.len 10 (.t 9)) (.cons 9 (.n (.load 10 (.t 8)) (.cons 8 (.n (.faddr 0 (.t 2) 0) (.cons 2 (.v 2) .nil)) .nil)) .nil)) (.cons 13 (.n (.len 10 (.t 12)) (.cons 12 (.n (.load 10 (.t 11)) (.cons 11 (.n (.faddr 0 (.t 3) 0) (.cons 3 (.v 3) .nil)) .nil)) .nil)) .nil))) (.c (.bool true)) (.n (.bin .neq 2 (.t 18) (.t 21)) (.cons 18 (.n (.len 9 (.t 17)) (.cons 17 (.n (.load 9 (.t 16)) (.cons 16 (.n (.faddr 0 (.t 2) 1) (.cons 2 (.v 2) .nil)) .nil)) .nil)) (.cons 21 (.n (.len 9 (.t 20)) (.cons 20 (.n (.load 9 (.t 19)) (.cons 19 (.n (.faddr 0 (.t 3) 1) (.cons 3 (.v 3) .nil)) .nil)) .nil)) .nil)))) (.c (.bool true)) (.n (.bin .neq 2 (.t 27) (.t 30)) (.cons 27 (.n (.len 14 (.t 26)) (.cons 26 (.n (.load 14 (.t 25)) (.cons 25 (.n (.faddr 0 (.t 2) 2) (.cons 2 (.v 2) .nil)) .nil)) .nil)) (.cons 30 (.n (.len 14 (.t 29)) (.cons 29 (.n (.load 14 (.t 28)) (.cons 28 (.n (.faddr 0 (.t 3) 2) (.cons 3 (.v 3) .nil)) .nil)) .nil)) .nil))))])
   (.cond 8 (.seq (.run 0 [.asg 4 (.c (.bool false))])
     (.ret)) (.skip)))
  (.seq (.seq (.run 0 [.asg 5 (.c (.int .i64 0))])
   (.block 0 (.loop (
       .seq (.seq (.run 0 [.asg 9 (.n (.bin .lss 2 (.t 33) (.t 36)) (.cons 33 (.v 5) (.cons 36 (.n (.len 10 (.t 35)) (.cons 35 (.n (.load 10 (.t 34)) (.cons 34 (.n (.faddr 0 (.t 2) 0) (.cons 2 (.v 2) .nil)) .nil)) .nil)) .nil)))])
        (.cond 9 (.skip) (.exit 0)))
       (.seq (.block 1 (.seq (.run 11 [.asg 10 (.n (.bin .neq 20 (.t 44) (.t 49)) (.cons 44 (.n (.load 20 (.t 43)) (.cons 43 (.n (.iaddr 10 (.t 41) (.t 42)) (.cons 41 (.n (.load 10 (.t 40)) (.cons 40 (.n (.faddr 0 (.t 2) 0) (.cons 2 (.v 2) .nil)) .nil)) (.cons 42 (.v 5) .nil))) .nil)) (.cons 49 (.n (.load 20 (.t 48)) (.cons 48 (.n (.iaddr 10 (.t 46) (.t 47)) (.cons 46 (.n (.load 10 (.t 45)) (.cons 45 (.n (.faddr 0 (.t 3) 0) (.cons 3 (.v 3) .nil)) .nil)) (.cons 47 (.v 5) .nil))) .nil)) .nil)))])
          (.cond 10 (.seq (.run 0 [.asg 4 (.c (.bool false))])
            (.ret)) (.skip))))
       (.run 0 [.asg 5 (.n (.bin .add 2 (.t 38) (.c (.int .i64 1))) (.cons 38 (.v 5) .nil))]))))))
  (.seq (.seq (.run 0 [.asg 6 (.c (.int .i64 0))])
   (.block 2 (.loop (
       .seq (.seq (.run 0 [.asg 11 (.n (.bin .lss 2 (.t 51) (.t 54)) (.cons 51 (.v 6) (.cons 54 (.n (.len 9 (.t 53)) (.cons 53 (.n (.load 9 (.t 52)) (.cons 52 (.n (.faddr 0 (.t 2) 1) (.cons 2 (.v 2) .nil)) .nil)) .nil)) .nil)))])
        (.cond 11 (.skip) (.exit 2)))
       (.seq (.block 3 (.seq (.run 12 [.asg 12 (.n (.un .not (.t 68)) (.cons 68 (.n (.call 0 (.f 20) [(.t 62), (.t 67)]) (.cons 62 (.n (.load 6 (.t 61)) (.cons 61 (.n (.iaddr 9 (.t 59) (.t 60)) (.cons 59 (.n (.load 9 (.t 58)) (.cons 58 (.n (.faddr 0 (.t 2) 1) (.cons 2 (.v 2) .nil)) .nil)) (.cons 60 (.v 6) .nil))) .nil)) (.cons 67 (.n (.load 6 (.t 66)) (.cons 66 (.n (.iaddr 9 (.t 64) (.t 65)) (.cons 64 (.n (.load 9 (.t 63)) (.cons 63 (.n (.faddr 0 (.t 3) 1) (.cons 3 (.v 3) .nil)) .nil)) (.cons 65 (.v 6) .nil))) .nil)) .nil))) .nil))])
          (.cond 12 (.seq (.run 0 [.asg 4 (.c (.bool false))])
            (.ret)) (.skip))))
       (.run 0 [.asg 6 (.n (.bin .add 2 (.t 56) (.c (.int .i64 1))) (.cons 56 (.v 6) .nil))]))))))
  (.seq (.seq (.run 0 [.asg 7 (.c (.int .i64 0))])
   (.block 4 (.loop (
       .seq (.seq (.run 0 [.asg 13 (.n (.bin .lss 2 (.t 70) (.t 73)) (.cons 70 (.v 7) (.cons 73 (.n (.len 14 (.t 72)) (.cons 72 (.n (.load 14 (.t 71)) (.cons 71 (.n (.faddr 0 (.t 2) 2) (.cons 2 (.v 2) .nil)) .nil)) .nil)) .nil)))])
        (.cond 13 (.skip) (.exit 4)))
       (.seq (.block 5 (.seq (.run 12 [.asg 14 (.n (.un .not (.t 87)) (.cons 87 (.n (.call 0 (.f 218) [(.t 81), (.t 86)]) (.cons 81 (.n (.load 15 (.t 80)) (.cons 80 (.n (.iaddr 14 (.t 78) (.t 79)) (.cons 78 (.n (.load 14 (.t 77)) (.cons 77 (.n (.faddr 0 (.t 2) 2) (.cons 2 (.v 2) .nil)) .nil)) (.cons 79 (.v 7) .nil))) .nil)) (.cons 86 (.n (.load 15 (.t 85)) (.cons 85 (.n (.iaddr 14 (.t 83) (.t 84)) (.cons 83 (.n (.load 14 (.t 82)) (.cons 82 (.n (.faddr 0 (.t 3) 2) (.cons 3 (.v 3) .nil)) .nil)) (.cons 84 (.v 7) .nil))) .nil)) .nil))) .nil))])
          (.cond 14 (.seq (.run 0 [.asg 4 (.c (.bool false))])
            (.ret)) (.skip))))
       (.run 0 [.asg 7 (.n (.bin .add 2 (.t 75) (.c (.int .i64 1))) (.cons 75 (.v 7) .nil))]))))))
  (.seq (.run 0 [.asg 4 (.c (.bool true))])
  (.ret))))))
theorem c219 : TF E 219 n219 [(4, none)] t219 89 := tf_of (F := f219) rfl (by kernel_rfl) (by decide)

def n224 : List Nat := [0, 1, 2, 3, 6]
def t224 : TC := .seq (.run 0 [.eff none (some 3) (.box 0 (.t 0)) (.cons 0 (.v 0) .nil) none,
     .eff none (some 4) (.alloc 0) .nil none])
  (.seq (.run 16 [.eff none none (.store 14 (.t 21) (.t 20)) (.cons 21 (.n (.faddr 0 (.t 3) 2) (.cons 3 (.v 3) .nil)) (.cons 20 (.n (.call 0 (.f 233) [(.t 19)]) (.cons 19 (.n (.bslice false 45 3 [(0, (.t 10)), (1, (.t 11)), (2, (.t 18))]) (.cons 10 (.n (.slice 14 (.t 8) none (some (.t 9)) none) (.cons 8 (.n (.load 14 (.t 7)) (.cons 7 (.n (.faddr 0 (.t 3) 2) (.cons 3 (.v 3) .nil)) .nil)) (.cons 9 (.v 1) .nil))) (.cons 11 (.v 2) (.cons 18 (.n (.slice 14 (.t 13) (some (.t 17)) none none) (.cons 13 (.n (.load 14 (.t 12)) (.cons 12 (.n (.faddr 0 (.t 3) 2) (.cons 3 (.v 3) .nil)) .nil)) (.cons 17 (.n (.bin .add 2 (.t 14) (.t 16)) (.cons 14 (.v 1) (.cons 16 (.n (.len 14 (.t 15)) (.cons 15 (.v 2) .nil)) .nil))) .nil))) .nil)))) .nil)) .nil)) (some 15)])
  (.seq (.run 0 [.eff none none (.store 0 (.t 6) (.t 22)) (.cons 6 (.v 4) (.cons 22 (.n (.load 0 (.t 3)) (.cons 3 (.v 3) .nil)) .nil)) none])
  (.ret)))
theorem c224 : TF E 224 n224 [(4, some 0)] t224 23 := tf_of (F := f224) rfl (by kernel_rfl) (by decide)

def n232 : List Nat := [0, 1, 4, 5, 10, 14, 25]
def t232 : TC := .seq (.run 0 [.asg 2 (.c (.bool false))])
  (.seq (.seq (.run 0 [.asg 4 (.n (.bin .neq 2 (.t 7) (.t 9)) (.cons 7 (.n (.len 18 (.t 6)) (.cons 6 (.v 0) .nil)) (.cons 9 (.n (.len 18 (.t 8)) (.cons 8 (.v 1) .nil)) .nil)))])
   (.cond 4 (.seq (.run 0 [.asg 2 (.c (.bool false))])
     (.ret)) (.skip)))
  (.seq (.seq (.run 0 [.asg 3 (.c (.int .i64 0))])
   (.block 0 (.loop (
       .seq (.seq (.run 0 [.asg 5 (.n (.bin .lss 2 (.t 11) (.t 13)) (.cons 11 (.v 3) (.cons 13 (.n (.len 18 (.t 12)) (.cons 12 (.v 0) .nil)) .nil)))])
        (.cond 5 (.skip) (.exit 0)))
       (.seq (.block 1 (.seq (.run 9 [.asg 6 (.n (.bin .neq 19 (.t 20) (.t 24)) (.cons 20 (.n (.load 19 (.t 19)) (.cons 19 (.n (.iaddr 18 (.t 17) (.t 18)) (.cons 17 (.v 0) (.cons 18 (.v 3) .nil))) .nil)) (.cons 24 (.n (.load 19 (.t 23)) (.cons 23 (.n (.iaddr 18 (.t 21) (.t 22)) (.cons 21 (.v 1) (.cons 22 (.v 3) .nil))) .nil)) .nil)))])
          (.cond 6 (.seq (.run 0 [.asg 2 (.c (.bool false))])
            (.ret)) (.skip))))
       (.run 0 [.asg 3 (.n (.bin .add 2 (.t 15) (.c (.int .i64 1))) (.cons 15 (.v 3) .nil))]))))))
  (.seq (.run 0 [.asg 2 (.c (.bool true))])
  (.ret))))
theorem c232 : TF E 232 n232 [(2, none)] t232 26 := tf_of (F := f232) rfl (by kernel_rfl) (by decide)

def n233 : List Nat := [0, 2, 3, 5, 6, 8, 9, 10, 11, 12, 20, 24, 25, 26, 27, 28, 33]
def t233 : TC := .seq (.run 0 [.asg 1 (.c (.imm .exact []))])
  (.seq (.run 0 [.asg 2 (.c (.int .i64 0))])
  (.seq (.seq (.run 0 [.asg 6 (.v 0),
      .asg 7 (.n (.len 45 (.t 9)) (.cons 9 (.v 6) .nil)),
      .asg 8 (.c (.int .i64 0))])
   (.block 0 (.loop (
       .seq (.run 0 [.asg 9 (.n (.bin .lss 2 (.t 11) (.t 10)) (.cons 11 (.v 8) (.cons 10 (.v 7) .nil)))])
       (.seq (.cond 9 (.skip) (.exit 0))
       (.seq (.block 1 (.seq (.run 0 [.asg 3 (.n (.load 14 (.t 13)) (.cons 13 (.n (.iaddr 45 (.t 9) (.t 11)) (.cons 9 (.v 6) (.cons 11 (.v 8) .nil))) .nil))])
          (.seq (.run 0 [.asg 2 (.n (.bin .add 2 (.t 15) (.t 17)) (.cons 15 (.v 2) (.cons 17 (.n (.len 14 (.t 16)) (.cons 16 (.v 3) .nil)) .nil)))])
          (.seq (.run 0 [.asg 10 (.n (.bin .lss 2 (.t 19) (.c (.int .i64 0))) (.cons 19 (.v 2) .nil))])
          (.cond 10 (.dead) (.skip))))))
       (.run 0 [.asg 8 (.n (.bin .add 2 (.t 11) (.c (.int .i64 1))) (.cons 11 (.v 8) .nil))])))))))
  (.seq (.run 0 [.eff none (some 11) (.call 2 (.f 244) [(.c (.imm .exact [])), (.t 23)]) (.cons 23 (.v 2) .nil) none,
     .asg 4 (.v 11)])
  (.seq (.seq (.run 0 [.asg 12 (.v 0),
      .asg 13 (.n (.len 45 (.t 25)) (.cons 25 (.v 12) .nil)),
      .asg 14 (.c (.int .i64 0))])
   (.block 2 (.loop (
       .seq (.run 0 [.asg 15 (.n (.bin .lss 2 (.t 27) (.t 26)) (.cons 27 (.v 14) (.cons 26 (.v 13) .nil)))])
       (.seq (.cond 15 (.skip) (.exit 2))
       (.seq (.block 3 (.seq (.run 0 [.asg 5 (.n (.load 14 (.t 29)) (.cons 29 (.n (.iaddr 45 (.t 25) (.t 27)) (.cons 25 (.v 12) (.cons 27 (.v 14) .nil))) .nil))])
          (.run 0 [.eff none (some 16) (.append 0 14 14 (.t 31) (.t 32)) (.cons 31 (.v 4) (.cons 32 (.v 5) .nil)) none,
            .asg 4 (.v 16)])))
       (.run 0 [.asg 14 (.n (.bin .add 2 (.t 27) (.c (.int .i64 1))) (.cons 27 (.v 14) .nil))])))))))
  (.seq (.run 0 [.asg 1 (.v 4)])
  (.ret))))))
theorem c233 : TF E 233 n233 [(1, none)] t233 36 := tf_of (F := f233) rfl (by kernel_rfl) (by decide)

theorem ty_0 : E.ty 0 = ⟨.struct [(0, 10), (1, 9), (2, 14)], 3, 72, [(.imm .exact []), (.imm .exact []), (.imm .exact [])], false⟩ := rfl
theorem ty_1 : E.ty 1 = ⟨.slice 2, 1, 24, [(.imm .exact [])], false⟩ := rfl
theorem ty_2 : E.ty 2 = ⟨.int .i64, 1, 8, [(.int .i64 0)], false⟩ := rfl
theorem ty_3 : E.ty 3 = ⟨.int .i64, 1, 8, [(.int .i64 0)], false⟩ := rfl
theorem ty_4 : E.ty 4 = ⟨.slice 1, 1, 24, [(.imm .exact [])], false⟩ := rfl
theorem ty_6 : E.ty 6 = ⟨.slice 2, 1, 24, [(.imm .exact [])], false⟩ := rfl
theorem ty_7 : E.ty 7 = ⟨.bool, 1, 1, [(.bool false)], false⟩ := rfl
theorem ty_9 : E.ty 9 = ⟨.slice 6, 1, 24, [(.imm .exact [])], false⟩ := rfl
theorem ty_10 : E.ty 10 = ⟨.slice 20, 1, 24, [(.imm .exact [])], false⟩ := rfl
theorem ty_11 : E.ty 11 = ⟨.struct [(0, 2), (1, 2)], 2, 16, [(.int .i64 0), (.int .i64 0)], true⟩ := rfl
theorem ty_12 : E.ty 12 = ⟨.int .u64, 1, 8, [(.int .u64 0)], false⟩ := rfl
theorem ty_13 : E.ty 13 = ⟨.int .u8, 1, 1, [(.int .u8 0)], false⟩ := rfl
theorem ty_14 : E.ty 14 = ⟨.slice 15, 1, 24, [(.imm .exact [])], false⟩ := rfl
theorem ty_15 : E.ty 15 = ⟨.struct [(0, 2), (1, 2), (2, 6), (3, 16)], 4, 64, [(.int .i64 0), (.int .i64 0), (.imm .exact []), (.imm .exact [])], false⟩ := rfl
theorem ty_16 : E.ty 16 = ⟨.slice 17, 1, 24, [(.imm .exact [])], false⟩ := rfl
theorem ty_17 : E.ty 17 = ⟨.struct [(0, 2), (1, 2), (2, 2), (3, 18)], 4, 48, [(.int .i64 0), (.int .i64 0), (.int .i64 0), (.imm .exact [])], false⟩ := rfl
theorem ty_18 : E.ty 18 = ⟨.slice 19, 1, 24, [(.imm .exact [])], false⟩ := rfl
theorem ty_19 : E.ty 19 = ⟨.struct [(0, 20), (3, 2)], 4, 32, [(.bool false), (.int .i64 0), (.int .i64 0), (.int .i64 0)], true⟩ := rfl
theorem ty_20 : E.ty 20 = ⟨.struct [(0, 7), (1, 2), (2, 2)], 3, 24, [(.bool false), (.int .i64 0), (.int .i64 0)], true⟩ := rfl
theorem ty_21 : E.ty 21 = ⟨.map 20 7, 1, 8, [(.map none)], false⟩ := rfl
theorem ty_22 : E.ty 22 = ⟨.arr 4 2, 4, 32, [(.int .i64 0), (.int .i64 0), (.int .i64 0), (.int .i64 0)], true⟩ := rfl
theorem ty_23 : E.ty 23 = ⟨.arr 2 6, 2, 48, [(.imm .exact []), (.imm .exact [])], false⟩ := rfl
theorem ty_24 : E.ty 24 = ⟨.slice 23, 1, 24, [(.imm .exact [])], false⟩ := rfl
theorem ty_25 : E.ty 25 = ⟨.struct [(0, 0), (3, 1), (4, 2), (5, 9)], 6, 128, [(.imm .exact []), (.imm .exact []), (.imm .exact []), (.imm .exact []), (.int .i64 0), (.imm .exact [])], false⟩ := rfl
theorem ty_26 : E.ty 26 = ⟨.map 20 2, 1, 8, [(.map none)], false⟩ := rfl
theorem ty_27 : E.ty 27 = ⟨.func, 1, 8, [.nilfn], false⟩ := rfl
theorem ty_29 : E.ty 29 = ⟨.struct [(0, 6), (1, 6), (2, 31)], 3, 72, [(.imm .exact []), (.imm .exact []), (.imm .exact [])], false⟩ := rfl
theorem ty_31 : E.ty 31 = ⟨.slice 32, 1, 24, [(.imm .exact [])], false⟩ := rfl
theorem ty_32 : E.ty 32 = ⟨.struct [(0, 1), (1, 2), (2, 9)], 3, 56, [(.imm .exact []), (.int .i64 0), (.imm .exact [])], false⟩ := rfl
theorem ty_41 : E.ty 41 = ⟨.struct [(0, 0), (3, 29), (6, 7), (7, 43)], 8, 160, [(.imm .exact []), (.imm .exact []), (.imm .exact []), (.imm .exact []), (.imm .exact []), (.imm .exact []), (.bool false), .nilfn], false⟩ := rfl
theorem ty_42 : E.ty 42 = ⟨.ptr 41, 1, 8, [.nilp], false⟩ := rfl
theorem ty_43 : E.ty 43 = ⟨.func, 1, 8, [.nilfn], false⟩ := rfl
theorem ty_44 : E.ty 44 = ⟨.struct [(0, 3)], 1, 8, [(.int .i64 0)], true⟩ := rfl
theorem ty_45 : E.ty 45 = ⟨.slice 14, 1, 24, [(.imm .exact [])], false⟩ := rfl
theorem ty_47 : E.ty 47 = ⟨.func, 1, 8, [.nilfn], false⟩ := rfl
theorem ty_48 : E.ty 48 = ⟨.struct [(0, 49)], 4, 32, [.nilfn, .nilfn, .nilfn, .nilfn], false⟩ := rfl
theorem ty_49 : E.ty 49 = ⟨.arr 4 50, 4, 32, [.nilfn, .nilfn, .nilfn, .nilfn], false⟩ := rfl
theorem ty_50 : E.ty 50 = ⟨.func, 1, 8, [.nilfn], false⟩ := rfl
theorem ty_51 : E.ty 51 = ⟨.struct [(0, 0), (3, 6), (4, 6)], 5, 120, [(.imm .exact []), (.imm .exact []), (.imm .exact []), (.imm .exact []), (.imm .exact [])], false⟩ := rfl
theorem ty_52 : E.ty 52 = ⟨.slice 4, 1, 24, [(.imm .exact [])], false⟩ := rfl
theorem mp_228 : E.mp 228 = true := rfl
theorem mp_229 : E.mp 229 = true := rfl
theorem mp_241 : E.mp 241 = true := rfl
theorem mp_242 : E.mp 242 = true := rfl
theorem mp_243 : E.mp 243 = true := rfl
theorem mp_246 : E.mp 246 = true := rfl

end Dv
