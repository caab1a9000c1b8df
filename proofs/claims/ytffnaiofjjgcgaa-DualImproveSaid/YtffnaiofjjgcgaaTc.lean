/- Texts that a proof of this claim uses, joined: Lw.TCode. -/
import Derived.Test.YtffnaiofjjgcgaaLwa
import Derived.Test.YtffnaiofjjgcgaaCode
import Derived.KernelRfl
set_option linter.all false
/- The tidy code of the functions, as printed by program. -/
namespace Dv
open Go (IntKind BinOp UnOp)

def n2 : List Nat := [0, 1, 2, 3, 4, 5, 6, 22, 27, 36, 41, 48, 58, 63, 73]
def t2 : TC := .seq (.run 0 [.eff none (some 1) (.box 0 (.t 0)) (.cons 0 (.v 0) .nil) none,
     .asg 2 (.c (.bool false))])
  (.seq (.seq (.run 0 [.asg 7 (.ite (.ite (.n (.bin .gtr 2 (.t 9) (.c (.int .i64 12))) (.cons 9 (.n (.len 10 (.t 8)) (.cons 8 (.n (.load 10 (.t 7)) (.cons 7 (.n (.faddr 0 (.t 1) 0) (.cons 1 (.v 1) .nil)) .nil)) .nil)) .nil)) (.c (.bool true)) (.n (.bin .gtr 2 (.t 14) (.c (.int .i64 4))) (.cons 14 (.n (.len 9 (.t 13)) (.cons 13 (.n (.load 9 (.t 12)) (.cons 12 (.n (.faddr 0 (.t 1) 1) (.cons 1 (.v 1) .nil)) .nil)) .nil)) .nil))) (.c (.bool true)) (.n (.bin .gtr 2 (.t 20) (.c (.int .i64 6))) (.cons 20 (.n (.len 14 (.t 19)) (.cons 19 (.n (.load 14 (.t 18)) (.cons 18 (.n (.faddr 0 (.t 1) 2) (.cons 1 (.v 1) .nil)) .nil)) .nil)) .nil)))])
   (.cond 7 (.seq (.run 0 [.asg 2 (.c (.bool false))])
     (.ret)) (.skip)))
  (.seq (.seq (.run 0 [.asg 3 (.c (.int .i64 0))])
   (.block 0 (.loop (
       .seq (.seq (.run 0 [.asg 8 (.n (.bin .lss 2 (.t 23) (.t 26)) (.cons 23 (.v 3) (.cons 26 (.n (.len 9 (.t 25)) (.cons 25 (.n (.load 9 (.t 24)) (.cons 24 (.n (.faddr 0 (.t 1) 1) (.cons 1 (.v 1) .nil)) .nil)) .nil)) .nil)))])
        (.cond 8 (.skip) (.exit 0)))
       (.seq (.block 1 (.seq (.run 0 [.asg 9 (.n (.bin .gtr 2 (.t 35) (.c (.int .i64 16))) (.cons 35 (.n (.len 6 (.t 34)) (.cons 34 (.n (.load 6 (.t 33)) (.cons 33 (.n (.iaddr 9 (.t 31) (.t 32)) (.cons 31 (.n (.load 9 (.t 30)) (.cons 30 (.n (.faddr 0 (.t 1) 1) (.cons 1 (.v 1) .nil)) .nil)) (.cons 32 (.v 3) .nil))) .nil)) .nil)) .nil))])
          (.cond 9 (.seq (.run 0 [.asg 2 (.c (.bool false))])
            (.ret)) (.skip))))
       (.run 0 [.asg 3 (.n (.bin .add 2 (.t 28) (.c (.int .i64 1))) (.cons 28 (.v 3) .nil))]))))))
  (.seq (.seq (.run 0 [.asg 4 (.c (.int .i64 0))])
   (.block 2 (.loop (
       .seq (.seq (.run 0 [.asg 10 (.n (.bin .lss 2 (.t 37) (.t 40)) (.cons 37 (.v 4) (.cons 40 (.n (.len 14 (.t 39)) (.cons 39 (.n (.load 14 (.t 38)) (.cons 38 (.n (.faddr 0 (.t 1) 2) (.cons 1 (.v 1) .nil)) .nil)) .nil)) .nil)))])
        (.cond 10 (.skip) (.exit 2)))
       (.seq (.block 3 (.seq (.run 0 [.asg 11 (.n (.load 15 (.t 47)) (.cons 47 (.n (.iaddr 14 (.t 45) (.t 46)) (.cons 45 (.n (.load 14 (.t 44)) (.cons 44 (.n (.faddr 0 (.t 1) 2) (.cons 1 (.v 1) .nil)) .nil)) (.cons 46 (.v 4) .nil))) .nil)),
             .eff none (some 5) (.alloc 15) .nil none,
             .eff none none (.store 15 (.t 5) (.t 48)) (.cons 5 (.v 5) (.cons 48 (.v 11) .nil)) none])
          (.seq (.seq (.run 0 [.asg 12 (.ite (.n (.bin .gtr 2 (.t 51) (.c (.int .i64 8))) (.cons 51 (.n (.len 6 (.t 50)) (.cons 50 (.n (.load 6 (.t 49)) (.cons 49 (.n (.faddr 15 (.t 5) 2) (.cons 5 (.v 5) .nil)) .nil)) .nil)) .nil)) (.c (.bool true)) (.n (.bin .gtr 2 (.t 56) (.c (.int .i64 8))) (.cons 56 (.n (.len 16 (.t 55)) (.cons 55 (.n (.load 16 (.t 54)) (.cons 54 (.n (.faddr 15 (.t 5) 3) (.cons 5 (.v 5) .nil)) .nil)) .nil)) .nil)))])
           (.cond 12 (.seq (.run 0 [.asg 2 (.c (.bool false))])
             (.ret)) (.skip)))
          (.seq (.run 0 [.asg 6 (.c (.int .i64 0))])
          (.block 4 (.loop (
              .seq (.seq (.run 0 [.asg 13 (.n (.bin .lss 2 (.t 59) (.t 62)) (.cons 59 (.v 6) (.cons 62 (.n (.len 16 (.t 61)) (.cons 61 (.n (.load 16 (.t 60)) (.cons 60 (.n (.faddr 15 (.t 5) 3) (.cons 5 (.v 5) .nil)) .nil)) .nil)) .nil)))])
               (.cond 13 (.skip) (.exit 4)))
              (.seq (.block 5 (.seq (.run 0 [.asg 14 (.n (.bin .gtr 2 (.t 72) (.c (.int .i64 12))) (.cons 72 (.n (.len 18 (.t 71)) (.cons 71 (.n (.load 18 (.t 70)) (.cons 70 (.n (.faddr 17 (.t 69) 3) (.cons 69 (.n (.iaddr 16 (.t 67) (.t 68)) (.cons 67 (.n (.load 16 (.t 66)) (.cons 66 (.n (.faddr 15 (.t 5) 3) (.cons 5 (.v 5) .nil)) .nil)) (.cons 68 (.v 6) .nil))) .nil)) .nil)) .nil)) .nil))])
                 (.cond 14 (.seq (.run 0 [.asg 2 (.c (.bool false))])
                   (.ret)) (.skip))))
              (.run 0 [.asg 6 (.n (.bin .add 2 (.t 64) (.c (.int .i64 1))) (.cons 64 (.v 6) .nil))])))))))))
       (.run 0 [.asg 4 (.n (.bin .add 2 (.t 42) (.c (.int .i64 1))) (.cons 42 (.v 4) .nil))]))))))
  (.seq (.run 0 [.asg 2 (.n (.bin .lss 2 (.t 75) (.c (.int .i64 2000))) (.cons 75 (.n (.call 0 (.f 61) [(.t 74), (.c (.int .i64 2000))]) (.cons 74 (.n (.load 0 (.t 1)) (.cons 1 (.v 1) .nil)) .nil)) .nil))])
  (.ret)))))
theorem c2 : TF E 2 n2 [(2, none)] t2 77 := tf_of (F := f2) rfl (by kernel_rfl) (by decide)

def n15 : List Nat := [0, 1, 2, 3, 5, 7, 9, 11, 12, 14, 37, 38, 40, 41, 42, 43, 45, 53, 58, 59, 60, 61, 73, 76, 77, 78, 79, 81, 119, 121, 122, 123, 124, 126, 151, 153, 154, 155, 156, 158, 169]
def t15 : TC := .seq (.run 0 [.eff none (some 1) (.box 0 (.t 0)) (.cons 0 (.v 0) .nil) none,
     .asg 2 (.c (.int .i64 0))])
  (.seq (.seq (.run 0 [.asg 10 (.ite (.ite (.ite (.n (.bin .gtr 2 (.t 17) (.c (.int .i64 4096))) (.cons 17 (.n (.len 10 (.t 16)) (.cons 16 (.n (.load 10 (.t 15)) (.cons 15 (.n (.faddr 0 (.t 1) 0) (.cons 1 (.v 1) .nil)) .nil)) .nil)) .nil)) (.c (.bool true)) (.n (.un .not (.t 23)) (.cons 23 (.n (.call 0 (.f 67) [(.t 22), (.c (.int .i64 1)), (.c (.int .i64 32))]) (.cons 22 (.n (.len 9 (.t 21)) (.cons 21 (.n (.load 9 (.t 20)) (.cons 20 (.n (.faddr 0 (.t 1) 1) (.cons 1 (.v 1) .nil)) .nil)) .nil)) .nil)) .nil))) (.c (.bool true)) (.n (.bin .gtr 2 (.t 29) (.c (.int .i64 64))) (.cons 29 (.n (.len 14 (.t 28)) (.cons 28 (.n (.load 14 (.t 27)) (.cons 27 (.n (.faddr 0 (.t 1) 2) (.cons 1 (.v 1) .nil)) .nil)) .nil)) .nil))) (.c (.bool true)) (.n (.un .not (.t 35)) (.cons 35 (.n (.call 0 (.f 69) [(.t 34), (.f 70)]) (.cons 34 (.n (.load 10 (.t 33)) (.cons 33 (.n (.faddr 0 (.t 1) 0) (.cons 1 (.v 1) .nil)) .nil)) .nil)) .nil)))])
   (.cond 10 (.seq (.run 0 [.asg 2 (.c (.int .i64 270))])
     (.ret)) (.skip)))
  (.seq (.run 0 [.eff none (some 11) (.mkmap 21) .nil none,
     .asg 3 (.v 11)])
  (.seq (.seq (.run 0 [.asg 12 (.n (.load 10 (.t 39)) (.cons 39 (.n (.faddr 0 (.t 1) 0) (.cons 1 (.v 1) .nil)) .nil)),
      .asg 13 (.n (.len 10 (.t 40)) (.cons 40 (.v 12) .nil)),
      .asg 14 (.c (.int .i64 0))])
   (.block 0 (.loop (
       .seq (.run 0 [.asg 15 (.n (.bin .lss 2 (.t 42) (.t 41)) (.cons 42 (.v 14) (.cons 41 (.v 13) .nil)))])
       (.seq (.cond 15 (.skip) (.exit 0))
       (.seq (.block 1 (.seq (.run 0 [.asg 16 (.n (.load 20 (.t 44)) (.cons 44 (.n (.iaddr 10 (.t 40) (.t 42)) (.cons 40 (.v 12) (.cons 42 (.v 14) .nil))) .nil)),
             .eff none (some 4) (.alloc 20) .nil none,
             .eff none none (.store 20 (.t 5) (.t 45)) (.cons 5 (.v 4) (.cons 45 (.v 16) .nil)) none])
          (.seq (.seq (.run 0 [.asg 17 (.ite (.n (.bin .lss 2 (.t 47) (.c (.int .i64 0))) (.cons 47 (.n (.load 2 (.t 46)) (.cons 46 (.n (.faddr 20 (.t 5) 1) (.cons 5 (.v 4) .nil)) .nil)) .nil)) (.c (.bool true)) (.n (.bin .lss 2 (.t 51) (.c (.int .i64 0))) (.cons 51 (.n (.load 2 (.t 50)) (.cons 50 (.n (.faddr 20 (.t 5) 2) (.cons 5 (.v 4) .nil)) .nil)) .nil)))])
           (.cond 17 (.seq (.run 0 [.asg 2 (.c (.int .i64 270))])
             (.ret)) (.skip)))
          (.run 0 [.eff none none (.mapset 21 (.t 54) (.t 55) (.c (.bool true))) (.cons 54 (.v 3) (.cons 55 (.n (.load 20 (.t 5)) (.cons 5 (.v 4) .nil)) .nil)) none]))))
       (.run 0 [.asg 14 (.n (.bin .add 2 (.t 42) (.c (.int .i64 1))) (.cons 42 (.v 14) .nil))])))))))
  (.seq (.seq (.run 0 [.asg 18 (.n (.load 9 (.t 57)) (.cons 57 (.n (.faddr 0 (.t 1) 1) (.cons 1 (.v 1) .nil)) .nil)),
      .asg 19 (.n (.len 9 (.t 58)) (.cons 58 (.v 18) .nil)),
      .asg 20 (.c (.int .i64 0))])
   (.block 2 (.loop (
       .seq (.run 0 [.asg 21 (.n (.bin .lss 2 (.t 60) (.t 59)) (.cons 60 (.v 20) (.cons 59 (.v 19) .nil)))])
       (.seq (.cond 21 (.skip) (.exit 2))
       (.seq (.block 3 (.seq (.run 0 [.asg 5 (.n (.load 6 (.t 62)) (.cons 62 (.n (.iaddr 9 (.t 58) (.t 60)) (.cons 58 (.v 18) (.cons 60 (.v 20) .nil))) .nil))])
          (.seq (.run 0 [.asg 22 (.ite (.n (.bin .neq 2 (.t 65) (.t 68)) (.cons 65 (.n (.len 6 (.t 64)) (.cons 64 (.v 5) .nil)) (.cons 68 (.n (.len 10 (.t 67)) (.cons 67 (.n (.load 10 (.t 66)) (.cons 66 (.n (.faddr 0 (.t 1) 0) (.cons 1 (.v 1) .nil)) .nil)) .nil)) .nil))) (.c (.bool true)) (.n (.call 0 (.f 71) [(.t 71), (.f 72)]) (.cons 71 (.v 5) .nil)))])
          (.cond 22 (.seq (.run 0 [.asg 2 (.c (.int .i64 270))])
            (.ret)) (.skip)))))
       (.run 0 [.asg 20 (.n (.bin .add 2 (.t 60) (.c (.int .i64 1))) (.cons 60 (.v 20) .nil))])))))))
  (.seq (.seq (.run 0 [.asg 23 (.n (.load 14 (.t 75)) (.cons 75 (.n (.faddr 0 (.t 1) 2) (.cons 1 (.v 1) .nil)) .nil)),
      .asg 24 (.n (.len 14 (.t 76)) (.cons 76 (.v 23) .nil)),
      .asg 25 (.c (.int .i64 0))])
   (.block 4 (.loop (
       .seq (.run 0 [.asg 26 (.n (.bin .lss 2 (.t 78) (.t 77)) (.cons 78 (.v 25) (.cons 77 (.v 24) .nil)))])
       (.seq (.cond 26 (.skip) (.exit 4))
       (.seq (.block 5 (.seq (.run 0 [.asg 27 (.n (.load 15 (.t 80)) (.cons 80 (.n (.iaddr 14 (.t 76) (.t 78)) (.cons 76 (.v 23) (.cons 78 (.v 25) .nil))) .nil)),
             .eff none (some 6) (.alloc 15) .nil none,
             .eff none none (.store 15 (.t 9) (.t 81)) (.cons 9 (.v 6) (.cons 81 (.v 27) .nil)) none])
          (.seq (.seq (.run 38 [.asg 28 (.ite (.ite (.ite (.ite (.n (.bin .eql 2 (.t 84) (.c (.int .i64 0))) (.cons 84 (.n (.len 6 (.t 83)) (.cons 83 (.n (.load 6 (.t 82)) (.cons 82 (.n (.faddr 15 (.t 9) 2) (.cons 9 (.v 6) .nil)) .nil)) .nil)) .nil)) (.c (.bool true)) (.n (.un .not (.t 90)) (.cons 90 (.n (.call 0 (.f 67) [(.t 89), (.c (.int .i64 1)), (.c (.int .i64 96))]) (.cons 89 (.n (.len 16 (.t 88)) (.cons 88 (.n (.load 16 (.t 87)) (.cons 87 (.n (.faddr 15 (.t 9) 3) (.cons 9 (.v 6) .nil)) .nil)) .nil)) .nil)) .nil))) (.c (.bool true)) (.n (.un .not (.t 96)) (.cons 96 (.n (.call 0 (.f 73) [(.t 95), (.f 74)]) (.cons 95 (.n (.load 6 (.t 94)) (.cons 94 (.n (.faddr 15 (.t 9) 2) (.cons 9 (.v 6) .nil)) .nil)) .nil)) .nil))) (.c (.bool true)) (.n (.bin .lss 2 (.t 103) (.c (.int .i64 0))) (.cons 103 (.n (.load 2 (.t 102)) (.cons 102 (.n (.iaddr 6 (.t 101) (.c (.int .i64 0))) (.cons 101 (.n (.load 6 (.t 100)) (.cons 100 (.n (.faddr 15 (.t 9) 2) (.cons 9 (.v 6) .nil)) .nil)) .nil)) .nil)) .nil))) (.c (.bool true)) (.n (.bin .geq 2 (.t 114) (.t 117)) (.cons 114 (.n (.load 2 (.t 113)) (.cons 113 (.n (.iaddr 6 (.t 108) (.t 112)) (.cons 108 (.n (.load 6 (.t 107)) (.cons 107 (.n (.faddr 15 (.t 9) 2) (.cons 9 (.v 6) .nil)) .nil)) (.cons 112 (.n (.bin .sub 2 (.t 111) (.c (.int .i64 1))) (.cons 111 (.n (.len 6 (.t 110)) (.cons 110 (.n (.load 6 (.t 109)) (.cons 109 (.n (.faddr 15 (.t 9) 2) (.cons 9 (.v 6) .nil)) .nil)) .nil)) .nil)) .nil))) .nil)) (.cons 117 (.n (.len 9 (.t 116)) (.cons 116 (.n (.load 9 (.t 115)) (.cons 115 (.n (.faddr 0 (.t 1) 1) (.cons 1 (.v 1) .nil)) .nil)) .nil)) .nil))))])
           (.cond 28 (.seq (.run 0 [.asg 2 (.c (.int .i64 270))])
             (.ret)) (.skip)))
          (.seq (.run 0 [.asg 29 (.n (.load 16 (.t 120)) (.cons 120 (.n (.faddr 15 (.t 9) 3) (.cons 9 (.v 6) .nil)) .nil)),
             .asg 30 (.n (.len 16 (.t 121)) (.cons 121 (.v 29) .nil)),
             .asg 31 (.c (.int .i64 0))])
          (.block 6 (.loop (
              .seq (.run 0 [.asg 32 (.n (.bin .lss 2 (.t 123) (.t 122)) (.cons 123 (.v 31) (.cons 122 (.v 30) .nil)))])
              (.seq (.cond 32 (.skip) (.exit 6))
              (.seq (.block 7 (.seq (.run 0 [.asg 33 (.n (.load 17 (.t 125)) (.cons 125 (.n (.iaddr 16 (.t 121) (.t 123)) (.cons 121 (.v 29) (.cons 123 (.v 31) .nil))) .nil)),
                    .eff none (some 7) (.alloc 17) .nil none,
                    .eff none none (.store 17 (.t 11) (.t 126)) (.cons 11 (.v 7) (.cons 126 (.v 33) .nil)) none])
                 (.seq (.run 0 [.asg 8 (.c (.int .i64 1048576))])
                 (.seq (.seq (.run 0 [.asg 34 (.ite (.ite (.ite (.n (.un .not (.t 130)) (.cons 130 (.n (.call 0 (.f 67) [(.t 128), (.c (.int .i64 0)), (.t 129)]) (.cons 128 (.n (.load 2 (.t 127)) (.cons 127 (.n (.faddr 17 (.t 11) 0) (.cons 11 (.v 7) .nil)) .nil)) (.cons 129 (.v 8) .nil))) .nil)) (.c (.bool true)) (.n (.un .not (.t 136)) (.cons 136 (.n (.call 0 (.f 67) [(.t 134), (.c (.int .i64 0)), (.t 135)]) (.cons 134 (.n (.load 2 (.t 133)) (.cons 133 (.n (.faddr 17 (.t 11) 1) (.cons 11 (.v 7) .nil)) .nil)) (.cons 135 (.v 8) .nil))) .nil))) (.c (.bool true)) (.n (.un .not (.t 143)) (.cons 143 (.n (.call 0 (.f 67) [(.t 141), (.c (.int .i64 0)), (.t 142)]) (.cons 141 (.n (.load 2 (.t 140)) (.cons 140 (.n (.faddr 17 (.t 11) 2) (.cons 11 (.v 7) .nil)) .nil)) (.cons 142 (.v 8) .nil))) .nil))) (.c (.bool true)) (.n (.un .not (.t 149)) (.cons 149 (.n (.call 0 (.f 75) [(.t 148), (.f 76)]) (.cons 148 (.n (.load 18 (.t 147)) (.cons 147 (.n (.faddr 17 (.t 11) 3) (.cons 11 (.v 7) .nil)) .nil)) .nil)) .nil)))])
                  (.cond 34 (.seq (.run 0 [.asg 2 (.c (.int .i64 270))])
                    (.ret)) (.skip)))
                 (.seq (.run 0 [.asg 35 (.n (.load 18 (.t 152)) (.cons 152 (.n (.faddr 17 (.t 11) 3) (.cons 11 (.v 7) .nil)) .nil)),
                    .asg 36 (.n (.len 18 (.t 153)) (.cons 153 (.v 35) .nil)),
                    .asg 37 (.c (.int .i64 0))])
                 (.block 8 (.loop (
                     .seq (.run 0 [.asg 38 (.n (.bin .lss 2 (.t 155) (.t 154)) (.cons 155 (.v 37) (.cons 154 (.v 36) .nil)))])
                     (.seq (.cond 38 (.skip) (.exit 8))
                     (.seq (.block 9 (.seq (.run 0 [.asg 39 (.n (.load 19 (.t 157)) (.cons 157 (.n (.iaddr 18 (.t 153) (.t 155)) (.cons 153 (.v 35) (.cons 155 (.v 37) .nil))) .nil)),
                           .eff none (some 9) (.alloc 19) .nil none,
                           .eff none none (.store 19 (.t 14) (.t 158)) (.cons 14 (.v 9) (.cons 158 (.v 39) .nil)) none])
                        (.seq (.run 0 [.asg 40 (.ite (.n (.un .not (.t 162)) (.cons 162 (.n (.lookup 21 (.t 159) (.t 161) false) (.cons 159 (.v 3) (.cons 161 (.n (.load 20 (.t 160)) (.cons 160 (.n (.faddr 19 (.t 14) 0) (.cons 14 (.v 9) .nil)) .nil)) .nil))) .nil)) (.c (.bool true)) (.n (.un .not (.t 167)) (.cons 167 (.n (.call 0 (.f 67) [(.t 166), (.c (.int .i64 1)), (.c (.int .i64 8))]) (.cons 166 (.n (.load 2 (.t 165)) (.cons 165 (.n (.faddr 19 (.t 14) 1) (.cons 14 (.v 9) .nil)) .nil)) .nil)) .nil)))])
                        (.cond 40 (.seq (.run 0 [.asg 2 (.c (.int .i64 270))])
                          (.ret)) (.skip)))))
                     (.run 0 [.asg 37 (.n (.bin .add 2 (.t 155) (.c (.int .i64 1))) (.cons 155 (.v 37) .nil))])))))))))))
              (.run 0 [.asg 31 (.n (.bin .add 2 (.t 123) (.c (.int .i64 1))) (.cons 123 (.v 31) .nil))]))))))))))
       (.run 0 [.asg 25 (.n (.bin .add 2 (.t 78) (.c (.int .i64 1))) (.cons 78 (.v 25) .nil))])))))))
  (.seq (.run 0 [.asg 2 (.c (.int .i64 0))])
  (.ret)))))))
theorem c15 : TF E 15 n15 [(2, none)] t15 173 := tf_of (F := f15) rfl (by kernel_rfl) (by decide)

def n19 : List Nat := [0, 1, 2, 3, 4, 5, 6, 28, 33, 70, 75, 87, 92, 104, 109, 119]
def t19 : TC := .seq (.run 0 [.eff none (some 1) (.box 0 (.t 0)) (.cons 0 (.v 0) .nil) none,
     .asg 2 (.c (.int .i64 0))])
  (.seq (.seq (.run 0 [.asg 7 (.ite (.ite (.ite (.n (.bin .gtr 2 (.t 9) (.c (.int .i64 4096))) (.cons 9 (.n (.len 10 (.t 8)) (.cons 8 (.n (.load 10 (.t 7)) (.cons 7 (.n (.faddr 0 (.t 1) 0) (.cons 1 (.v 1) .nil)) .nil)) .nil)) .nil)) (.c (.bool true)) (.n (.bin .lss 2 (.t 14) (.c (.int .i64 1))) (.cons 14 (.n (.len 9 (.t 13)) (.cons 13 (.n (.load 9 (.t 12)) (.cons 12 (.n (.faddr 0 (.t 1) 1) (.cons 1 (.v 1) .nil)) .nil)) .nil)) .nil))) (.c (.bool true)) (.n (.bin .gtr 2 (.t 20) (.c (.int .i64 32))) (.cons 20 (.n (.len 9 (.t 19)) (.cons 19 (.n (.load 9 (.t 18)) (.cons 18 (.n (.faddr 0 (.t 1) 1) (.cons 1 (.v 1) .nil)) .nil)) .nil)) .nil))) (.c (.bool true)) (.n (.bin .gtr 2 (.t 26) (.c (.int .i64 64))) (.cons 26 (.n (.len 14 (.t 25)) (.cons 25 (.n (.load 14 (.t 24)) (.cons 24 (.n (.faddr 0 (.t 1) 2) (.cons 1 (.v 1) .nil)) .nil)) .nil)) .nil)))])
   (.cond 7 (.seq (.run 0 [.asg 2 (.c (.int .i64 270))])
     (.ret)) (.skip)))
  (.seq (.seq (.run 0 [.asg 3 (.c (.int .i64 0))])
   (.block 0 (.loop (
       .seq (.seq (.run 0 [.asg 8 (.n (.bin .lss 2 (.t 29) (.t 32)) (.cons 29 (.v 3) (.cons 32 (.n (.len 10 (.t 31)) (.cons 31 (.n (.load 10 (.t 30)) (.cons 30 (.n (.faddr 0 (.t 1) 0) (.cons 1 (.v 1) .nil)) .nil)) .nil)) .nil)))])
        (.cond 8 (.skip) (.exit 0)))
       (.seq (.block 1 (.seq (.run 35 [.asg 9 (.ite (.ite (.n (.bin .lss 2 (.t 41) (.c (.int .i64 0))) (.cons 41 (.n (.load 2 (.t 40)) (.cons 40 (.n (.faddr 20 (.t 39) 1) (.cons 39 (.n (.iaddr 10 (.t 37) (.t 38)) (.cons 37 (.n (.load 10 (.t 36)) (.cons 36 (.n (.faddr 0 (.t 1) 0) (.cons 1 (.v 1) .nil)) .nil)) (.cons 38 (.v 3) .nil))) .nil)) .nil)) .nil)) (.c (.bool true)) (.n (.bin .lss 2 (.t 49) (.c (.int .i64 0))) (.cons 49 (.n (.load 2 (.t 48)) (.cons 48 (.n (.faddr 20 (.t 47) 2) (.cons 47 (.n (.iaddr 10 (.t 45) (.t 46)) (.cons 45 (.n (.load 10 (.t 44)) (.cons 44 (.n (.faddr 0 (.t 1) 0) (.cons 1 (.v 1) .nil)) .nil)) (.cons 46 (.v 3) .nil))) .nil)) .nil)) .nil))) (.c (.bool true)) (.ite (.n (.bin .gtr 2 (.t 53) (.c (.int .i64 0))) (.cons 53 (.v 3) .nil)) (.n (.un .not (.t 67)) (.cons 67 (.n (.call 0 (.f 81) [(.t 61), (.t 66)]) (.cons 61 (.n (.load 20 (.t 60)) (.cons 60 (.n (.iaddr 10 (.t 57) (.t 59)) (.cons 57 (.n (.load 10 (.t 56)) (.cons 56 (.n (.faddr 0 (.t 1) 0) (.cons 1 (.v 1) .nil)) .nil)) (.cons 59 (.n (.bin .sub 2 (.t 58) (.c (.int .i64 1))) (.cons 58 (.v 3) .nil)) .nil))) .nil)) (.cons 66 (.n (.load 20 (.t 65)) (.cons 65 (.n (.iaddr 10 (.t 63) (.t 64)) (.cons 63 (.n (.load 10 (.t 62)) (.cons 62 (.n (.faddr 0 (.t 1) 0) (.cons 1 (.v 1) .nil)) .nil)) (.cons 64 (.v 3) .nil))) .nil)) .nil))) .nil)) (.c (.bool false))))])
          (.cond 9 (.seq (.run 0 [.asg 2 (.c (.int .i64 270))])
            (.ret)) (.skip))))
       (.run 0 [.asg 3 (.n (.bin .add 2 (.t 34) (.c (.int .i64 1))) (.cons 34 (.v 3) .nil))]))))))
  (.seq (.seq (.run 0 [.asg 4 (.c (.int .i64 0))])
   (.block 2 (.loop (
       .seq (.seq (.run 0 [.asg 10 (.n (.bin .lss 2 (.t 71) (.t 74)) (.cons 71 (.v 4) (.cons 74 (.n (.len 9 (.t 73)) (.cons 73 (.n (.load 9 (.t 72)) (.cons 72 (.n (.faddr 0 (.t 1) 1) (.cons 1 (.v 1) .nil)) .nil)) .nil)) .nil)))])
        (.cond 10 (.skip) (.exit 2)))
       (.seq (.block 3 (.seq (.seq (.run 10 [.asg 11 (.n (.bin .neq 2 (.t 83) (.t 86)) (.cons 83 (.n (.len 6 (.t 82)) (.cons 82 (.n (.load 6 (.t 81)) (.cons 81 (.n (.iaddr 9 (.t 79) (.t 80)) (.cons 79 (.n (.load 9 (.t 78)) (.cons 78 (.n (.faddr 0 (.t 1) 1) (.cons 1 (.v 1) .nil)) .nil)) (.cons 80 (.v 4) .nil))) .nil)) .nil)) (.cons 86 (.n (.len 10 (.t 85)) (.cons 85 (.n (.load 10 (.t 84)) (.cons 84 (.n (.faddr 0 (.t 1) 0) (.cons 1 (.v 1) .nil)) .nil)) .nil)) .nil)))])
           (.cond 11 (.seq (.run 0 [.asg 2 (.c (.int .i64 270))])
             (.ret)) (.skip)))
          (.seq (.run 0 [.asg 5 (.c (.int .i64 0))])
          (.block 4 (.loop (
              .seq (.seq (.run 0 [.asg 12 (.n (.bin .lss 2 (.t 88) (.t 91)) (.cons 88 (.v 5) (.cons 91 (.n (.len 10 (.t 90)) (.cons 90 (.n (.load 10 (.t 89)) (.cons 89 (.n (.faddr 0 (.t 1) 0) (.cons 1 (.v 1) .nil)) .nil)) .nil)) .nil)))])
               (.cond 12 (.skip) (.exit 4)))
              (.seq (.block 5 (.seq (.run 0 [.asg 13 (.n (.un .not (.t 103)) (.cons 103 (.n (.call 0 (.f 79) [(.t 102), (.c (.int .i64 0)), (.c (.int .i64 4096))]) (.cons 102 (.n (.load 2 (.t 101)) (.cons 101 (.n (.iaddr 6 (.t 99) (.t 100)) (.cons 99 (.n (.load 6 (.t 98)) (.cons 98 (.n (.iaddr 9 (.t 96) (.t 97)) (.cons 96 (.n (.load 9 (.t 95)) (.cons 95 (.n (.faddr 0 (.t 1) 1) (.cons 1 (.v 1) .nil)) .nil)) (.cons 97 (.v 4) .nil))) .nil)) (.cons 100 (.v 5) .nil))) .nil)) .nil)) .nil))])
                 (.cond 13 (.seq (.run 0 [.asg 2 (.c (.int .i64 270))])
                   (.ret)) (.skip))))
              (.run 0 [.asg 5 (.n (.bin .add 2 (.t 93) (.c (.int .i64 1))) (.cons 93 (.v 5) .nil))]))))))))
       (.run 0 [.asg 4 (.n (.bin .add 2 (.t 76) (.c (.int .i64 1))) (.cons 76 (.v 4) .nil))]))))))
  (.seq (.seq (.run 0 [.asg 6 (.c (.int .i64 0))])
   (.block 6 (.loop (
       .seq (.seq (.run 0 [.asg 14 (.n (.bin .lss 2 (.t 105) (.t 108)) (.cons 105 (.v 6) (.cons 108 (.n (.len 14 (.t 107)) (.cons 107 (.n (.load 14 (.t 106)) (.cons 106 (.n (.faddr 0 (.t 1) 2) (.cons 1 (.v 1) .nil)) .nil)) .nil)) .nil)))])
        (.cond 14 (.skip) (.exit 6)))
       (.seq (.block 7 (.seq (.run 8 [.asg 15 (.n (.un .not (.t 118)) (.cons 118 (.n (.call 0 (.f 82) [(.t 112), (.t 117)]) (.cons 112 (.n (.load 0 (.t 1)) (.cons 1 (.v 1) .nil)) (.cons 117 (.n (.load 15 (.t 116)) (.cons 116 (.n (.iaddr 14 (.t 114) (.t 115)) (.cons 114 (.n (.load 14 (.t 113)) (.cons 113 (.n (.faddr 0 (.t 1) 2) (.cons 1 (.v 1) .nil)) .nil)) (.cons 115 (.v 6) .nil))) .nil)) .nil))) .nil))])
          (.cond 15 (.seq (.run 0 [.asg 2 (.c (.int .i64 270))])
            (.ret)) (.skip))))
       (.run 0 [.asg 6 (.n (.bin .add 2 (.t 110) (.c (.int .i64 1))) (.cons 110 (.v 6) .nil))]))))))
  (.seq (.run 0 [.asg 2 (.c (.int .i64 0))])
  (.ret))))))
theorem c19 : TF E 19 n19 [(2, none)] t19 120 := tf_of (F := f19) rfl (by kernel_rfl) (by decide)

def n20 : List Nat := [0, 1, 4, 5, 10, 14, 25]
def t20 : TC := .seq (.run 0 [.asg 2 (.c (.bool false))])
  (.seq (.seq (.run 0 [.asg 4 (.n (.bin .neq 2 (.t 7) (.t 9)) (.cons 7 (.n (.len 6 (.t 6)) (.cons 6 (.v 0) .nil)) (.cons 9 (.n (.len 6 (.t 8)) (.cons 8 (.v 1) .nil)) .nil)))])
   (.cond 4 (.seq (.run 0 [.asg 2 (.c (.bool false))])
     (.ret)) (.skip)))
  (.seq (.seq (.run 0 [.asg 3 (.c (.int .i64 0))])
   (.block 0 (.loop (
       .seq (.seq (.run 0 [.asg 5 (.n (.bin .lss 2 (.t 11) (.t 13)) (.cons 11 (.v 3) (.cons 13 (.n (.len 6 (.t 12)) (.cons 12 (.v 0) .nil)) .nil)))])
        (.cond 5 (.skip) (.exit 0)))
       (.seq (.block 1 (.seq (.run 9 [.asg 6 (.n (.bin .neq 2 (.t 20) (.t 24)) (.cons 20 (.n (.load 2 (.t 19)) (.cons 19 (.n (.iaddr 6 (.t 17) (.t 18)) (.cons 17 (.v 0) (.cons 18 (.v 3) .nil))) .nil)) (.cons 24 (.n (.load 2 (.t 23)) (.cons 23 (.n (.iaddr 6 (.t 21) (.t 22)) (.cons 21 (.v 1) (.cons 22 (.v 3) .nil))) .nil)) .nil)))])
          (.cond 6 (.seq (.run 0 [.asg 2 (.c (.bool false))])
            (.ret)) (.skip))))
       (.run 0 [.asg 3 (.n (.bin .add 2 (.t 15) (.c (.int .i64 1))) (.cons 15 (.v 3) .nil))]))))))
  (.seq (.run 0 [.asg 2 (.c (.bool true))])
  (.ret))))
theorem c20 : TF E 20 n20 [(2, none)] t20 26 := tf_of (F := f20) rfl (by kernel_rfl) (by decide)

def n36 : List Nat := [0, 2, 3, 7, 15]
def t36 : TC := .seq (.run 0 [.asg 1 (.c (.bool false))])
  (.seq (.seq (.run 0 [.asg 2 (.c (.int .i64 0))])
   (.block 0 (.loop (
       .seq (.seq (.run 0 [.asg 3 (.n (.bin .lss 2 (.t 4) (.t 6)) (.cons 4 (.v 2) (.cons 6 (.n (.len 9 (.t 5)) (.cons 5 (.v 0) .nil)) .nil)))])
        (.cond 3 (.skip) (.exit 0)))
       (.seq (.block 1 (.seq (.run 0 [.asg 4 (.n (.bin .gtr 2 (.t 14) (.c (.int .i64 60))) (.cons 14 (.n (.len 6 (.t 13)) (.cons 13 (.n (.load 6 (.t 12)) (.cons 12 (.n (.iaddr 9 (.t 10) (.t 11)) (.cons 10 (.v 0) (.cons 11 (.v 2) .nil))) .nil)) .nil)) .nil))])
          (.cond 4 (.seq (.run 0 [.asg 1 (.c (.bool false))])
            (.ret)) (.skip))))
       (.run 0 [.asg 2 (.n (.bin .add 2 (.t 8) (.c (.int .i64 1))) (.cons 8 (.v 2) .nil))]))))))
  (.seq (.run 0 [.asg 1 (.n (.bin .leq 2 (.t 17) (.c (.int .i64 40))) (.cons 17 (.n (.len 9 (.t 16)) (.cons 16 (.v 0) .nil)) .nil))])
  (.ret)))
theorem c36 : TF E 36 n36 [(1, none)] t36 19 := tf_of (F := f36) rfl (by kernel_rfl) (by decide)

def n41 : List Nat := [0, 1, 2, 4, 5, 6, 10, 19, 22, 23]
def t41 : TC := .seq (.run 0 [.eff none (some 2) (.box 0 (.t 0)) (.cons 0 (.v 0) .nil) none,
     .asg 3 (.c (.int .i64 0))])
  (.seq (.seq (.run 0 [.asg 4 (.n (.call 0 (.f 15) [(.t 7)]) (.cons 7 (.n (.load 0 (.t 2)) (.cons 2 (.v 2) .nil)) .nil))])
   (.seq (.run 0 [.asg 6 (.n (.bin .neq 3 (.t 9) (.c (.int .i64 0))) (.cons 9 (.v 4) .nil))])
   (.cond 6 (.seq (.run 0 [.asg 3 (.v 4)])
     (.ret)) (.skip))))
  (.seq (.run 0 [.asg 5 (.n (.mkfn 93 [(.t 2)]) (.cons 2 (.v 2) .nil))])
  (.seq (.seq (.run 0 [.asg 7 (.n (.bin .neq 2 (.t 14) (.t 17)) (.cons 14 (.n (.len 9 (.t 13)) (.cons 13 (.v 1) .nil)) (.cons 17 (.n (.len 9 (.t 16)) (.cons 16 (.n (.load 9 (.t 15)) (.cons 15 (.n (.faddr 0 (.t 2) 1) (.cons 2 (.v 2) .nil)) .nil)) .nil)) .nil))),
      .eff (some ((.v 7), false)) (some 8) (.call 1 (.f 94) [(.t 20), (.t 21)]) (.cons 20 (.v 1) (.cons 21 (.v 5) .nil)) none,
      .asg 9 (.ite (.v 7) (.c (.bool true)) (.v 8))])
   (.cond 9 (.seq (.run 0 [.asg 3 (.c (.int .i64 290))])
     (.ret)) (.skip)))
  (.seq (.run 0 [.asg 3 (.c (.int .i64 0))])
  (.ret)))))
theorem c41 : TF E 41 n41 [(3, none)] t41 24 := tf_of (F := f41) rfl (by kernel_rfl) (by decide)

def n42 : List Nat := [0, 1, 2, 4, 5, 9, 14]
def t42 : TC := .seq (.run 0 [.eff none (some 2) (.box 0 (.t 0)) (.cons 0 (.v 0) .nil) none,
     .asg 3 (.c (.int .i64 0))])
  (.seq (.run 0 [.asg 4 (.n (.call 0 (.f 19) [(.t 6)]) (.cons 6 (.n (.load 0 (.t 2)) (.cons 2 (.v 2) .nil)) .nil))])
  (.seq (.seq (.run 0 [.asg 5 (.n (.bin .neq 3 (.t 8) (.c (.int .i64 0))) (.cons 8 (.v 4) .nil))])
   (.cond 5 (.seq (.run 0 [.asg 3 (.v 4)])
     (.ret)) (.skip)))
  (.seq (.seq (.run 0 [.asg 6 (.n (.un .not (.t 13)) (.cons 13 (.n (.call 0 (.f 95) [(.t 11), (.t 12)]) (.cons 11 (.n (.load 0 (.t 2)) (.cons 2 (.v 2) .nil)) (.cons 12 (.v 1) .nil))) .nil))])
   (.cond 6 (.seq (.run 0 [.asg 3 (.c (.int .i64 290))])
     (.ret)) (.skip)))
  (.seq (.run 0 [.asg 3 (.c (.int .i64 0))])
  (.ret)))))
theorem c42 : TF E 42 n42 [(3, none)] t42 15 := tf_of (F := f42) rfl (by kernel_rfl) (by decide)

def n43 : List Nat := [0, 1, 2, 3, 4, 8, 9, 10, 11, 12, 14, 27, 28, 36]
def t43 : TC := .seq (.run 0 [.eff none (some 4) (.box 0 (.t 0)) (.cons 0 (.v 0) .nil) none,
     .asg 5 (.c (.bool false))])
  (.seq (.seq (.run 0 [.asg 10 (.n (.un .not (.t 13)) (.cons 13 (.n (.call 0 (.f 35) []) .nil) .nil))])
   (.cond 10 (.seq (.run 0 [.asg 5 (.c (.bool false))])
     (.ret)) (.skip)))
  (.seq (.seq (.run 0 [.asg 11 (.ite (.ite (.n (.un .not (.t 16)) (.cons 16 (.n (.call 0 (.f 2) [(.t 15)]) (.cons 15 (.n (.load 0 (.t 4)) (.cons 4 (.v 4) .nil)) .nil)) .nil)) (.c (.bool true)) (.n (.un .not (.t 20)) (.cons 20 (.n (.call 0 (.f 36) [(.t 19)]) (.cons 19 (.v 3) .nil)) .nil))) (.c (.bool true)) (.n (.bin .gtr 2 (.t 25) (.c (.int .i64 20))) (.cons 25 (.n (.len 1 (.t 24)) (.cons 24 (.v 1) .nil)) .nil)))])
   (.cond 11 (.seq (.run 0 [.asg 5 (.c (.bool true))])
     (.ret)) (.skip)))
  (.seq (.run 0 [.asg 12 (.n (.call 0 (.f 44) [(.t 29), (.t 30), (.t 31), (.t 32)]) (.cons 29 (.n (.load 0 (.t 4)) (.cons 4 (.v 4) .nil)) (.cons 30 (.v 1) (.cons 31 (.v 2) (.cons 32 (.v 3) .nil))))),
     .asg 6 (.n (.extract (.t 28) 0) (.cons 28 (.v 12) .nil)),
     .asg 7 (.n (.extract (.t 28) 1) (.cons 28 (.v 12) .nil))])
  (.seq (.run 0 [.asg 13 (.n (.call 0 (.f 45) [(.t 37), (.t 38), (.t 39), (.t 40)]) (.cons 37 (.n (.load 0 (.t 4)) (.cons 4 (.v 4) .nil)) (.cons 38 (.v 1) (.cons 39 (.v 2) (.cons 40 (.v 3) .nil))))),
     .asg 8 (.n (.extract (.t 36) 0) (.cons 36 (.v 13) .nil)),
     .asg 9 (.n (.extract (.t 36) 1) (.cons 36 (.v 13) .nil))])
  (.seq (.run 0 [.asg 5 (.ite (.n (.call 0 (.f 46) [(.t 44), (.t 45)]) (.cons 44 (.v 6) (.cons 45 (.v 8) .nil))) (.n (.bin .eql 3 (.t 48) (.t 49)) (.cons 48 (.v 7) (.cons 49 (.v 9) .nil))) (.c (.bool false)))])
  (.ret))))))
theorem c43 : TF E 43 n43 [(5, none)] t43 52 := tf_of (F := f43) rfl (by kernel_rfl) (by decide)

def n44 : List Nat := [0, 1, 2, 3, 4, 8, 9, 10, 11, 12, 13, 14, 15, 16, 17, 21, 23, 25, 26, 27, 33, 39, 40, 41, 42, 43, 49, 51, 53, 54, 55, 77, 78, 79, 80, 83, 84, 89, 90, 92, 93, 94, 95, 97, 99, 100, 101, 102, 112, 122, 123, 124, 125, 128, 129, 130, 131]
def t44 : TC := .seq (.run 0 [.eff none (some 4) (.box 0 (.t 0)) (.cons 0 (.v 0) .nil) none,
     .asg 5 (.c (.imm .exact [])),
     .asg 6 (.c (.int .i64 0))])
  (.seq (.seq (.run 0 [.asg 7 (.n (.call 0 (.f 89) [(.t 28), (.t 29), (.t 30)]) (.cons 28 (.n (.load 0 (.t 4)) (.cons 4 (.v 4) .nil)) (.cons 29 (.v 1) (.cons 30 (.v 3) .nil))))])
   (.seq (.run 0 [.asg 20 (.n (.bin .neq 3 (.t 32) (.c (.int .i64 0))) (.cons 32 (.v 7) .nil))])
   (.cond 20 (.seq (.run 0 [.asg 5 (.c (.imm .exact [])),
        .asg 6 (.v 7)])
     (.ret)) (.skip))))
  (.seq (.run 0 [.asg 21 (.n (.build 25 [(0, (.t 35)), (1, (.t 36)), (2, (.t 37)), (3, (.t 38))]) (.cons 35 (.n (.load 0 (.t 4)) (.cons 4 (.v 4) .nil)) (.cons 36 (.v 1) (.cons 37 (.v 2) (.cons 38 (.v 3) .nil))))),
     .eff none (some 8) (.alloc 25) .nil none,
     .eff none none (.store 25 (.t 11) (.t 39)) (.cons 11 (.v 8) (.cons 39 (.v 21) .nil)) none])
  (.seq (.seq (.run 0 [.asg 22 (.v 3),
      .asg 23 (.n (.len 9 (.t 40)) (.cons 40 (.v 22) .nil)),
      .asg 24 (.c (.int .i64 0))])
   (.block 0 (.loop (
       .seq (.run 0 [.asg 25 (.n (.bin .lss 2 (.t 42) (.t 41)) (.cons 42 (.v 24) (.cons 41 (.v 23) .nil)))])
       (.seq (.cond 25 (.skip) (.exit 0))
       (.seq (.block 1 (.seq (.run 0 [.asg 9 (.v 24),
             .asg 10 (.n (.load 6 (.t 45)) (.cons 45 (.n (.iaddr 9 (.t 40) (.t 42)) (.cons 40 (.v 22) (.cons 42 (.v 24) .nil))) .nil))])
          (.seq (.run 0 [.eff none (some 26) (.call 2 (.f 96) [(.t 48)]) (.cons 48 (.v 10) .nil) none,
             .eff none (some 27) (.append 0 9 9 (.t 47) (.t 50)) (.cons 47 (.v 5) (.cons 50 (.n (.bslice false 9 1 [(0, (.t 49))]) (.cons 49 (.v 26) .nil)) .nil)) none,
             .asg 5 (.v 27)])
          (.seq (.run 0 [.asg 28 (.n (.len 6 (.t 52)) (.cons 52 (.v 10) .nil)),
             .asg 29 (.c (.int .i64 0))])
          (.block 2 (.loop (
              .seq (.run 0 [.asg 30 (.n (.bin .lss 2 (.t 54) (.t 53)) (.cons 54 (.v 29) (.cons 53 (.v 28) .nil)))])
              (.seq (.cond 30 (.skip) (.exit 2))
              (.seq (.block 3 (.seq (.run 0 [.asg 11 (.v 29)])
                 (.run 18 [.eff none none (.store 2 (.t 73) (.t 72)) (.cons 73 (.n (.iaddr 6 (.t 60) (.t 61)) (.cons 60 (.n (.load 6 (.t 59)) (.cons 59 (.n (.iaddr 9 (.t 57) (.t 58)) (.cons 57 (.v 5) (.cons 58 (.v 9) .nil))) .nil)) (.cons 61 (.v 11) .nil))) (.cons 72 (.n (.bin .sub 2 (.t 63) (.t 71)) (.cons 63 (.n (.load 2 (.t 62)) (.cons 62 (.n (.iaddr 6 (.t 60) (.t 61)) (.cons 60 (.n (.load 6 (.t 59)) (.cons 59 (.n (.iaddr 9 (.t 57) (.t 58)) (.cons 57 (.v 5) (.cons 58 (.v 9) .nil))) .nil)) (.cons 61 (.v 11) .nil))) .nil)) (.cons 71 (.n (.load 2 (.t 70)) (.cons 70 (.n (.iaddr 6 (.t 68) (.t 69)) (.cons 68 (.n (.load 6 (.t 67)) (.cons 67 (.n (.iaddr 9 (.t 65) (.t 66)) (.cons 65 (.n (.load 9 (.t 64)) (.cons 64 (.n (.faddr 0 (.t 4) 1) (.cons 4 (.v 4) .nil)) .nil)) (.cons 66 (.v 9) .nil))) .nil)) (.cons 69 (.v 11) .nil))) .nil)) .nil))) .nil)) (some 17)])))
              (.run 0 [.asg 29 (.n (.bin .add 2 (.t 54) (.c (.int .i64 1))) (.cons 54 (.v 29) .nil))]))))))))))
       (.run 0 [.asg 24 (.n (.bin .add 2 (.t 42) (.c (.int .i64 1))) (.cons 42 (.v 24) .nil))])))))))
  (.seq (.seq (.run 0 [.asg 31 (.n (.load 14 (.t 76)) (.cons 76 (.n (.faddr 0 (.t 4) 2) (.cons 4 (.v 4) .nil)) .nil)),
      .asg 32 (.n (.len 14 (.t 77)) (.cons 77 (.v 31) .nil)),
      .asg 33 (.c (.int .i64 0))])
   (.block 4 (.loop (
       .seq (.run 0 [.asg 34 (.n (.bin .lss 2 (.t 79) (.t 78)) (.cons 79 (.v 33) (.cons 78 (.v 32) .nil)))])
       (.seq (.cond 34 (.skip) (.exit 4))
       (.seq (.block 5 (.seq (.run 0 [.asg 35 (.n (.load 15 (.t 82)) (.cons 82 (.n (.iaddr 14 (.t 77) (.t 79)) (.cons 77 (.v 31) (.cons 79 (.v 33) .nil))) .nil)),
             .eff none (some 13) (.alloc 15) .nil none,
             .asg 12 (.v 33),
             .eff none none (.store 15 (.t 16) (.t 83)) (.cons 16 (.v 13) (.cons 83 (.v 35) .nil)) none])
          (.seq (.run 0 [.asg 36 (.n (.call 0 (.f 97) [(.t 85), (.t 86), (.c (.bool true))]) (.cons 85 (.n (.load 25 (.t 11)) (.cons 11 (.v 8) .nil)) (.cons 86 (.v 12) .nil))),
             .asg 37 (.n (.extract (.t 84) 1) (.cons 84 (.v 36) .nil)),
             .asg 38 (.n (.extract (.t 84) 2) (.cons 84 (.v 36) .nil)),
             .eff none (some 14) (.alloc 17) .nil none,
             .eff none none (.store 17 (.t 17) (.t 88)) (.cons 17 (.v 14) (.cons 88 (.n (.extract (.t 84) 0) (.cons 84 (.v 36) .nil)) .nil)) none])
          (.seq (.run 0 [.asg 39 (.n (.load 18 (.t 91)) (.cons 91 (.n (.faddr 17 (.t 17) 3) (.cons 17 (.v 14) .nil)) .nil)),
             .asg 40 (.n (.len 18 (.t 92)) (.cons 92 (.v 39) .nil)),
             .asg 41 (.c (.int .i64 0))])
          (.block 6 (.loop (
              .seq (.run 0 [.asg 42 (.n (.bin .lss 2 (.t 94) (.t 93)) (.cons 94 (.v 41) (.cons 93 (.v 40) .nil)))])
              (.seq (.cond 42 (.skip) (.exit 6))
              (.seq (.block 7 (.seq (.run 0 [.asg 43 (.n (.load 19 (.t 96)) (.cons 96 (.n (.iaddr 18 (.t 92) (.t 94)) (.cons 92 (.v 39) (.cons 94 (.v 41) .nil))) .nil)),
                    .eff none (some 15) (.alloc 19) .nil none,
                    .eff none none (.store 19 (.t 21) (.t 97)) (.cons 21 (.v 15) (.cons 97 (.v 43) .nil)) none])
                 (.seq (.run 0 [.asg 44 (.n (.load 6 (.t 98)) (.cons 98 (.n (.faddr 15 (.t 16) 2) (.cons 16 (.v 13) .nil)) .nil)),
                    .asg 45 (.n (.len 6 (.t 99)) (.cons 99 (.v 44) .nil)),
                    .asg 46 (.c (.int .i64 0))])
                 (.block 8 (.loop (
                     .seq (.run 0 [.asg 47 (.n (.bin .lss 2 (.t 101) (.t 100)) (.cons 101 (.v 46) (.cons 100 (.v 45) .nil)))])
                     (.seq (.cond 47 (.skip) (.exit 8))
                     (.seq (.block 9 (.seq (.run 0 [.asg 16 (.n (.load 2 (.t 103)) (.cons 103 (.n (.iaddr 6 (.t 99) (.t 101)) (.cons 99 (.v 44) (.cons 101 (.v 46) .nil))) .nil))])
                        (.run 15 [.asg 48 (.n (.call 0 (.f 98) [(.t 109), (.t 111)]) (.cons 109 (.n (.load 25 (.t 11)) (.cons 11 (.v 8) .nil)) (.cons 111 (.n (.load 20 (.t 110)) (.cons 110 (.n (.faddr 19 (.t 21) 0) (.cons 21 (.v 15) .nil)) .nil)) .nil))),
                          .eff none none (.store 2 (.t 118) (.t 117)) (.cons 118 (.n (.iaddr 6 (.t 108) (.t 112)) (.cons 108 (.n (.load 6 (.t 107)) (.cons 107 (.n (.iaddr 9 (.t 105) (.t 106)) (.cons 105 (.v 5) (.cons 106 (.v 16) .nil))) .nil)) (.cons 112 (.v 48) .nil))) (.cons 117 (.n (.bin .add 2 (.t 114) (.t 116)) (.cons 114 (.n (.load 2 (.t 113)) (.cons 113 (.n (.iaddr 6 (.t 108) (.t 112)) (.cons 108 (.n (.load 6 (.t 107)) (.cons 107 (.n (.iaddr 9 (.t 105) (.t 106)) (.cons 105 (.v 5) (.cons 106 (.v 16) .nil))) .nil)) (.cons 112 (.v 48) .nil))) .nil)) (.cons 116 (.n (.load 2 (.t 115)) (.cons 115 (.n (.faddr 19 (.t 21) 1) (.cons 21 (.v 15) .nil)) .nil)) .nil))) .nil)) (some 14)])))
                     (.run 0 [.asg 46 (.n (.bin .add 2 (.t 101) (.c (.int .i64 1))) (.cons 101 (.v 46) .nil))])))))))))
              (.run 0 [.asg 41 (.n (.bin .add 2 (.t 94) (.c (.int .i64 1))) (.cons 94 (.v 41) .nil))]))))))))))
       (.run 0 [.asg 33 (.n (.bin .add 2 (.t 79) (.c (.int .i64 1))) (.cons 79 (.v 33) .nil))])))))))
  (.seq (.seq (.run 0 [.asg 49 (.v 5),
      .asg 50 (.n (.len 9 (.t 122)) (.cons 122 (.v 49) .nil)),
      .asg 51 (.c (.int .i64 0))])
   (.block 10 (.loop (
       .seq (.run 0 [.asg 52 (.n (.bin .lss 2 (.t 124) (.t 123)) (.cons 124 (.v 51) (.cons 123 (.v 50) .nil)))])
       (.seq (.cond 52 (.skip) (.exit 10))
       (.seq (.block 11 (.seq (.run 0 [.asg 17 (.n (.load 6 (.t 126)) (.cons 126 (.n (.iaddr 9 (.t 122) (.t 124)) (.cons 122 (.v 49) (.cons 124 (.v 51) .nil))) .nil))])
          (.seq (.run 0 [.asg 53 (.v 17),
             .asg 54 (.n (.len 6 (.t 128)) (.cons 128 (.v 53) .nil)),
             .asg 55 (.c (.int .i64 0))])
          (.block 12 (.loop (
              .seq (.run 0 [.asg 56 (.n (.bin .lss 2 (.t 130) (.t 129)) (.cons 130 (.v 55) (.cons 129 (.v 54) .nil)))])
              (.seq (.cond 56 (.skip) (.exit 12))
              (.seq (.block 13 (.seq (.run 0 [.asg 18 (.v 55),
                    .asg 19 (.n (.load 2 (.t 133)) (.cons 133 (.n (.iaddr 6 (.t 128) (.t 130)) (.cons 128 (.v 53) (.cons 130 (.v 55) .nil))) .nil))])
                 (.run 0 [.eff none none (.store 2 (.t 140) (.t 139)) (.cons 140 (.n (.iaddr 6 (.t 135) (.t 136)) (.cons 135 (.v 17) (.cons 136 (.v 18) .nil))) (.cons 139 (.n (.mini [(.t 138), (.c (.int .i64 65536))]) (.cons 138 (.n (.maxi [(.t 137), (.c (.int .i64 0))]) (.cons 137 (.v 19) .nil)) .nil)) .nil)) none])))
              (.run 0 [.asg 55 (.n (.bin .add 2 (.t 130) (.c (.int .i64 1))) (.cons 130 (.v 55) .nil))])))))))))
       (.run 0 [.asg 51 (.n (.bin .add 2 (.t 124) (.c (.int .i64 1))) (.cons 124 (.v 51) .nil))])))))))
  (.seq (.run 0 [.asg 5 (.v 5),
     .asg 6 (.c (.int .i64 0))])
  (.ret)))))))
theorem c44 : TF E 44 n44 [(5, none), (6, none)] t44 144 := tf_of (F := f44) rfl (by kernel_rfl) (by decide)

def n45 : List Nat := [0, 1, 2, 3, 4, 8, 9, 10, 11, 12, 13, 14, 15, 16, 18, 19, 20, 21, 22, 23, 29, 35, 45, 66, 70, 75, 78, 86, 88, 93, 98, 109, 159, 168]
def t45 : TC := .seq (.run 0 [.eff none (some 4) (.box 0 (.t 0)) (.cons 0 (.v 0) .nil) none,
     .asg 5 (.c (.imm .exact [])),
     .asg 6 (.c (.int .i64 0))])
  (.seq (.run 0 [.asg 7 (.n (.call 0 (.f 91) [(.t 24), (.t 25), (.t 26)]) (.cons 24 (.n (.load 0 (.t 4)) (.cons 4 (.v 4) .nil)) (.cons 25 (.v 1) (.cons 26 (.v 3) .nil))))])
  (.seq (.seq (.run 0 [.asg 20 (.n (.bin .neq 3 (.t 28) (.c (.int .i64 0))) (.cons 28 (.v 7) .nil))])
   (.cond 20 (.seq (.run 0 [.asg 5 (.c (.imm .exact [])),
        .asg 6 (.v 7)])
     (.ret)) (.skip)))
  (.seq (.run 0 [.asg 8 (.n (.bslice false 9 0 []) .nil)])
  (.seq (.seq (.run 0 [.asg 9 (.c (.int .i64 0))])
   (.block 0 (.loop (
       .seq (.seq (.run 0 [.asg 21 (.n (.bin .lss 2 (.t 32) (.t 34)) (.cons 32 (.v 9) (.cons 34 (.n (.len 9 (.t 33)) (.cons 33 (.v 3) .nil)) .nil)))])
        (.cond 21 (.skip) (.exit 0)))
       (.seq (.block 1 (.seq (.run 0 [.asg 10 (.n (.bslice false 6 0 []) .nil)])
          (.seq (.seq (.run 0 [.asg 11 (.c (.int .i64 0))])
           (.block 2 (.loop (
               .seq (.seq (.run 0 [.asg 22 (.n (.bin .lss 2 (.t 39) (.t 44)) (.cons 39 (.v 11) (.cons 44 (.n (.len 6 (.t 43)) (.cons 43 (.n (.load 6 (.t 42)) (.cons 42 (.n (.iaddr 9 (.t 40) (.t 41)) (.cons 40 (.v 3) (.cons 41 (.v 9) .nil))) .nil)) .nil)) .nil)))])
                (.cond 22 (.skip) (.exit 2)))
               (.seq (.block 3 (.run 20 [.eff none (some 23) (.append 2 6 6 (.t 48) (.t 65)) (.cons 48 (.v 10) (.cons 65 (.n (.bslice false 6 1 [(0, (.t 64))]) (.cons 64 (.n (.bin .sub 2 (.t 55) (.t 63)) (.cons 55 (.n (.load 2 (.t 54)) (.cons 54 (.n (.iaddr 6 (.t 52) (.t 53)) (.cons 52 (.n (.load 6 (.t 51)) (.cons 51 (.n (.iaddr 9 (.t 49) (.t 50)) (.cons 49 (.v 3) (.cons 50 (.v 9) .nil))) .nil)) (.cons 53 (.v 11) .nil))) .nil)) (.cons 63 (.n (.load 2 (.t 62)) (.cons 62 (.n (.iaddr 6 (.t 60) (.t 61)) (.cons 60 (.n (.load 6 (.t 59)) (.cons 59 (.n (.iaddr 9 (.t 57) (.t 58)) (.cons 57 (.n (.load 9 (.t 56)) (.cons 56 (.n (.faddr 0 (.t 4) 1) (.cons 4 (.v 4) .nil)) .nil)) (.cons 58 (.v 9) .nil))) .nil)) (.cons 61 (.v 11) .nil))) .nil)) .nil))) .nil)) .nil)) (some 18),
                    .asg 10 (.v 23)]))
               (.run 0 [.asg 11 (.n (.bin .add 2 (.t 46) (.c (.int .i64 1))) (.cons 46 (.v 11) .nil))]))))))
          (.run 0 [.eff none (some 24) (.append 0 9 9 (.t 67) (.t 69)) (.cons 67 (.v 8) (.cons 69 (.n (.bslice false 9 1 [(0, (.t 68))]) (.cons 68 (.v 10) .nil)) .nil)) none,
            .asg 8 (.v 24)]))))
       (.run 0 [.asg 9 (.n (.bin .add 2 (.t 36) (.c (.int .i64 1))) (.cons 36 (.v 9) .nil))]))))))
  (.seq (.seq (.run 0 [.asg 12 (.c (.int .i64 0))])
   (.block 4 (.loop (
       .seq (.seq (.run 0 [.asg 25 (.n (.bin .lss 2 (.t 71) (.t 74)) (.cons 71 (.v 12) (.cons 74 (.n (.len 14 (.t 73)) (.cons 73 (.n (.load 14 (.t 72)) (.cons 72 (.n (.faddr 0 (.t 4) 2) (.cons 4 (.v 4) .nil)) .nil)) .nil)) .nil)))])
        (.cond 25 (.skip) (.exit 4)))
       (.seq (.block 5 (.seq (.run 0 [.asg 26 (.n (.call 0 (.f 99) [(.t 79), (.t 80), (.t 81), (.t 82), (.t 83), (.c (.int .i64 1))]) (.cons 79 (.n (.load 0 (.t 4)) (.cons 4 (.v 4) .nil)) (.cons 80 (.v 1) (.cons 81 (.v 2) (.cons 82 (.v 3) (.cons 83 (.v 12) .nil)))))),
             .asg 27 (.n (.extract (.t 78) 1) (.cons 78 (.v 26) .nil)),
             .asg 13 (.n (.extract (.t 78) 0) (.cons 78 (.v 26) .nil))])
          (.seq (.seq (.run 0 [.asg 28 (.n (.bin .lss 2 (.t 87) (.c (.int .i64 0))) (.cons 87 (.v 13) .nil))])
           (.cond 28 (.exit 5) (.skip)))
          (.seq (.run 0 [.asg 29 (.n (.load 15 (.t 92)) (.cons 92 (.n (.iaddr 14 (.t 90) (.t 91)) (.cons 90 (.n (.load 14 (.t 89)) (.cons 89 (.n (.faddr 0 (.t 4) 2) (.cons 4 (.v 4) .nil)) .nil)) (.cons 91 (.v 12) .nil))) .nil)),
             .eff none (some 14) (.alloc 15) .nil none,
             .eff none none (.store 15 (.t 18) (.t 93)) (.cons 18 (.v 14) (.cons 93 (.v 29) .nil)) none])
          (.seq (.run 0 [.asg 15 (.c (.int .i64 0))])
          (.block 6 (.loop (
              .seq (.seq (.run 0 [.asg 30 (.n (.bin .lss 2 (.t 94) (.t 97)) (.cons 94 (.v 15) (.cons 97 (.n (.len 6 (.t 96)) (.cons 96 (.n (.load 6 (.t 95)) (.cons 95 (.n (.faddr 15 (.t 18) 2) (.cons 18 (.v 14) .nil)) .nil)) .nil)) .nil)))])
               (.cond 30 (.skip) (.exit 6)))
              (.seq (.block 7 (.seq (.run 0 [.asg 16 (.c (.int .i64 0))])
                 (.block 8 (.loop (
                     .seq (.seq (.run 0 [.asg 31 (.n (.bin .lss 2 (.t 101) (.t 108)) (.cons 101 (.v 16) (.cons 108 (.n (.len 18 (.t 107)) (.cons 107 (.n (.load 18 (.t 106)) (.cons 106 (.n (.faddr 17 (.t 105) 3) (.cons 105 (.n (.iaddr 16 (.t 103) (.t 104)) (.cons 103 (.n (.load 16 (.t 102)) (.cons 102 (.n (.faddr 15 (.t 18) 3) (.cons 18 (.v 14) .nil)) .nil)) (.cons 104 (.v 13) .nil))) .nil)) .nil)) .nil)) .nil)))])
                      (.cond 31 (.skip) (.exit 8)))
                     (.seq (.block 9 (.seq (.run 13 [.asg 17 (.n (.call 0 (.f 100) [(.t 112), (.t 122)]) (.cons 112 (.n (.load 0 (.t 4)) (.cons 4 (.v 4) .nil)) (.cons 122 (.n (.load 20 (.t 121)) (.cons 121 (.n (.faddr 19 (.t 120) 0) (.cons 120 (.n (.iaddr 18 (.t 118) (.t 119)) (.cons 118 (.n (.load 18 (.t 117)) (.cons 117 (.n (.faddr 17 (.t 116) 3) (.cons 116 (.n (.iaddr 16 (.t 114) (.t 115)) (.cons 114 (.n (.load 16 (.t 113)) (.cons 113 (.n (.faddr 15 (.t 18) 3) (.cons 18 (.v 14) .nil)) .nil)) (.cons 115 (.v 13) .nil))) .nil)) .nil)) (.cons 119 (.v 16) .nil))) .nil)) .nil)) .nil)))])
                        (.run 33 [.eff none none (.store 2 (.t 155) (.t 154)) (.cons 155 (.n (.iaddr 6 (.t 131) (.t 132)) (.cons 131 (.n (.load 6 (.t 130)) (.cons 130 (.n (.iaddr 9 (.t 124) (.t 129)) (.cons 124 (.v 8) (.cons 129 (.n (.load 2 (.t 128)) (.cons 128 (.n (.iaddr 6 (.t 126) (.t 127)) (.cons 126 (.n (.load 6 (.t 125)) (.cons 125 (.n (.faddr 15 (.t 18) 2) (.cons 18 (.v 14) .nil)) .nil)) (.cons 127 (.v 15) .nil))) .nil)) .nil))) .nil)) (.cons 132 (.v 17) .nil))) (.cons 154 (.n (.bin .add 2 (.t 143) (.t 153)) (.cons 143 (.n (.load 2 (.t 142)) (.cons 142 (.n (.iaddr 6 (.t 140) (.t 141)) (.cons 140 (.n (.load 6 (.t 139)) (.cons 139 (.n (.iaddr 9 (.t 133) (.t 138)) (.cons 133 (.v 8) (.cons 138 (.n (.load 2 (.t 137)) (.cons 137 (.n (.iaddr 6 (.t 135) (.t 136)) (.cons 135 (.n (.load 6 (.t 134)) (.cons 134 (.n (.faddr 15 (.t 18) 2) (.cons 18 (.v 14) .nil)) .nil)) (.cons 136 (.v 15) .nil))) .nil)) .nil))) .nil)) (.cons 141 (.v 17) .nil))) .nil)) (.cons 153 (.n (.load 2 (.t 152)) (.cons 152 (.n (.faddr 19 (.t 151) 1) (.cons 151 (.n (.iaddr 18 (.t 149) (.t 150)) (.cons 149 (.n (.load 18 (.t 148)) (.cons 148 (.n (.faddr 17 (.t 147) 3) (.cons 147 (.n (.iaddr 16 (.t 145) (.t 146)) (.cons 145 (.n (.load 16 (.t 144)) (.cons 144 (.n (.faddr 15 (.t 18) 3) (.cons 18 (.v 14) .nil)) .nil)) (.cons 146 (.v 13) .nil))) .nil)) .nil)) (.cons 150 (.v 16) .nil))) .nil)) .nil)) .nil))) .nil)) (some 32)])))
                     (.run 0 [.asg 16 (.n (.bin .add 2 (.t 110) (.c (.int .i64 1))) (.cons 110 (.v 16) .nil))])))))))
              (.run 0 [.asg 15 (.n (.bin .add 2 (.t 99) (.c (.int .i64 1))) (.cons 99 (.v 15) .nil))]))))))))))
       (.run 0 [.asg 12 (.n (.bin .add 2 (.t 76) (.c (.int .i64 1))) (.cons 76 (.v 12) .nil))]))))))
  (.seq (.seq (.run 0 [.asg 18 (.c (.int .i64 0))])
   (.block 10 (.loop (
       .seq (.seq (.run 0 [.asg 32 (.n (.bin .lss 2 (.t 156) (.t 158)) (.cons 156 (.v 18) (.cons 158 (.n (.len 9 (.t 157)) (.cons 157 (.v 8) .nil)) .nil)))])
        (.cond 32 (.skip) (.exit 10)))
       (.seq (.block 11 (.seq (.run 0 [.asg 19 (.c (.int .i64 0))])
          (.block 12 (.loop (
              .seq (.seq (.run 0 [.asg 33 (.n (.bin .lss 2 (.t 162) (.t 167)) (.cons 162 (.v 19) (.cons 167 (.n (.len 6 (.t 166)) (.cons 166 (.n (.load 6 (.t 165)) (.cons 165 (.n (.iaddr 9 (.t 163) (.t 164)) (.cons 163 (.v 8) (.cons 164 (.v 18) .nil))) .nil)) .nil)) .nil)))])
               (.cond 33 (.skip) (.exit 12)))
              (.seq (.block 13 (.run 16 [.eff none none (.store 2 (.t 185) (.t 184)) (.cons 185 (.n (.iaddr 6 (.t 174) (.t 175)) (.cons 174 (.n (.load 6 (.t 173)) (.cons 173 (.n (.iaddr 9 (.t 171) (.t 172)) (.cons 171 (.v 8) (.cons 172 (.v 18) .nil))) .nil)) (.cons 175 (.v 19) .nil))) (.cons 184 (.n (.mini [(.t 183), (.c (.int .i64 65536))]) (.cons 183 (.n (.maxi [(.t 182), (.c (.int .i64 0))]) (.cons 182 (.n (.load 2 (.t 181)) (.cons 181 (.n (.iaddr 6 (.t 179) (.t 180)) (.cons 179 (.n (.load 6 (.t 178)) (.cons 178 (.n (.iaddr 9 (.t 176) (.t 177)) (.cons 176 (.v 8) (.cons 177 (.v 18) .nil))) .nil)) (.cons 180 (.v 19) .nil))) .nil)) .nil)) .nil)) .nil)) (some 15)]))
              (.run 0 [.asg 19 (.n (.bin .add 2 (.t 169) (.c (.int .i64 1))) (.cons 169 (.v 19) .nil))])))))))
       (.run 0 [.asg 18 (.n (.bin .add 2 (.t 160) (.c (.int .i64 1))) (.cons 160 (.v 18) .nil))]))))))
  (.seq (.run 0 [.asg 5 (.v 8),
     .asg 6 (.c (.int .i64 0))])
  (.ret))))))))
theorem c45 : TF E 45 n45 [(5, none), (6, none)] t45 187 := tf_of (F := f45) rfl (by kernel_rfl) (by decide)

def n46 : List Nat := [0, 1, 4, 5, 10, 14, 26]
def t46 : TC := .seq (.run 0 [.asg 2 (.c (.bool false))])
  (.seq (.seq (.run 0 [.asg 4 (.n (.bin .neq 2 (.t 7) (.t 9)) (.cons 7 (.n (.len 9 (.t 6)) (.cons 6 (.v 0) .nil)) (.cons 9 (.n (.len 9 (.t 8)) (.cons 8 (.v 1) .nil)) .nil)))])
   (.cond 4 (.seq (.run 0 [.asg 2 (.c (.bool false))])
     (.ret)) (.skip)))
  (.seq (.seq (.run 0 [.asg 3 (.c (.int .i64 0))])
   (.block 0 (.loop (
       .seq (.seq (.run 0 [.asg 5 (.n (.bin .lss 2 (.t 11) (.t 13)) (.cons 11 (.v 3) (.cons 13 (.n (.len 9 (.t 12)) (.cons 12 (.v 0) .nil)) .nil)))])
        (.cond 5 (.skip) (.exit 0)))
       (.seq (.block 1 (.seq (.run 10 [.asg 6 (.n (.un .not (.t 25)) (.cons 25 (.n (.call 0 (.f 20) [(.t 20), (.t 24)]) (.cons 20 (.n (.load 6 (.t 19)) (.cons 19 (.n (.iaddr 9 (.t 17) (.t 18)) (.cons 17 (.v 0) (.cons 18 (.v 3) .nil))) .nil)) (.cons 24 (.n (.load 6 (.t 23)) (.cons 23 (.n (.iaddr 9 (.t 21) (.t 22)) (.cons 21 (.v 1) (.cons 22 (.v 3) .nil))) .nil)) .nil))) .nil))])
          (.cond 6 (.seq (.run 0 [.asg 2 (.c (.bool false))])
            (.ret)) (.skip))))
       (.run 0 [.asg 3 (.n (.bin .add 2 (.t 15) (.c (.int .i64 1))) (.cons 15 (.v 3) .nil))]))))))
  (.seq (.run 0 [.asg 2 (.c (.bool true))])
  (.ret))))
theorem c46 : TF E 46 n46 [(2, none)] t46 27 := tf_of (F := f46) rfl (by kernel_rfl) (by decide)

def n50 : List Nat := [0, 1, 2, 3, 4, 8, 9, 10, 11, 12, 13, 14, 15, 17, 18, 19, 21, 23, 25, 27, 40, 41, 50, 57, 58, 59, 60, 61, 65, 66, 67, 68, 73, 74, 75, 76, 78, 80, 81, 82, 83, 94, 95, 96, 97, 99, 101, 102, 103, 104, 106, 114, 121, 166]
def t50 : TC := .seq (.run 0 [.eff none (some 4) (.box 0 (.t 0)) (.cons 0 (.v 0) .nil) none,
     .asg 5 (.c (.bool false))])
  (.seq (.seq (.run 0 [.asg 19 (.n (.un .not (.t 26)) (.cons 26 (.n (.call 0 (.f 35) []) .nil) .nil))])
   (.cond 19 (.seq (.run 0 [.asg 5 (.c (.bool false))])
     (.ret)) (.skip)))
  (.seq (.seq (.run 0 [.asg 20 (.ite (.ite (.n (.un .not (.t 29)) (.cons 29 (.n (.call 0 (.f 2) [(.t 28)]) (.cons 28 (.n (.load 0 (.t 4)) (.cons 4 (.v 4) .nil)) .nil)) .nil)) (.c (.bool true)) (.n (.un .not (.t 33)) (.cons 33 (.n (.call 0 (.f 36) [(.t 32)]) (.cons 32 (.v 3) .nil)) .nil))) (.c (.bool true)) (.n (.bin .gtr 2 (.t 38) (.c (.int .i64 20))) (.cons 38 (.n (.len 1 (.t 37)) (.cons 37 (.v 1) .nil)) .nil)))])
   (.cond 20 (.seq (.run 0 [.asg 5 (.c (.bool true))])
     (.ret)) (.skip)))
  (.seq (.run 0 [.asg 21 (.n (.call 0 (.f 44) [(.t 42), (.t 43), (.t 44), (.t 45)]) (.cons 42 (.n (.load 0 (.t 4)) (.cons 4 (.v 4) .nil)) (.cons 43 (.v 1) (.cons 44 (.v 2) (.cons 45 (.v 3) .nil))))),
     .asg 6 (.n (.extract (.t 41) 0) (.cons 41 (.v 21) .nil)),
     .asg 7 (.n (.extract (.t 41) 1) (.cons 41 (.v 21) .nil))])
  (.seq (.seq (.run 0 [.asg 22 (.n (.bin .neq 3 (.t 49) (.c (.int .i64 0))) (.cons 49 (.v 7) .nil))])
   (.cond 22 (.seq (.run 0 [.asg 5 (.n (.bin .eql 2 (.t 52) (.c (.int .i64 0))) (.cons 52 (.n (.len 9 (.t 51)) (.cons 51 (.v 6) .nil)) .nil))])
     (.ret)) (.skip)))
  (.seq (.seq (.run 0 [.asg 23 (.n (.bin .neq 3 (.t 56) (.c (.int .i64 0))) (.cons 56 (.n (.call 0 (.f 41) [(.t 54), (.t 55)]) (.cons 54 (.n (.load 0 (.t 4)) (.cons 4 (.v 4) .nil)) (.cons 55 (.v 6) .nil))) .nil))])
   (.cond 23 (.seq (.run 0 [.asg 5 (.c (.bool false))])
     (.ret)) (.skip)))
  (.seq (.seq (.run 0 [.asg 24 (.v 6),
      .asg 25 (.n (.len 9 (.t 58)) (.cons 58 (.v 24) .nil)),
      .asg 26 (.c (.int .i64 0))])
   (.block 0 (.loop (
       .seq (.run 0 [.asg 27 (.n (.bin .lss 2 (.t 60) (.t 59)) (.cons 60 (.v 26) (.cons 59 (.v 25) .nil)))])
       (.seq (.cond 27 (.skip) (.exit 0))
       (.seq (.block 1 (.seq (.run 0 [.asg 8 (.v 26),
             .asg 9 (.n (.load 6 (.t 63)) (.cons 63 (.n (.iaddr 9 (.t 58) (.t 60)) (.cons 58 (.v 24) (.cons 60 (.v 26) .nil))) .nil))])
          (.seq (.run 0 [.asg 28 (.v 9),
             .asg 29 (.n (.len 6 (.t 65)) (.cons 65 (.v 28) .nil)),
             .asg 30 (.c (.int .i64 0))])
          (.block 2 (.loop (
              .seq (.run 0 [.asg 31 (.n (.bin .lss 2 (.t 67) (.t 66)) (.cons 67 (.v 30) (.cons 66 (.v 29) .nil)))])
              (.seq (.cond 31 (.skip) (.exit 2))
              (.seq (.block 3 (.seq (.run 0 [.asg 10 (.v 30),
                    .asg 11 (.n (.load 2 (.t 70)) (.cons 70 (.n (.iaddr 6 (.t 65) (.t 67)) (.cons 65 (.v 28) (.cons 67 (.v 30) .nil))) .nil))])
                 (.seq (.run 0 [.asg 12 (.c (.int .i64 0))])
                 (.seq (.seq (.run 0 [.asg 32 (.n (.load 14 (.t 72)) (.cons 72 (.n (.faddr 0 (.t 4) 2) (.cons 4 (.v 4) .nil)) .nil)),
                     .asg 33 (.n (.len 14 (.t 73)) (.cons 73 (.v 32) .nil)),
                     .asg 34 (.c (.int .i64 0))])
                  (.block 4 (.loop (
                      .seq (.run 0 [.asg 35 (.n (.bin .lss 2 (.t 75) (.t 74)) (.cons 75 (.v 34) (.cons 74 (.v 33) .nil)))])
                      (.seq (.cond 35 (.skip) (.exit 4))
                      (.seq (.block 5 (.seq (.run 0 [.asg 36 (.n (.load 15 (.t 77)) (.cons 77 (.n (.iaddr 14 (.t 73) (.t 75)) (.cons 73 (.v 32) (.cons 75 (.v 34) .nil))) .nil)),
                            .eff none (some 13) (.alloc 15) .nil none,
                            .eff none none (.store 15 (.t 17) (.t 78)) (.cons 17 (.v 13) (.cons 78 (.v 36) .nil)) none])
                         (.seq (.run 0 [.asg 14 (.c (.bool false)),
                            .asg 15 (.c (.int .i64 0))])
                         (.seq (.seq (.run 0 [.asg 37 (.n (.load 6 (.t 79)) (.cons 79 (.n (.faddr 15 (.t 17) 2) (.cons 17 (.v 13) .nil)) .nil)),
                             .asg 38 (.n (.len 6 (.t 80)) (.cons 80 (.v 37) .nil)),
                             .asg 39 (.c (.int .i64 0))])
                          (.block 6 (.loop (
                              .seq (.run 0 [.asg 40 (.n (.bin .lss 2 (.t 82) (.t 81)) (.cons 82 (.v 39) (.cons 81 (.v 38) .nil)))])
                              (.seq (.cond 40 (.skip) (.exit 6))
                              (.seq (.block 7 (.seq (.run 0 [.asg 16 (.n (.load 2 (.t 84)) (.cons 84 (.n (.iaddr 6 (.t 80) (.t 82)) (.cons 80 (.v 37) (.cons 82 (.v 39) .nil))) .nil))])
                                 (.run 0 [.asg 14 (.ite (.v 14) (.c (.bool true)) (.n (.bin .eql 2 (.t 88) (.t 89)) (.cons 88 (.v 16) (.cons 89 (.v 8) .nil))))])))
                              (.run 0 [.asg 39 (.n (.bin .add 2 (.t 82) (.c (.int .i64 1))) (.cons 82 (.v 39) .nil))])))))))
                         (.seq (.seq (.run 0 [.asg 41 (.n (.load 16 (.t 93)) (.cons 93 (.n (.faddr 15 (.t 17) 3) (.cons 17 (.v 13) .nil)) .nil)),
                             .asg 42 (.n (.len 16 (.t 94)) (.cons 94 (.v 41) .nil)),
                             .asg 43 (.c (.int .i64 0))])
                          (.block 8 (.loop (
                              .seq (.run 0 [.asg 44 (.n (.bin .lss 2 (.t 96) (.t 95)) (.cons 96 (.v 43) (.cons 95 (.v 42) .nil)))])
                              (.seq (.cond 44 (.skip) (.exit 8))
                              (.seq (.block 9 (.seq (.run 0 [.asg 45 (.n (.load 17 (.t 98)) (.cons 98 (.n (.iaddr 16 (.t 94) (.t 96)) (.cons 94 (.v 41) (.cons 96 (.v 43) .nil))) .nil)),
                                    .eff none (some 17) (.alloc 17) .nil none,
                                    .eff none none (.store 17 (.t 23) (.t 99)) (.cons 23 (.v 17) (.cons 99 (.v 45) .nil)) none])
                                 (.seq (.run 0 [.asg 46 (.n (.load 18 (.t 100)) (.cons 100 (.n (.faddr 17 (.t 23) 3) (.cons 23 (.v 17) .nil)) .nil)),
                                    .asg 47 (.n (.len 18 (.t 101)) (.cons 101 (.v 46) .nil)),
                                    .asg 48 (.c (.int .i64 0))])
                                 (.block 10 (.loop (
                                     .seq (.run 0 [.asg 49 (.n (.bin .lss 2 (.t 103) (.t 102)) (.cons 103 (.v 48) (.cons 102 (.v 47) .nil)))])
                                     (.seq (.cond 49 (.skip) (.exit 10))
                                     (.seq (.block 11 (.seq (.run 0 [.asg 50 (.n (.load 19 (.t 105)) (.cons 105 (.n (.iaddr 18 (.t 101) (.t 103)) (.cons 101 (.v 46) (.cons 103 (.v 48) .nil))) .nil)),
                                           .eff none (some 18) (.alloc 19) .nil none,
                                           .eff none none (.store 19 (.t 25) (.t 106)) (.cons 25 (.v 18) (.cons 106 (.v 50) .nil)) none])
                                        (.seq (.run 8 [.asg 51 (.n (.bin .eql 20 (.t 108) (.t 113)) (.cons 108 (.n (.load 20 (.t 107)) (.cons 107 (.n (.faddr 19 (.t 25) 0) (.cons 25 (.v 18) .nil)) .nil)) (.cons 113 (.n (.load 20 (.t 112)) (.cons 112 (.n (.iaddr 10 (.t 110) (.t 111)) (.cons 110 (.n (.load 10 (.t 109)) (.cons 109 (.n (.faddr 0 (.t 4) 0) (.cons 4 (.v 4) .nil)) .nil)) (.cons 111 (.v 10) .nil))) .nil)) .nil)))])
                                        (.cond 51 (.run 0 [.asg 15 (.n (.maxi [(.t 115), (.t 117)]) (.cons 115 (.v 15) (.cons 117 (.n (.load 2 (.t 116)) (.cons 116 (.n (.faddr 19 (.t 25) 1) (.cons 25 (.v 18) .nil)) .nil)) .nil)))]) (.skip)))))
                                     (.run 0 [.asg 48 (.n (.bin .add 2 (.t 103) (.c (.int .i64 1))) (.cons 103 (.v 48) .nil))])))))))))
                              (.run 0 [.asg 43 (.n (.bin .add 2 (.t 96) (.c (.int .i64 1))) (.cons 96 (.v 43) .nil))])))))))
                         (.seq (.run 0 [.asg 52 (.v 14)])
                         (.cond 52 (.run 0 [.asg 12 (.n (.bin .add 2 (.t 122) (.t 123)) (.cons 122 (.v 12) (.cons 123 (.v 15) .nil)))]) (.skip))))))))
                      (.run 0 [.asg 34 (.n (.bin .add 2 (.t 75) (.c (.int .i64 1))) (.cons 75 (.v 34) .nil))])))))))
                 (.seq (.run 41 [.asg 53 (.ite (.n (.bin .lss 2 (.t 126) (.t 142)) (.cons 126 (.v 11) (.cons 142 (.n (.bin .sub 2 (.t 133) (.t 141)) (.cons 133 (.n (.load 2 (.t 132)) (.cons 132 (.n (.iaddr 6 (.t 130) (.t 131)) (.cons 130 (.n (.load 6 (.t 129)) (.cons 129 (.n (.iaddr 9 (.t 127) (.t 128)) (.cons 127 (.v 3) (.cons 128 (.v 8) .nil))) .nil)) (.cons 131 (.v 10) .nil))) .nil)) (.cons 141 (.n (.load 2 (.t 140)) (.cons 140 (.n (.iaddr 6 (.t 138) (.t 139)) (.cons 138 (.n (.load 6 (.t 137)) (.cons 137 (.n (.iaddr 9 (.t 135) (.t 136)) (.cons 135 (.n (.load 9 (.t 134)) (.cons 134 (.n (.faddr 0 (.t 4) 1) (.cons 4 (.v 4) .nil)) .nil)) (.cons 136 (.v 8) .nil))) .nil)) (.cons 139 (.v 10) .nil))) .nil)) .nil))) .nil))) (.c (.bool true)) (.n (.bin .gtr 2 (.t 145) (.t 164)) (.cons 145 (.v 11) (.cons 164 (.n (.maxi [(.c (.int .i64 0)), (.t 163)]) (.cons 163 (.n (.bin .sub 2 (.t 154) (.t 162)) (.cons 154 (.n (.bin .add 2 (.t 152) (.t 153)) (.cons 152 (.n (.load 2 (.t 151)) (.cons 151 (.n (.iaddr 6 (.t 149) (.t 150)) (.cons 149 (.n (.load 6 (.t 148)) (.cons 148 (.n (.iaddr 9 (.t 146) (.t 147)) (.cons 146 (.v 3) (.cons 147 (.v 8) .nil))) .nil)) (.cons 150 (.v 10) .nil))) .nil)) (.cons 153 (.v 12) .nil))) (.cons 162 (.n (.load 2 (.t 161)) (.cons 161 (.n (.iaddr 6 (.t 159) (.t 160)) (.cons 159 (.n (.load 6 (.t 158)) (.cons 158 (.n (.iaddr 9 (.t 156) (.t 157)) (.cons 156 (.n (.load 9 (.t 155)) (.cons 155 (.n (.faddr 0 (.t 4) 1) (.cons 4 (.v 4) .nil)) .nil)) (.cons 157 (.v 8) .nil))) .nil)) (.cons 160 (.v 10) .nil))) .nil)) .nil))) .nil)) .nil))))])
                 (.cond 53 (.seq (.run 0 [.asg 5 (.c (.bool false))])
                   (.ret)) (.skip)))))))
              (.run 0 [.asg 30 (.n (.bin .add 2 (.t 67) (.c (.int .i64 1))) (.cons 67 (.v 30) .nil))])))))))))
       (.run 0 [.asg 26 (.n (.bin .add 2 (.t 60) (.c (.int .i64 1))) (.cons 60 (.v 26) .nil))])))))))
  (.seq (.run 0 [.asg 5 (.c (.bool true))])
  (.ret))))))))
theorem c50 : TF E 50 n50 [(5, none)] t50 169 := tf_of (F := f50) rfl (by kernel_rfl) (by decide)

def n61 : List Nat := [0, 1, 2, 4, 5, 6, 16]
def t61 : TC := .seq (.run 0 [.eff none (some 2) (.box 0 (.t 0)) (.cons 0 (.v 0) .nil) none,
     .asg 3 (.c (.int .i64 0))])
  (.seq (.run 0 [.asg 4 (.c (.int .i64 1))])
  (.seq (.seq (.run 0 [.asg 5 (.c (.int .i64 0))])
   (.block 0 (.loop (
       .seq (.seq (.run 0 [.asg 6 (.ite (.n (.bin .lss 2 (.t 7) (.t 10)) (.cons 7 (.v 5) (.cons 10 (.n (.len 14 (.t 9)) (.cons 9 (.n (.load 14 (.t 8)) (.cons 8 (.n (.faddr 0 (.t 2) 2) (.cons 2 (.v 2) .nil)) .nil)) .nil)) .nil))) (.n (.bin .lss 2 (.t 13) (.t 14)) (.cons 13 (.v 4) (.cons 14 (.v 1) .nil))) (.c (.bool false)))])
        (.cond 6 (.skip) (.exit 0)))
       (.seq (.block 1 (.run 0 [.asg 4 (.n (.bin .mul 2 (.t 19) (.t 27)) (.cons 19 (.v 4) (.cons 27 (.n (.maxi [(.c (.int .i64 1)), (.t 26)]) (.cons 26 (.n (.len 16 (.t 25)) (.cons 25 (.n (.load 16 (.t 24)) (.cons 24 (.n (.faddr 15 (.t 23) 3) (.cons 23 (.n (.iaddr 14 (.t 21) (.t 22)) (.cons 21 (.n (.load 14 (.t 20)) (.cons 20 (.n (.faddr 0 (.t 2) 2) (.cons 2 (.v 2) .nil)) .nil)) (.cons 22 (.v 5) .nil))) .nil)) .nil)) .nil)) .nil)) .nil)))]))
       (.run 0 [.asg 5 (.n (.bin .add 2 (.t 17) (.c (.int .i64 1))) (.cons 17 (.v 5) .nil))]))))))
  (.seq (.run 0 [.asg 3 (.n (.mini [(.t 29), (.t 30)]) (.cons 29 (.v 4) (.cons 30 (.v 1) .nil)))])
  (.ret))))
theorem c61 : TF E 61 n61 [(3, none)] t61 32 := tf_of (F := f61) rfl (by kernel_rfl) (by decide)

def n67 : List Nat := [0, 1, 2, 6]
def t67 : TC := .seq (.run 0 [.asg 3 (.c (.bool false))])
  (.seq (.run 0 [.asg 3 (.ite (.n (.bin .leq 2 (.t 7) (.t 8)) (.cons 7 (.v 1) (.cons 8 (.v 0) .nil))) (.n (.bin .leq 2 (.t 11) (.t 12)) (.cons 11 (.v 0) (.cons 12 (.v 2) .nil))) (.c (.bool false)))])
  (.ret))
theorem c67 : TF E 67 n67 [(3, none)] t67 15 := tf_of (F := f67) rfl (by kernel_rfl) (by decide)

def n69 : List Nat := [0, 1, 4, 5, 9, 23]
def t69 : TC := .seq (.run 0 [.asg 2 (.c (.bool false))])
  (.seq (.seq (.run 0 [.asg 3 (.c (.int .i64 1))])
   (.block 0 (.loop (
       .seq (.seq (.run 0 [.asg 4 (.n (.bin .lss 2 (.t 6) (.t 8)) (.cons 6 (.v 3) (.cons 8 (.n (.len 10 (.t 7)) (.cons 7 (.v 0) .nil)) .nil)))])
        (.cond 4 (.skip) (.exit 0)))
       (.seq (.block 1 (.seq (.run 12 [.asg 5 (.n (.bin .geq 2 (.t 22) (.c (.int .i64 0))) (.cons 22 (.n (.call 0 (.t 12) [(.t 17), (.t 21)]) (.cons 12 (.v 1) (.cons 17 (.n (.load 20 (.t 16)) (.cons 16 (.n (.iaddr 10 (.t 13) (.t 15)) (.cons 13 (.v 0) (.cons 15 (.n (.bin .sub 2 (.t 14) (.c (.int .i64 1))) (.cons 14 (.v 3) .nil)) .nil))) .nil)) (.cons 21 (.n (.load 20 (.t 20)) (.cons 20 (.n (.iaddr 10 (.t 18) (.t 19)) (.cons 18 (.v 0) (.cons 19 (.v 3) .nil))) .nil)) .nil)))) .nil))])
          (.cond 5 (.seq (.run 0 [.asg 2 (.c (.bool false))])
            (.ret)) (.skip))))
       (.run 0 [.asg 3 (.n (.bin .add 2 (.t 10) (.c (.int .i64 1))) (.cons 10 (.v 3) .nil))]))))))
  (.seq (.run 0 [.asg 2 (.c (.bool true))])
  (.ret)))
theorem c69 : TF E 69 n69 [(2, none)] t69 24 := tf_of (F := f69) rfl (by kernel_rfl) (by decide)

def n70 : List Nat := [0, 1, 2, 3, 4, 9, 11]
def t70 : TC := .seq (.run 0 [.eff none (some 2) (.box 20 (.t 0)) (.cons 0 (.v 0) .nil) none,
     .eff none (some 3) (.box 20 (.t 1)) (.cons 1 (.v 1) .nil) none,
     .asg 4 (.c (.int .i64 0))])
  (.seq (.seq (.run 0 [.asg 5 (.n (.bin .neq 7 (.t 6) (.t 8)) (.cons 6 (.n (.load 7 (.t 5)) (.cons 5 (.n (.faddr 20 (.t 2) 0) (.cons 2 (.v 2) .nil)) .nil)) (.cons 8 (.n (.load 7 (.t 7)) (.cons 7 (.n (.faddr 20 (.t 3) 0) (.cons 3 (.v 3) .nil)) .nil)) .nil)))])
   (.cond 5 (.seq (.seq (.run 0 [.asg 6 (.n (.load 7 (.t 10)) (.cons 10 (.n (.faddr 20 (.t 3) 0) (.cons 3 (.v 3) .nil)) .nil))])
      (.cond 6 (.seq (.run 0 [.asg 4 (.c (.int .i64 (-1)))])
        (.ret)) (.skip)))
     (.seq (.run 0 [.asg 4 (.c (.int .i64 1))])
     (.ret))) (.skip)))
  (.seq (.run 13 [.asg 4 (.n (.call 0 (.f 105) [(.t 22)]) (.cons 22 (.n (.bslice false 6 2 [(0, (.t 16)), (1, (.t 21))]) (.cons 16 (.n (.call 0 (.f 74) [(.t 13), (.t 15)]) (.cons 13 (.n (.load 2 (.t 12)) (.cons 12 (.n (.faddr 20 (.t 2) 1) (.cons 2 (.v 2) .nil)) .nil)) (.cons 15 (.n (.load 2 (.t 14)) (.cons 14 (.n (.faddr 20 (.t 3) 1) (.cons 3 (.v 3) .nil)) .nil)) .nil))) (.cons 21 (.n (.call 0 (.f 74) [(.t 18), (.t 20)]) (.cons 18 (.n (.load 2 (.t 17)) (.cons 17 (.n (.faddr 20 (.t 2) 2) (.cons 2 (.v 2) .nil)) .nil)) (.cons 20 (.n (.load 2 (.t 19)) (.cons 19 (.n (.faddr 20 (.t 3) 2) (.cons 3 (.v 3) .nil)) .nil)) .nil))) .nil))) .nil))])
  (.ret)))
theorem c70 : TF E 70 n70 [(4, none)] t70 24 := tf_of (F := f70) rfl (by kernel_rfl) (by decide)

def n71 : List Nat := [0, 1, 4]
def t71 : TC := .seq (.run 0 [.asg 2 (.c (.bool false))])
  (.seq (.run 0 [.asg 2 (.n (.bin .geq 2 (.t 7) (.c (.int .i64 0))) (.cons 7 (.n (.call 0 (.f 106) [(.t 5), (.t 6)]) (.cons 5 (.v 0) (.cons 6 (.v 1) .nil))) .nil))])
  (.ret))
theorem c71 : TF E 71 n71 [(2, none)] t71 9 := tf_of (F := f71) rfl (by kernel_rfl) (by decide)

def n72 : List Nat := [0, 2]
def t72 : TC := .seq (.run 0 [.asg 1 (.c (.bool false))])
  (.seq (.run 0 [.asg 1 (.n (.un .not (.t 4)) (.cons 4 (.n (.call 0 (.f 67) [(.t 3), (.c (.int .i64 0)), (.c (.int .i64 4096))]) (.cons 3 (.v 0) .nil)) .nil))])
  (.ret))
theorem c72 : TF E 72 n72 [(1, none)] t72 6 := tf_of (F := f72) rfl (by kernel_rfl) (by decide)

def n73 : List Nat := [0, 1, 4, 5, 9, 23]
def t73 : TC := .seq (.run 0 [.asg 2 (.c (.bool false))])
  (.seq (.seq (.run 0 [.asg 3 (.c (.int .i64 1))])
   (.block 0 (.loop (
       .seq (.seq (.run 0 [.asg 4 (.n (.bin .lss 2 (.t 6) (.t 8)) (.cons 6 (.v 3) (.cons 8 (.n (.len 6 (.t 7)) (.cons 7 (.v 0) .nil)) .nil)))])
        (.cond 4 (.skip) (.exit 0)))
       (.seq (.block 1 (.seq (.run 12 [.asg 5 (.n (.bin .geq 2 (.t 22) (.c (.int .i64 0))) (.cons 22 (.n (.call 0 (.t 12) [(.t 17), (.t 21)]) (.cons 12 (.v 1) (.cons 17 (.n (.load 2 (.t 16)) (.cons 16 (.n (.iaddr 6 (.t 13) (.t 15)) (.cons 13 (.v 0) (.cons 15 (.n (.bin .sub 2 (.t 14) (.c (.int .i64 1))) (.cons 14 (.v 3) .nil)) .nil))) .nil)) (.cons 21 (.n (.load 2 (.t 20)) (.cons 20 (.n (.iaddr 6 (.t 18) (.t 19)) (.cons 18 (.v 0) (.cons 19 (.v 3) .nil))) .nil)) .nil)))) .nil))])
          (.cond 5 (.seq (.run 0 [.asg 2 (.c (.bool false))])
            (.ret)) (.skip))))
       (.run 0 [.asg 3 (.n (.bin .add 2 (.t 10) (.c (.int .i64 1))) (.cons 10 (.v 3) .nil))]))))))
  (.seq (.run 0 [.asg 2 (.c (.bool true))])
  (.ret)))
theorem c73 : TF E 73 n73 [(2, none)] t73 24 := tf_of (F := f73) rfl (by kernel_rfl) (by decide)

def n74 : List Nat := [0, 1, 4, 5, 6, 11, 12, 13, 16, 19]
def t74 : TC := .seq (.run 0 [.asg 2 (.c (.int .i64 0))])
  (.seq (.run 0 [.asg 3 (.n (.call 0 (.f 107) [(.t 7)]) (.cons 7 (.v 0) .nil))])
  (.seq (.run 0 [.asg 4 (.n (.call 0 (.f 107) [(.t 9)]) (.cons 9 (.v 1) .nil))])
  (.seq (.seq (.run 0 [.asg 5 (.v 3)])
   (.cond 5 (.seq (.seq (.run 0 [.asg 6 (.v 4)])
      (.cond 6 (.seq (.run 0 [.asg 2 (.c (.int .i64 0))])
        (.ret)) (.skip)))
     (.seq (.run 0 [.asg 2 (.c (.int .i64 (-1)))])
     (.ret))) (.skip)))
  (.seq (.seq (.run 0 [.asg 7 (.v 4)])
   (.cond 7 (.seq (.run 0 [.asg 2 (.c (.int .i64 1))])
     (.ret)) (.skip)))
  (.seq (.seq (.run 0 [.asg 8 (.n (.bin .lss 2 (.t 14) (.t 15)) (.cons 14 (.v 0) (.cons 15 (.v 1) .nil)))])
   (.cond 8 (.seq (.run 0 [.asg 2 (.c (.int .i64 (-1)))])
     (.ret)) (.skip)))
  (.seq (.seq (.run 0 [.asg 9 (.n (.bin .gtr 2 (.t 17) (.t 18)) (.cons 17 (.v 0) (.cons 18 (.v 1) .nil)))])
   (.cond 9 (.seq (.run 0 [.asg 2 (.c (.int .i64 1))])
     (.ret)) (.skip)))
  (.seq (.run 0 [.asg 2 (.c (.int .i64 0))])
  (.ret))))))))
theorem c74 : TF E 74 n74 [(2, none)] t74 20 := tf_of (F := f74) rfl (by kernel_rfl) (by decide)

def n75 : List Nat := [0, 1, 4, 5, 9, 23]
def t75 : TC := .seq (.run 0 [.asg 2 (.c (.bool false))])
  (.seq (.seq (.run 0 [.asg 3 (.c (.int .i64 1))])
   (.block 0 (.loop (
       .seq (.seq (.run 0 [.asg 4 (.n (.bin .lss 2 (.t 6) (.t 8)) (.cons 6 (.v 3) (.cons 8 (.n (.len 18 (.t 7)) (.cons 7 (.v 0) .nil)) .nil)))])
        (.cond 4 (.skip) (.exit 0)))
       (.seq (.block 1 (.seq (.run 12 [.asg 5 (.n (.bin .geq 2 (.t 22) (.c (.int .i64 0))) (.cons 22 (.n (.call 0 (.t 12) [(.t 17), (.t 21)]) (.cons 12 (.v 1) (.cons 17 (.n (.load 19 (.t 16)) (.cons 16 (.n (.iaddr 18 (.t 13) (.t 15)) (.cons 13 (.v 0) (.cons 15 (.n (.bin .sub 2 (.t 14) (.c (.int .i64 1))) (.cons 14 (.v 3) .nil)) .nil))) .nil)) (.cons 21 (.n (.load 19 (.t 20)) (.cons 20 (.n (.iaddr 18 (.t 18) (.t 19)) (.cons 18 (.v 0) (.cons 19 (.v 3) .nil))) .nil)) .nil)))) .nil))])
          (.cond 5 (.seq (.run 0 [.asg 2 (.c (.bool false))])
            (.ret)) (.skip))))
       (.run 0 [.asg 3 (.n (.bin .add 2 (.t 10) (.c (.int .i64 1))) (.cons 10 (.v 3) .nil))]))))))
  (.seq (.run 0 [.asg 2 (.c (.bool true))])
  (.ret)))
theorem c75 : TF E 75 n75 [(2, none)] t75 24 := tf_of (F := f75) rfl (by kernel_rfl) (by decide)

def n76 : List Nat := [0, 1, 2, 3, 4]
def t76 : TC := .seq (.run 0 [.eff none (some 2) (.box 19 (.t 0)) (.cons 0 (.v 0) .nil) none,
     .eff none (some 3) (.box 19 (.t 1)) (.cons 1 (.v 1) .nil) none,
     .asg 4 (.c (.int .i64 0))])
  (.seq (.run 0 [.asg 4 (.n (.call 0 (.f 70) [(.t 6), (.t 8)]) (.cons 6 (.n (.load 20 (.t 5)) (.cons 5 (.n (.faddr 19 (.t 2) 0) (.cons 2 (.v 2) .nil)) .nil)) (.cons 8 (.n (.load 20 (.t 7)) (.cons 7 (.n (.faddr 19 (.t 3) 0) (.cons 3 (.v 3) .nil)) .nil)) .nil)))])
  (.ret))
theorem c76 : TF E 76 n76 [(4, none)] t76 10 := tf_of (F := f76) rfl (by kernel_rfl) (by decide)

def n78 : List Nat := [0, 1, 2, 4, 5, 11, 15, 31]
def t78 : TC := .seq (.run 0 [.eff none (some 2) (.box 0 (.t 0)) (.cons 0 (.v 0) .nil) none,
     .asg 3 (.c (.bool false))])
  (.seq (.seq (.run 0 [.asg 5 (.n (.bin .gtr 2 (.t 7) (.t 10)) (.cons 7 (.n (.len 6 (.t 6)) (.cons 6 (.v 1) .nil)) (.cons 10 (.n (.len 14 (.t 9)) (.cons 9 (.n (.load 14 (.t 8)) (.cons 8 (.n (.faddr 0 (.t 2) 2) (.cons 2 (.v 2) .nil)) .nil)) .nil)) .nil)))])
   (.cond 5 (.seq (.run 0 [.asg 3 (.c (.bool false))])
     (.ret)) (.skip)))
  (.seq (.seq (.run 0 [.asg 4 (.c (.int .i64 0))])
   (.block 0 (.loop (
       .seq (.seq (.run 0 [.asg 6 (.n (.bin .lss 2 (.t 12) (.t 14)) (.cons 12 (.v 4) (.cons 14 (.n (.len 6 (.t 13)) (.cons 13 (.v 1) .nil)) .nil)))])
        (.cond 6 (.skip) (.exit 0)))
       (.seq (.block 1 (.seq (.run 14 [.asg 7 (.n (.un .not (.t 30)) (.cons 30 (.n (.call 0 (.f 79) [(.t 21), (.c (.int .i64 0)), (.t 29)]) (.cons 21 (.n (.load 2 (.t 20)) (.cons 20 (.n (.iaddr 6 (.t 18) (.t 19)) (.cons 18 (.v 1) (.cons 19 (.v 4) .nil))) .nil)) (.cons 29 (.n (.bin .sub 2 (.t 28) (.c (.int .i64 1))) (.cons 28 (.n (.len 16 (.t 27)) (.cons 27 (.n (.load 16 (.t 26)) (.cons 26 (.n (.faddr 15 (.t 25) 3) (.cons 25 (.n (.iaddr 14 (.t 23) (.t 24)) (.cons 23 (.n (.load 14 (.t 22)) (.cons 22 (.n (.faddr 0 (.t 2) 2) (.cons 2 (.v 2) .nil)) .nil)) (.cons 24 (.v 4) .nil))) .nil)) .nil)) .nil)) .nil)) .nil))) .nil))])
          (.cond 7 (.seq (.run 0 [.asg 3 (.c (.bool false))])
            (.ret)) (.skip))))
       (.run 0 [.asg 4 (.n (.bin .add 2 (.t 16) (.c (.int .i64 1))) (.cons 16 (.v 4) .nil))]))))))
  (.seq (.run 0 [.asg 3 (.c (.bool true))])
  (.ret))))
theorem c78 : TF E 78 n78 [(3, none)] t78 32 := tf_of (F := f78) rfl (by kernel_rfl) (by decide)

def n79 : List Nat := [0, 1, 2, 6]
def t79 : TC := .seq (.run 0 [.asg 3 (.c (.bool false))])
  (.seq (.run 0 [.asg 3 (.ite (.n (.bin .leq 2 (.t 7) (.t 8)) (.cons 7 (.v 1) (.cons 8 (.v 0) .nil))) (.n (.bin .leq 2 (.t 11) (.t 12)) (.cons 11 (.v 0) (.cons 12 (.v 2) .nil))) (.c (.bool false)))])
  (.ret))
theorem c79 : TF E 79 n79 [(3, none)] t79 15 := tf_of (F := f79) rfl (by kernel_rfl) (by decide)

def n81 : List Nat := [0, 1, 2, 3, 4, 9, 16]
def t81 : TC := .seq (.run 0 [.eff none (some 2) (.box 20 (.t 0)) (.cons 0 (.v 0) .nil) none,
     .eff none (some 3) (.box 20 (.t 1)) (.cons 1 (.v 1) .nil) none,
     .asg 4 (.c (.bool false))])
  (.seq (.seq (.run 0 [.asg 5 (.n (.bin .neq 7 (.t 6) (.t 8)) (.cons 6 (.n (.load 7 (.t 5)) (.cons 5 (.n (.faddr 20 (.t 2) 0) (.cons 2 (.v 2) .nil)) .nil)) (.cons 8 (.n (.load 7 (.t 7)) (.cons 7 (.n (.faddr 20 (.t 3) 0) (.cons 3 (.v 3) .nil)) .nil)) .nil)))])
   (.cond 5 (.seq (.run 0 [.asg 4 (.n (.load 7 (.t 10)) (.cons 10 (.n (.faddr 20 (.t 3) 0) (.cons 3 (.v 3) .nil)) .nil))])
     (.ret)) (.skip)))
  (.seq (.seq (.run 0 [.asg 6 (.n (.bin .neq 2 (.t 13) (.t 15)) (.cons 13 (.n (.load 2 (.t 12)) (.cons 12 (.n (.faddr 20 (.t 2) 1) (.cons 2 (.v 2) .nil)) .nil)) (.cons 15 (.n (.load 2 (.t 14)) (.cons 14 (.n (.faddr 20 (.t 3) 1) (.cons 3 (.v 3) .nil)) .nil)) .nil)))])
   (.cond 6 (.seq (.run 0 [.asg 4 (.n (.bin .lss 2 (.t 18) (.t 20)) (.cons 18 (.n (.load 2 (.t 17)) (.cons 17 (.n (.faddr 20 (.t 2) 1) (.cons 2 (.v 2) .nil)) .nil)) (.cons 20 (.n (.load 2 (.t 19)) (.cons 19 (.n (.faddr 20 (.t 3) 1) (.cons 3 (.v 3) .nil)) .nil)) .nil)))])
     (.ret)) (.skip)))
  (.seq (.run 0 [.asg 4 (.n (.bin .lss 2 (.t 23) (.t 25)) (.cons 23 (.n (.load 2 (.t 22)) (.cons 22 (.n (.faddr 20 (.t 2) 2) (.cons 2 (.v 2) .nil)) .nil)) (.cons 25 (.n (.load 2 (.t 24)) (.cons 24 (.n (.faddr 20 (.t 3) 2) (.cons 3 (.v 3) .nil)) .nil)) .nil)))])
  (.ret))))
theorem c81 : TF E 81 n81 [(4, none)] t81 27 := tf_of (F := f81) rfl (by kernel_rfl) (by decide)

def n82 : List Nat := [0, 1, 2, 3, 4, 5, 6, 7, 8, 9, 25, 30, 61, 66, 73, 89, 94, 101, 130]
def t82 : TC := .seq (.run 0 [.eff none (some 2) (.box 0 (.t 0)) (.cons 0 (.v 0) .nil) none,
     .eff none (some 3) (.box 15 (.t 1)) (.cons 1 (.v 1) .nil) none,
     .asg 4 (.c (.bool false))])
  (.seq (.seq (.run 0 [.asg 10 (.ite (.ite (.n (.bin .lss 2 (.t 12) (.c (.int .i64 1))) (.cons 12 (.n (.len 6 (.t 11)) (.cons 11 (.n (.load 6 (.t 10)) (.cons 10 (.n (.faddr 15 (.t 3) 2) (.cons 3 (.v 3) .nil)) .nil)) .nil)) .nil)) (.c (.bool true)) (.n (.bin .lss 2 (.t 17) (.c (.int .i64 1))) (.cons 17 (.n (.len 16 (.t 16)) (.cons 16 (.n (.load 16 (.t 15)) (.cons 15 (.n (.faddr 15 (.t 3) 3) (.cons 3 (.v 3) .nil)) .nil)) .nil)) .nil))) (.c (.bool true)) (.n (.bin .gtr 2 (.t 23) (.c (.int .i64 96))) (.cons 23 (.n (.len 16 (.t 22)) (.cons 22 (.n (.load 16 (.t 21)) (.cons 21 (.n (.faddr 15 (.t 3) 3) (.cons 3 (.v 3) .nil)) .nil)) .nil)) .nil)))])
   (.cond 10 (.seq (.run 0 [.asg 4 (.c (.bool false))])
     (.ret)) (.skip)))
  (.seq (.seq (.run 0 [.asg 5 (.c (.int .i64 0))])
   (.block 0 (.loop (
       .seq (.seq (.run 0 [.asg 11 (.n (.bin .lss 2 (.t 26) (.t 29)) (.cons 26 (.v 5) (.cons 29 (.n (.len 6 (.t 28)) (.cons 28 (.n (.load 6 (.t 27)) (.cons 27 (.n (.faddr 15 (.t 3) 2) (.cons 3 (.v 3) .nil)) .nil)) .nil)) .nil)))])
        (.cond 11 (.skip) (.exit 0)))
       (.seq (.block 1 (.seq (.run 29 [.asg 12 (.ite (.n (.un .not (.t 42)) (.cons 42 (.n (.call 0 (.f 79) [(.t 37), (.c (.int .i64 0)), (.t 41)]) (.cons 37 (.n (.load 2 (.t 36)) (.cons 36 (.n (.iaddr 6 (.t 34) (.t 35)) (.cons 34 (.n (.load 6 (.t 33)) (.cons 33 (.n (.faddr 15 (.t 3) 2) (.cons 3 (.v 3) .nil)) .nil)) (.cons 35 (.v 5) .nil))) .nil)) (.cons 41 (.n (.bin .sub 2 (.t 40) (.c (.int .i64 1))) (.cons 40 (.n (.len 9 (.t 39)) (.cons 39 (.n (.load 9 (.t 38)) (.cons 38 (.n (.faddr 0 (.t 2) 1) (.cons 2 (.v 2) .nil)) .nil)) .nil)) .nil)) .nil))) .nil)) (.c (.bool true)) (.ite (.n (.bin .gtr 2 (.t 45) (.c (.int .i64 0))) (.cons 45 (.v 5) .nil)) (.n (.bin .geq 2 (.t 53) (.t 58)) (.cons 53 (.n (.load 2 (.t 52)) (.cons 52 (.n (.iaddr 6 (.t 49) (.t 51)) (.cons 49 (.n (.load 6 (.t 48)) (.cons 48 (.n (.faddr 15 (.t 3) 2) (.cons 3 (.v 3) .nil)) .nil)) (.cons 51 (.n (.bin .sub 2 (.t 50) (.c (.int .i64 1))) (.cons 50 (.v 5) .nil)) .nil))) .nil)) (.cons 58 (.n (.load 2 (.t 57)) (.cons 57 (.n (.iaddr 6 (.t 55) (.t 56)) (.cons 55 (.n (.load 6 (.t 54)) (.cons 54 (.n (.faddr 15 (.t 3) 2) (.cons 3 (.v 3) .nil)) .nil)) (.cons 56 (.v 5) .nil))) .nil)) .nil))) (.c (.bool false))))])
          (.cond 12 (.seq (.run 0 [.asg 4 (.c (.bool false))])
            (.ret)) (.skip))))
       (.run 0 [.asg 5 (.n (.bin .add 2 (.t 31) (.c (.int .i64 1))) (.cons 31 (.v 5) .nil))]))))))
  (.seq (.seq (.run 0 [.asg 6 (.c (.int .i64 0))])
   (.block 2 (.loop (
       .seq (.seq (.run 0 [.asg 13 (.n (.bin .lss 2 (.t 62) (.t 65)) (.cons 62 (.v 6) (.cons 65 (.n (.len 16 (.t 64)) (.cons 64 (.n (.load 16 (.t 63)) (.cons 63 (.n (.faddr 15 (.t 3) 3) (.cons 3 (.v 3) .nil)) .nil)) .nil)) .nil)))])
        (.cond 13 (.skip) (.exit 2)))
       (.seq (.block 3 (.seq (.run 0 [.asg 14 (.n (.load 17 (.t 72)) (.cons 72 (.n (.iaddr 16 (.t 70) (.t 71)) (.cons 70 (.n (.load 16 (.t 69)) (.cons 69 (.n (.faddr 15 (.t 3) 3) (.cons 3 (.v 3) .nil)) .nil)) (.cons 71 (.v 6) .nil))) .nil)),
             .eff none (some 7) (.alloc 17) .nil none,
             .eff none none (.store 17 (.t 7) (.t 73)) (.cons 7 (.v 7) (.cons 73 (.v 14) .nil)) none])
          (.seq (.seq (.run 0 [.asg 15 (.ite (.ite (.n (.un .not (.t 76)) (.cons 76 (.n (.call 0 (.f 79) [(.t 75), (.c (.int .i64 0)), (.c (.int .i64 1048576))]) (.cons 75 (.n (.load 2 (.t 74)) (.cons 74 (.n (.faddr 17 (.t 7) 0) (.cons 7 (.v 7) .nil)) .nil)) .nil)) .nil)) (.c (.bool true)) (.n (.un .not (.t 81)) (.cons 81 (.n (.call 0 (.f 79) [(.t 80), (.c (.int .i64 0)), (.c (.int .i64 1048576))]) (.cons 80 (.n (.load 2 (.t 79)) (.cons 79 (.n (.faddr 17 (.t 7) 1) (.cons 7 (.v 7) .nil)) .nil)) .nil)) .nil))) (.c (.bool true)) (.n (.un .not (.t 87)) (.cons 87 (.n (.call 0 (.f 79) [(.t 86), (.c (.int .i64 0)), (.c (.int .i64 1048576))]) (.cons 86 (.n (.load 2 (.t 85)) (.cons 85 (.n (.faddr 17 (.t 7) 2) (.cons 7 (.v 7) .nil)) .nil)) .nil)) .nil)))])
           (.cond 15 (.seq (.run 0 [.asg 4 (.c (.bool false))])
             (.ret)) (.skip)))
          (.seq (.run 0 [.asg 8 (.c (.int .i64 0))])
          (.block 4 (.loop (
              .seq (.seq (.run 0 [.asg 16 (.n (.bin .lss 2 (.t 90) (.t 93)) (.cons 90 (.v 8) (.cons 93 (.n (.len 18 (.t 92)) (.cons 92 (.n (.load 18 (.t 91)) (.cons 91 (.n (.faddr 17 (.t 7) 3) (.cons 7 (.v 7) .nil)) .nil)) .nil)) .nil)))])
               (.cond 16 (.skip) (.exit 4)))
              (.seq (.block 5 (.seq (.run 0 [.asg 17 (.n (.load 19 (.t 100)) (.cons 100 (.n (.iaddr 18 (.t 98) (.t 99)) (.cons 98 (.n (.load 18 (.t 97)) (.cons 97 (.n (.faddr 17 (.t 7) 3) (.cons 7 (.v 7) .nil)) .nil)) (.cons 99 (.v 8) .nil))) .nil)),
                    .eff none (some 9) (.alloc 19) .nil none,
                    .eff none none (.store 19 (.t 9) (.t 101)) (.cons 9 (.v 9) (.cons 101 (.v 17) .nil)) none])
                 (.seq (.run 29 [.asg 18 (.ite (.ite (.n (.bin .lss 2 (.t 106) (.c (.int .i64 0))) (.cons 106 (.n (.call 0 (.f 109) [(.t 103), (.t 105)]) (.cons 103 (.n (.load 10 (.t 102)) (.cons 102 (.n (.faddr 0 (.t 2) 0) (.cons 2 (.v 2) .nil)) .nil)) (.cons 105 (.n (.load 20 (.t 104)) (.cons 104 (.n (.faddr 19 (.t 9) 0) (.cons 9 (.v 9) .nil)) .nil)) .nil))) .nil)) (.c (.bool true)) (.n (.un .not (.t 111)) (.cons 111 (.n (.call 0 (.f 79) [(.t 110), (.c (.int .i64 1)), (.c (.int .i64 8))]) (.cons 110 (.n (.load 2 (.t 109)) (.cons 109 (.n (.faddr 19 (.t 9) 1) (.cons 9 (.v 9) .nil)) .nil)) .nil)) .nil))) (.c (.bool true)) (.ite (.n (.bin .gtr 2 (.t 115) (.c (.int .i64 0))) (.cons 115 (.v 8) .nil)) (.n (.un .not (.t 127)) (.cons 127 (.n (.call 0 (.f 81) [(.t 124), (.t 126)]) (.cons 124 (.n (.load 20 (.t 123)) (.cons 123 (.n (.faddr 19 (.t 122) 0) (.cons 122 (.n (.iaddr 18 (.t 119) (.t 121)) (.cons 119 (.n (.load 18 (.t 118)) (.cons 118 (.n (.faddr 17 (.t 7) 3) (.cons 7 (.v 7) .nil)) .nil)) (.cons 121 (.n (.bin .sub 2 (.t 120) (.c (.int .i64 1))) (.cons 120 (.v 8) .nil)) .nil))) .nil)) .nil)) (.cons 126 (.n (.load 20 (.t 125)) (.cons 125 (.n (.faddr 19 (.t 9) 0) (.cons 9 (.v 9) .nil)) .nil)) .nil))) .nil)) (.c (.bool false))))])
                 (.cond 18 (.seq (.run 0 [.asg 4 (.c (.bool false))])
                   (.ret)) (.skip)))))
              (.run 0 [.asg 8 (.n (.bin .add 2 (.t 95) (.c (.int .i64 1))) (.cons 95 (.v 8) .nil))])))))))))
       (.run 0 [.asg 6 (.n (.bin .add 2 (.t 67) (.c (.int .i64 1))) (.cons 67 (.v 6) .nil))]))))))
  (.seq (.run 0 [.asg 4 (.c (.bool true))])
  (.ret)))))
theorem c82 : TF E 82 n82 [(4, none)] t82 131 := tf_of (F := f82) rfl (by kernel_rfl) (by decide)

def n89 : List Nat := [0, 1, 2, 3, 6, 7, 8, 9, 14, 21, 22, 23, 24, 25, 41]
def t89 : TC := .seq (.run 0 [.eff none (some 3) (.box 0 (.t 0)) (.cons 0 (.v 0) .nil) none,
     .asg 4 (.c (.int .i64 0))])
  (.seq (.seq (.run 0 [.asg 5 (.n (.call 0 (.f 41) [(.t 10), (.t 11)]) (.cons 10 (.n (.load 0 (.t 3)) (.cons 3 (.v 3) .nil)) (.cons 11 (.v 2) .nil)))])
   (.seq (.run 0 [.asg 8 (.n (.bin .neq 3 (.t 13) (.c (.int .i64 0))) (.cons 13 (.v 5) .nil))])
   (.cond 8 (.seq (.run 0 [.asg 4 (.v 5)])
     (.ret)) (.skip))))
  (.seq (.seq (.run 0 [.asg 9 (.n (.bin .gtr 2 (.t 17) (.t 20)) (.cons 17 (.n (.len 1 (.t 16)) (.cons 16 (.v 1) .nil)) (.cons 20 (.n (.len 14 (.t 19)) (.cons 19 (.n (.load 14 (.t 18)) (.cons 18 (.n (.faddr 0 (.t 3) 2) (.cons 3 (.v 3) .nil)) .nil)) .nil)) .nil)))])
   (.cond 9 (.seq (.run 0 [.asg 4 (.c (.int .i64 290))])
     (.ret)) (.skip)))
  (.seq (.seq (.run 0 [.asg 10 (.v 1),
      .asg 11 (.n (.len 1 (.t 22)) (.cons 22 (.v 10) .nil)),
      .asg 12 (.c (.int .i64 0))])
   (.block 0 (.loop (
       .seq (.run 0 [.asg 13 (.n (.bin .lss 2 (.t 24) (.t 23)) (.cons 24 (.v 12) (.cons 23 (.v 11) .nil)))])
       (.seq (.cond 13 (.skip) (.exit 0))
       (.seq (.block 1 (.seq (.run 0 [.asg 6 (.v 12),
             .asg 7 (.n (.load 2 (.t 27)) (.cons 27 (.n (.iaddr 1 (.t 22) (.t 24)) (.cons 22 (.v 10) (.cons 24 (.v 12) .nil))) .nil))])
          (.seq (.run 0 [.asg 14 (.ite (.n (.bin .lss 2 (.t 29) (.c (.int .i64 0))) (.cons 29 (.v 7) .nil)) (.c (.bool true)) (.n (.bin .geq 2 (.t 32) (.t 39)) (.cons 32 (.v 7) (.cons 39 (.n (.len 16 (.t 38)) (.cons 38 (.n (.load 16 (.t 37)) (.cons 37 (.n (.faddr 15 (.t 36) 3) (.cons 36 (.n (.iaddr 14 (.t 34) (.t 35)) (.cons 34 (.n (.load 14 (.t 33)) (.cons 33 (.n (.faddr 0 (.t 3) 2) (.cons 3 (.v 3) .nil)) .nil)) (.cons 35 (.v 6) .nil))) .nil)) .nil)) .nil)) .nil))))])
          (.cond 14 (.seq (.run 0 [.asg 4 (.c (.int .i64 290))])
            (.ret)) (.skip)))))
       (.run 0 [.asg 12 (.n (.bin .add 2 (.t 24) (.c (.int .i64 1))) (.cons 24 (.v 12) .nil))])))))))
  (.seq (.run 0 [.asg 4 (.c (.int .i64 0))])
  (.ret)))))
theorem c89 : TF E 89 n89 [(4, none)] t89 43 := tf_of (F := f89) rfl (by kernel_rfl) (by decide)

def n91 : List Nat := [0, 1, 2, 3, 6, 7, 12, 17]
def t91 : TC := .seq (.run 0 [.eff none (some 3) (.box 0 (.t 0)) (.cons 0 (.v 0) .nil) none,
     .asg 4 (.c (.int .i64 0))])
  (.seq (.run 0 [.asg 5 (.n (.call 0 (.f 42) [(.t 8), (.t 9)]) (.cons 8 (.n (.load 0 (.t 3)) (.cons 3 (.v 3) .nil)) (.cons 9 (.v 2) .nil)))])
  (.seq (.seq (.run 0 [.asg 6 (.n (.bin .neq 3 (.t 11) (.c (.int .i64 0))) (.cons 11 (.v 5) .nil))])
   (.cond 6 (.seq (.run 0 [.asg 4 (.v 5)])
     (.ret)) (.skip)))
  (.seq (.seq (.run 0 [.asg 7 (.n (.un .not (.t 16)) (.cons 16 (.n (.call 0 (.f 78) [(.t 14), (.t 15)]) (.cons 14 (.n (.load 0 (.t 3)) (.cons 3 (.v 3) .nil)) (.cons 15 (.v 1) .nil))) .nil))])
   (.cond 7 (.seq (.run 0 [.asg 4 (.c (.int .i64 290))])
     (.ret)) (.skip)))
  (.seq (.run 0 [.asg 4 (.c (.int .i64 0))])
  (.ret)))))
theorem c91 : TF E 91 n91 [(4, none)] t91 18 := tf_of (F := f91) rfl (by kernel_rfl) (by decide)

def n93 : List Nat := [0, 1, 3]
def t93 : TC := .seq (.run 0 [.asg 2 (.c (.bool false))])
  (.seq (.run 0 [.asg 2 (.ite (.n (.bin .neq 2 (.t 5) (.t 8)) (.cons 5 (.n (.len 6 (.t 4)) (.cons 4 (.v 0) .nil)) (.cons 8 (.n (.len 10 (.t 7)) (.cons 7 (.n (.load 10 (.t 6)) (.cons 6 (.n (.faddr 0 (.t 1) 0) (.cons 1 (.v 1) .nil)) .nil)) .nil)) .nil))) (.c (.bool true)) (.n (.call 0 (.f 71) [(.t 11), (.f 112)]) (.cons 11 (.v 0) .nil)))])
  (.ret))
theorem c93 : TF E 93 n93 [(2, none)] t93 14 := tf_of (F := f93) rfl (by kernel_rfl) (by decide)

def n94 : List Nat := [0, 1, 4]
def t94 : TC := .seq (.run 0 [.asg 2 (.c (.bool false))])
  (.seq (.run 0 [.asg 2 (.n (.bin .geq 2 (.t 7) (.c (.int .i64 0))) (.cons 7 (.n (.call 0 (.f 113) [(.t 5), (.t 6)]) (.cons 5 (.v 0) (.cons 6 (.v 1) .nil))) .nil))])
  (.ret))
theorem c94 : TF E 94 n94 [(2, none)] t94 9 := tf_of (F := f94) rfl (by kernel_rfl) (by decide)

def n95 : List Nat := [0, 1, 2, 4, 5, 6, 12, 16, 27, 34, 54]
def t95 : TC := .seq (.run 0 [.eff none (some 2) (.box 0 (.t 0)) (.cons 0 (.v 0) .nil) none,
     .asg 3 (.c (.bool false))])
  (.seq (.seq (.run 0 [.asg 6 (.n (.bin .neq 2 (.t 8) (.t 11)) (.cons 8 (.n (.len 9 (.t 7)) (.cons 7 (.v 1) .nil)) (.cons 11 (.n (.len 9 (.t 10)) (.cons 10 (.n (.load 9 (.t 9)) (.cons 9 (.n (.faddr 0 (.t 2) 1) (.cons 2 (.v 2) .nil)) .nil)) .nil)) .nil)))])
   (.cond 6 (.seq (.run 0 [.asg 3 (.c (.bool false))])
     (.ret)) (.skip)))
  (.seq (.seq (.run 0 [.asg 4 (.c (.int .i64 0))])
   (.block 0 (.loop (
       .seq (.seq (.run 0 [.asg 7 (.n (.bin .lss 2 (.t 13) (.t 15)) (.cons 13 (.v 4) (.cons 15 (.n (.len 9 (.t 14)) (.cons 14 (.v 1) .nil)) .nil)))])
        (.cond 7 (.skip) (.exit 0)))
       (.seq (.block 1 (.seq (.seq (.run 9 [.asg 8 (.n (.bin .neq 2 (.t 23) (.t 26)) (.cons 23 (.n (.len 6 (.t 22)) (.cons 22 (.n (.load 6 (.t 21)) (.cons 21 (.n (.iaddr 9 (.t 19) (.t 20)) (.cons 19 (.v 1) (.cons 20 (.v 4) .nil))) .nil)) .nil)) (.cons 26 (.n (.len 10 (.t 25)) (.cons 25 (.n (.load 10 (.t 24)) (.cons 24 (.n (.faddr 0 (.t 2) 0) (.cons 2 (.v 2) .nil)) .nil)) .nil)) .nil)))])
           (.cond 8 (.seq (.run 0 [.asg 3 (.c (.bool false))])
             (.ret)) (.skip)))
          (.seq (.run 0 [.asg 5 (.c (.int .i64 0))])
          (.block 2 (.loop (
              .seq (.seq (.run 0 [.asg 9 (.n (.bin .lss 2 (.t 28) (.t 33)) (.cons 28 (.v 5) (.cons 33 (.n (.len 6 (.t 32)) (.cons 32 (.n (.load 6 (.t 31)) (.cons 31 (.n (.iaddr 9 (.t 29) (.t 30)) (.cons 29 (.v 1) (.cons 30 (.v 4) .nil))) .nil)) .nil)) .nil)))])
               (.cond 9 (.skip) (.exit 2)))
              (.seq (.block 3 (.seq (.run 0 [.asg 10 (.ite (.n (.bin .lss 2 (.t 43) (.c (.int .i64 0))) (.cons 43 (.n (.load 2 (.t 42)) (.cons 42 (.n (.iaddr 6 (.t 40) (.t 41)) (.cons 40 (.n (.load 6 (.t 39)) (.cons 39 (.n (.iaddr 9 (.t 37) (.t 38)) (.cons 37 (.v 1) (.cons 38 (.v 4) .nil))) .nil)) (.cons 41 (.v 5) .nil))) .nil)) .nil)) (.c (.bool true)) (.n (.bin .gtr 2 (.t 52) (.c (.int .i64 65536))) (.cons 52 (.n (.load 2 (.t 51)) (.cons 51 (.n (.iaddr 6 (.t 49) (.t 50)) (.cons 49 (.n (.load 6 (.t 48)) (.cons 48 (.n (.iaddr 9 (.t 46) (.t 47)) (.cons 46 (.v 1) (.cons 47 (.v 4) .nil))) .nil)) (.cons 50 (.v 5) .nil))) .nil)) .nil)))])
                 (.cond 10 (.seq (.run 0 [.asg 3 (.c (.bool false))])
                   (.ret)) (.skip))))
              (.run 0 [.asg 5 (.n (.bin .add 2 (.t 35) (.c (.int .i64 1))) (.cons 35 (.v 5) .nil))]))))))))
       (.run 0 [.asg 4 (.n (.bin .add 2 (.t 17) (.c (.int .i64 1))) (.cons 17 (.v 4) .nil))]))))))
  (.seq (.run 0 [.asg 3 (.c (.bool true))])
  (.ret))))
theorem c95 : TF E 95 n95 [(3, none)] t95 55 := tf_of (F := f95) rfl (by kernel_rfl) (by decide)

def n96 : List Nat := [0, 2, 7]
def t96 : TC := .seq (.run 0 [.asg 1 (.c (.imm .exact []))])
  (.seq (.run 0 [.eff none (some 2) (.append 1 6 6 (.t 5) (.t 6)) (.cons 5 (.n (.bslice false 6 0 []) .nil) (.cons 6 (.v 0) .nil)) none,
     .asg 1 (.v 2)])
  (.ret))
theorem c96 : TF E 96 n96 [(1, none)] t96 8 := tf_of (F := f96) rfl (by kernel_rfl) (by decide)

def n97 : List Nat := [0, 1, 2, 3, 5, 6, 7, 8, 9, 15, 20]
def t97 : TC := .seq (.run 0 [.eff none (some 3) (.box 25 (.t 0)) (.cons 0 (.v 0) .nil) none,
     .eff none (some 4) (.box 7 (.t 2)) (.cons 2 (.v 2) .nil) none,
     .eff none (some 5) (.alloc 17) .nil none,
     .asg 6 (.c (.int .i64 0)),
     .asg 7 (.c (.bool false))])
  (.seq (.run 0 [.asg 9 (.n (.load 15 (.t 14)) (.cons 14 (.n (.iaddr 14 (.t 12) (.t 13)) (.cons 12 (.n (.load 14 (.t 11)) (.cons 11 (.n (.faddr 0 (.t 10) 2) (.cons 10 (.n (.faddr 25 (.t 3) 0) (.cons 3 (.v 3) .nil)) .nil)) .nil)) (.cons 13 (.v 1) .nil))) .nil)),
     .eff none (some 8) (.alloc 15) .nil none,
     .eff none none (.store 15 (.t 9) (.t 15)) (.cons 9 (.v 8) (.cons 15 (.v 9) .nil)) none])
  (.seq (.run 0 [.eff none (some 10) (.call 1 (.f 116) [(.t 18), (.t 19)]) (.cons 18 (.n (.call 0 (.f 114) [(.t 16), (.t 17)]) (.cons 16 (.n (.load 25 (.t 3)) (.cons 3 (.v 3) .nil)) (.cons 17 (.v 1) .nil))) (.cons 19 (.n (.mkfn 115 [(.t 5), (.t 9), (.t 3)]) (.cons 5 (.v 4) (.cons 9 (.v 8) (.cons 3 (.v 3) .nil)))) .nil)) none,
     .eff none none (.store 17 (.t 6) (.t 21)) (.cons 6 (.v 5) (.cons 21 (.n (.extract (.t 20) 0) (.cons 20 (.v 10) .nil)) .nil)) none,
     .asg 6 (.n (.extract (.t 20) 1) (.cons 20 (.v 10) .nil)),
     .asg 7 (.n (.extract (.t 20) 2) (.cons 20 (.v 10) .nil))])
  (.ret)))
theorem c97 : TF E 97 n97 [(5, some 17), (6, none), (7, none)] t97 24 := tf_of (F := f97) rfl (by kernel_rfl) (by decide)

def n98 : List Nat := [0, 1, 2, 3, 4, 5, 7, 14]
def t98 : TC := .seq (.run 0 [.eff none (some 2) (.box 25 (.t 0)) (.cons 0 (.v 0) .nil) none,
     .eff none (some 3) (.box 20 (.t 1)) (.cons 1 (.v 1) .nil) none,
     .asg 4 (.c (.int .i64 0))])
  (.seq (.run 0 [.asg 6 (.n (.call 0 (.f 117) [(.t 10), (.t 11), (.f 118)]) (.cons 10 (.n (.load 10 (.t 9)) (.cons 9 (.n (.faddr 0 (.t 8) 0) (.cons 8 (.n (.faddr 25 (.t 2) 0) (.cons 2 (.v 2) .nil)) .nil)) .nil)) (.cons 11 (.n (.load 20 (.t 3)) (.cons 3 (.v 3) .nil)) .nil))),
     .asg 7 (.n (.extract (.t 7) 1) (.cons 7 (.v 6) .nil)),
     .asg 5 (.n (.extract (.t 7) 0) (.cons 7 (.v 6) .nil))])
  (.seq (.run 0 [.asg 4 (.v 5)])
  (.ret)))
theorem c98 : TF E 98 n98 [(4, none)] t98 16 := tf_of (F := f98) rfl (by kernel_rfl) (by decide)

def n99 : List Nat := [0, 1, 2, 3, 4, 5, 6, 12, 13, 14, 15, 16, 17, 18, 23, 28, 37, 66]
def t99 : TC := .seq (.run 0 [.eff none (some 6) (.box 0 (.t 0)) (.cons 0 (.v 0) .nil) none,
     .asg 7 (.c (.int .i64 0)),
     .asg 8 (.c (.int .i64 0))])
  (.seq (.run 0 [.asg 14 (.n (.load 15 (.t 22)) (.cons 22 (.n (.iaddr 14 (.t 20) (.t 21)) (.cons 20 (.n (.load 14 (.t 19)) (.cons 19 (.n (.faddr 0 (.t 6) 2) (.cons 6 (.v 6) .nil)) .nil)) (.cons 21 (.v 4) .nil))) .nil)),
     .eff none (some 9) (.alloc 15) .nil none,
     .eff none none (.store 15 (.t 14) (.t 23)) (.cons 14 (.v 9) (.cons 23 (.v 14) .nil)) none])
  (.seq (.run 0 [.asg 10 (.c (.int .i64 (-1)))])
  (.seq (.run 0 [.asg 11 (.c (.int .i64 0))])
  (.seq (.seq (.run 0 [.asg 12 (.c (.int .i64 0))])
   (.block 0 (.loop (
       .seq (.seq (.run 0 [.asg 15 (.n (.bin .lss 2 (.t 24) (.t 27)) (.cons 24 (.v 12) (.cons 27 (.n (.len 16 (.t 26)) (.cons 26 (.n (.load 16 (.t 25)) (.cons 25 (.n (.faddr 15 (.t 14) 3) (.cons 14 (.v 9) .nil)) .nil)) .nil)) .nil)))])
        (.cond 15 (.skip) (.exit 0)))
       (.seq (.block 1 (.seq (.seq (.run 0 [.asg 16 (.n (.un .not (.t 36)) (.cons 36 (.n (.call 0 (.f 119) [(.t 31), (.t 32), (.t 33), (.t 34), (.t 35)]) (.cons 31 (.n (.load 0 (.t 6)) (.cons 6 (.v 6) .nil)) (.cons 32 (.v 1) (.cons 33 (.v 2) (.cons 34 (.v 4) (.cons 35 (.v 12) .nil)))))) .nil))])
           (.cond 16 (.exit 1) (.skip)))
          (.seq (.run 23 [.asg 13 (.n (.bin .add 2 (.t 49) (.t 58)) (.cons 49 (.n (.bin .mul 2 (.t 45) (.t 48)) (.cons 45 (.n (.bin .mul 2 (.t 38) (.t 44)) (.cons 38 (.v 5) (.cons 44 (.n (.load 2 (.t 43)) (.cons 43 (.n (.faddr 17 (.t 42) 1) (.cons 42 (.n (.iaddr 16 (.t 40) (.t 41)) (.cons 40 (.n (.load 16 (.t 39)) (.cons 39 (.n (.faddr 15 (.t 14) 3) (.cons 14 (.v 9) .nil)) .nil)) (.cons 41 (.v 12) .nil))) .nil)) .nil)) .nil))) (.cons 48 (.n (.len 6 (.t 47)) (.cons 47 (.n (.load 6 (.t 46)) (.cons 46 (.n (.faddr 15 (.t 14) 2) (.cons 14 (.v 9) .nil)) .nil)) .nil)) .nil))) (.cons 58 (.n (.call 0 (.f 120) [(.t 50), (.t 51), (.t 52), (.t 57)]) (.cons 50 (.n (.load 0 (.t 6)) (.cons 6 (.v 6) .nil)) (.cons 51 (.v 3) (.cons 52 (.n (.load 15 (.t 14)) (.cons 14 (.v 9) .nil)) (.cons 57 (.n (.load 17 (.t 56)) (.cons 56 (.n (.iaddr 16 (.t 54) (.t 55)) (.cons 54 (.n (.load 16 (.t 53)) (.cons 53 (.n (.faddr 15 (.t 14) 3) (.cons 14 (.v 9) .nil)) .nil)) (.cons 55 (.v 12) .nil))) .nil)) .nil))))) .nil)))])
          (.seq (.run 0 [.asg 17 (.ite (.n (.bin .lss 2 (.t 60) (.c (.int .i64 0))) (.cons 60 (.v 10) .nil)) (.c (.bool true)) (.n (.bin .lss 2 (.t 63) (.t 64)) (.cons 63 (.v 13) (.cons 64 (.v 11) .nil))))])
          (.cond 17 (.seq (.run 0 [.asg 10 (.v 12)])
            (.run 0 [.asg 11 (.v 13)])) (.skip))))))
       (.run 0 [.asg 12 (.n (.bin .add 2 (.t 29) (.c (.int .i64 1))) (.cons 29 (.v 12) .nil))]))))))
  (.seq (.run 0 [.asg 7 (.v 10),
     .asg 8 (.v 11)])
  (.ret))))))
theorem c99 : TF E 99 n99 [(7, none), (8, none)] t99 71 := tf_of (F := f99) rfl (by kernel_rfl) (by decide)

def n100 : List Nat := [0, 1, 2, 3, 4, 5, 10, 19]
def t100 : TC := .seq (.run 0 [.eff none (some 2) (.box 0 (.t 0)) (.cons 0 (.v 0) .nil) none,
     .eff none (some 3) (.box 20 (.t 1)) (.cons 1 (.v 1) .nil) none,
     .asg 4 (.c (.int .i64 0))])
  (.seq (.seq (.run 0 [.asg 5 (.c (.int .i64 0))])
   (.block 0 (.loop (
       .seq (.seq (.run 0 [.asg 6 (.n (.bin .lss 2 (.t 6) (.t 9)) (.cons 6 (.v 5) (.cons 9 (.n (.len 10 (.t 8)) (.cons 8 (.n (.load 10 (.t 7)) (.cons 7 (.n (.faddr 0 (.t 2) 0) (.cons 2 (.v 2) .nil)) .nil)) .nil)) .nil)))])
        (.cond 6 (.skip) (.exit 0)))
       (.seq (.block 1 (.seq (.run 7 [.asg 7 (.n (.bin .eql 20 (.t 17) (.t 18)) (.cons 17 (.n (.load 20 (.t 16)) (.cons 16 (.n (.iaddr 10 (.t 14) (.t 15)) (.cons 14 (.n (.load 10 (.t 13)) (.cons 13 (.n (.faddr 0 (.t 2) 0) (.cons 2 (.v 2) .nil)) .nil)) (.cons 15 (.v 5) .nil))) .nil)) (.cons 18 (.n (.load 20 (.t 3)) (.cons 3 (.v 3) .nil)) .nil)))])
          (.cond 7 (.seq (.run 0 [.asg 4 (.v 5)])
            (.ret)) (.skip))))
       (.run 0 [.asg 5 (.n (.bin .add 2 (.t 11) (.c (.int .i64 1))) (.cons 11 (.v 5) .nil))]))))))
  (.seq (.run 0 [.asg 4 (.c (.int .i64 (-1)))])
  (.ret)))
theorem c100 : TF E 100 n100 [(4, none)] t100 21 := tf_of (F := f100) rfl (by kernel_rfl) (by decide)

def n105 : List Nat := [0, 2, 3, 5, 6, 7, 8, 9, 14]
def t105 : TC := .seq (.run 0 [.asg 1 (.c (.int .i64 0))])
  (.seq (.run 0 [.asg 2 (.c (.int .i64 0))])
  (.seq (.seq (.run 0 [.asg 4 (.v 0),
      .asg 5 (.n (.len 6 (.t 6)) (.cons 6 (.v 4) .nil)),
      .asg 6 (.c (.int .i64 0))])
   (.block 0 (.loop (
       .seq (.run 0 [.asg 7 (.n (.bin .lss 2 (.t 8) (.t 7)) (.cons 8 (.v 6) (.cons 7 (.v 5) .nil)))])
       (.seq (.cond 7 (.skip) (.exit 0))
       (.seq (.block 1 (.seq (.run 0 [.asg 3 (.n (.load 2 (.t 10)) (.cons 10 (.n (.iaddr 6 (.t 6) (.t 8)) (.cons 6 (.v 4) (.cons 8 (.v 6) .nil))) .nil))])
          (.seq (.run 0 [.asg 8 (.n (.bin .neq 2 (.t 12) (.t 13)) (.cons 12 (.v 3) (.cons 13 (.v 2) .nil)))])
          (.cond 8 (.seq (.run 0 [.asg 1 (.v 3)])
            (.ret)) (.skip)))))
       (.run 0 [.asg 6 (.n (.bin .add 2 (.t 8) (.c (.int .i64 1))) (.cons 8 (.v 6) .nil))])))))))
  (.seq (.run 0 [.asg 1 (.v 2)])
  (.ret))))
theorem c105 : TF E 105 n105 [(1, none)] t105 18 := tf_of (F := f105) rfl (by kernel_rfl) (by decide)

def n106 : List Nat := [0, 1, 4, 5, 7, 8, 9, 16]
def t106 : TC := .seq (.run 0 [.asg 2 (.c (.int .i64 0))])
  (.seq (.seq (.run 0 [.asg 4 (.n (.len 6 (.t 6)) (.cons 6 (.v 0) .nil)),
      .asg 5 (.c (.int .i64 0))])
   (.block 0 (.loop (
       .seq (.run 0 [.asg 6 (.n (.bin .lss 2 (.t 8) (.t 7)) (.cons 8 (.v 5) (.cons 7 (.v 4) .nil)))])
       (.seq (.cond 6 (.skip) (.exit 0))
       (.seq (.block 1 (.seq (.run 0 [.asg 3 (.v 5)])
          (.seq (.run 0 [.asg 7 (.n (.call 0 (.t 11) [(.t 15)]) (.cons 11 (.v 1) (.cons 15 (.n (.load 2 (.t 14)) (.cons 14 (.n (.iaddr 6 (.t 12) (.t 13)) (.cons 12 (.v 0) (.cons 13 (.v 3) .nil))) .nil)) .nil)))])
          (.cond 7 (.seq (.run 0 [.asg 2 (.v 3)])
            (.ret)) (.skip)))))
       (.run 0 [.asg 5 (.n (.bin .add 2 (.t 8) (.c (.int .i64 1))) (.cons 8 (.v 5) .nil))])))))))
  (.seq (.run 0 [.asg 2 (.c (.int .i64 (-1)))])
  (.ret)))
theorem c106 : TF E 106 n106 [(2, none)] t106 19 := tf_of (F := f106) rfl (by kernel_rfl) (by decide)

def n107 : List Nat := [0, 2]
def t107 : TC := .seq (.run 0 [.asg 1 (.c (.bool false))])
  (.seq (.run 0 [.asg 1 (.n (.bin .neq 2 (.t 3) (.t 4)) (.cons 3 (.v 0) (.cons 4 (.v 0) .nil)))])
  (.ret))
theorem c107 : TF E 107 n107 [(1, none)] t107 6 := tf_of (F := f107) rfl (by kernel_rfl) (by decide)

def n109 : List Nat := [0, 1, 3, 4, 5, 9, 17]
def t109 : TC := .seq (.run 0 [.eff none (some 2) (.box 20 (.t 1)) (.cons 1 (.v 1) .nil) none,
     .asg 3 (.c (.int .i64 0))])
  (.seq (.seq (.run 0 [.asg 4 (.c (.int .i64 0))])
   (.block 0 (.loop (
       .seq (.seq (.run 0 [.asg 5 (.n (.bin .lss 2 (.t 6) (.t 8)) (.cons 6 (.v 4) (.cons 8 (.n (.len 10 (.t 7)) (.cons 7 (.v 0) .nil)) .nil)))])
        (.cond 5 (.skip) (.exit 0)))
       (.seq (.block 1 (.seq (.run 6 [.asg 6 (.n (.bin .eql 20 (.t 15) (.t 16)) (.cons 15 (.n (.load 20 (.t 14)) (.cons 14 (.n (.iaddr 10 (.t 12) (.t 13)) (.cons 12 (.v 0) (.cons 13 (.v 4) .nil))) .nil)) (.cons 16 (.n (.load 20 (.t 3)) (.cons 3 (.v 2) .nil)) .nil)))])
          (.cond 6 (.seq (.run 0 [.asg 3 (.v 4)])
            (.ret)) (.skip))))
       (.run 0 [.asg 4 (.n (.bin .add 2 (.t 10) (.c (.int .i64 1))) (.cons 10 (.v 4) .nil))]))))))
  (.seq (.run 0 [.asg 3 (.c (.int .i64 (-1)))])
  (.ret)))
theorem c109 : TF E 109 n109 [(3, none)] t109 19 := tf_of (F := f109) rfl (by kernel_rfl) (by decide)

def n112 : List Nat := [0, 2]
def t112 : TC := .seq (.run 0 [.asg 1 (.c (.bool false))])
  (.seq (.run 0 [.asg 1 (.ite (.n (.bin .lss 2 (.t 3) (.c (.int .i64 0))) (.cons 3 (.v 0) .nil)) (.c (.bool true)) (.n (.bin .gtr 2 (.t 6) (.c (.int .i64 65536))) (.cons 6 (.v 0) .nil)))])
  (.ret))
theorem c112 : TF E 112 n112 [(1, none)] t112 9 := tf_of (F := f112) rfl (by kernel_rfl) (by decide)

def n113 : List Nat := [0, 1, 4, 5, 7, 8, 9, 16]
def t113 : TC := .seq (.run 0 [.asg 2 (.c (.int .i64 0))])
  (.seq (.seq (.run 0 [.asg 4 (.n (.len 9 (.t 6)) (.cons 6 (.v 0) .nil)),
      .asg 5 (.c (.int .i64 0))])
   (.block 0 (.loop (
       .seq (.run 0 [.asg 6 (.n (.bin .lss 2 (.t 8) (.t 7)) (.cons 8 (.v 5) (.cons 7 (.v 4) .nil)))])
       (.seq (.cond 6 (.skip) (.exit 0))
       (.seq (.block 1 (.seq (.run 0 [.asg 3 (.v 5)])
          (.seq (.run 0 [.asg 7 (.n (.call 0 (.t 11) [(.t 15)]) (.cons 11 (.v 1) (.cons 15 (.n (.load 6 (.t 14)) (.cons 14 (.n (.iaddr 9 (.t 12) (.t 13)) (.cons 12 (.v 0) (.cons 13 (.v 3) .nil))) .nil)) .nil)))])
          (.cond 7 (.seq (.run 0 [.asg 2 (.v 3)])
            (.ret)) (.skip)))))
       (.run 0 [.asg 5 (.n (.bin .add 2 (.t 8) (.c (.int .i64 1))) (.cons 8 (.v 5) .nil))])))))))
  (.seq (.run 0 [.asg 2 (.c (.int .i64 (-1)))])
  (.ret)))
theorem c113 : TF E 113 n113 [(2, none)] t113 19 := tf_of (F := f113) rfl (by kernel_rfl) (by decide)

def n114 : List Nat := [0, 1, 2, 3, 4]
def t114 : TC := .seq (.run 0 [.eff none (some 2) (.box 25 (.t 0)) (.cons 0 (.v 0) .nil) none,
     .eff none (some 3) (.box 2 (.t 1)) (.cons 1 (.v 1) .nil) none,
     .asg 4 (.c .nilfn)])
  (.seq (.run 0 [.asg 4 (.n (.mkfn 124 [(.t 2), (.t 3)]) (.cons 2 (.v 2) (.cons 3 (.v 3) .nil)))])
  (.ret))
theorem c114 : TF E 114 n114 [(4, none)] t114 6 := tf_of (F := f114) rfl (by kernel_rfl) (by decide)

def n115 : List Nat := [0, 1, 2, 3, 4, 5, 7, 8, 10, 11, 19, 20, 21, 22, 24, 30, 31, 32, 33]
def t115 : TC := .seq (.run 0 [.eff none (some 4) (.box 17 (.t 0)) (.cons 0 (.v 0) .nil) none,
     .asg 5 (.c (.int .i64 0))])
  (.seq (.seq (.run 0 [.asg 9 (.n (.load 7 (.t 1)) (.cons 1 (.v 1) .nil))])
   (.cond 9 (.run 0 [.asg 5 (.n (.bin .mul 2 (.t 13) (.t 16)) (.cons 13 (.n (.load 2 (.t 12)) (.cons 12 (.n (.faddr 17 (.t 4) 1) (.cons 4 (.v 4) .nil)) .nil)) (.cons 16 (.n (.len 6 (.t 15)) (.cons 15 (.n (.load 6 (.t 14)) (.cons 14 (.n (.faddr 15 (.t 2) 2) (.cons 2 (.v 2) .nil)) .nil)) .nil)) .nil)))]) (.skip)))
  (.seq (.seq (.run 0 [.asg 10 (.n (.load 18 (.t 18)) (.cons 18 (.n (.faddr 17 (.t 4) 3) (.cons 4 (.v 4) .nil)) .nil)),
      .asg 11 (.n (.len 18 (.t 19)) (.cons 19 (.v 10) .nil)),
      .asg 12 (.c (.int .i64 0))])
   (.block 0 (.loop (
       .seq (.run 0 [.asg 13 (.n (.bin .lss 2 (.t 21) (.t 20)) (.cons 21 (.v 12) (.cons 20 (.v 11) .nil)))])
       (.seq (.cond 13 (.skip) (.exit 0))
       (.seq (.block 1 (.seq (.run 0 [.asg 14 (.n (.load 19 (.t 23)) (.cons 23 (.n (.iaddr 18 (.t 19) (.t 21)) (.cons 19 (.v 10) (.cons 21 (.v 12) .nil))) .nil)),
             .eff none (some 6) (.alloc 19) .nil none,
             .eff none none (.store 19 (.t 7) (.t 24)) (.cons 7 (.v 6) (.cons 24 (.v 14) .nil)) none])
          (.seq (.run 0 [.asg 7 (.n (.call 0 (.f 98) [(.t 25), (.t 27)]) (.cons 25 (.n (.load 25 (.t 3)) (.cons 3 (.v 3) .nil)) (.cons 27 (.n (.load 20 (.t 26)) (.cons 26 (.n (.faddr 19 (.t 7) 0) (.cons 7 (.v 6) .nil)) .nil)) .nil)))])
          (.seq (.run 0 [.asg 15 (.n (.load 6 (.t 29)) (.cons 29 (.n (.faddr 15 (.t 2) 2) (.cons 2 (.v 2) .nil)) .nil)),
             .asg 16 (.n (.len 6 (.t 30)) (.cons 30 (.v 15) .nil)),
             .asg 17 (.c (.int .i64 0))])
          (.block 2 (.loop (
              .seq (.run 0 [.asg 18 (.n (.bin .lss 2 (.t 32) (.t 31)) (.cons 32 (.v 17) (.cons 31 (.v 16) .nil)))])
              (.seq (.cond 18 (.skip) (.exit 2))
              (.seq (.block 3 (.seq (.run 0 [.asg 8 (.n (.load 2 (.t 34)) (.cons 34 (.n (.iaddr 6 (.t 30) (.t 32)) (.cons 30 (.v 15) (.cons 32 (.v 17) .nil))) .nil))])
                 (.run 14 [.asg 5 (.n (.bin .add 2 (.t 36) (.t 47)) (.cons 36 (.v 5) (.cons 47 (.n (.bin .mul 2 (.t 44) (.t 46)) (.cons 44 (.n (.load 2 (.t 43)) (.cons 43 (.n (.iaddr 6 (.t 41) (.t 42)) (.cons 41 (.n (.load 6 (.t 40)) (.cons 40 (.n (.iaddr 9 (.t 38) (.t 39)) (.cons 38 (.n (.load 9 (.t 37)) (.cons 37 (.n (.faddr 25 (.t 3) 3) (.cons 3 (.v 3) .nil)) .nil)) (.cons 39 (.v 8) .nil))) .nil)) (.cons 42 (.v 7) .nil))) .nil)) (.cons 46 (.n (.load 2 (.t 45)) (.cons 45 (.n (.faddr 19 (.t 7) 1) (.cons 7 (.v 6) .nil)) .nil)) .nil))) .nil)))])))
              (.run 0 [.asg 17 (.n (.bin .add 2 (.t 32) (.c (.int .i64 1))) (.cons 32 (.v 17) .nil))]))))))))))
       (.run 0 [.asg 12 (.n (.bin .add 2 (.t 21) (.c (.int .i64 1))) (.cons 21 (.v 12) .nil))])))))))
  (.seq (.run 0 [.asg 5 (.v 5)])
  (.ret))))
theorem c115 : TF E 115 n115 [(5, none)] t115 52 := tf_of (F := f115) rfl (by kernel_rfl) (by decide)

def n116 : List Nat := [0, 1, 3, 4, 5, 6, 7, 8, 9, 10, 20, 24, 25]
def t116 : TC := .seq (.run 0 [.eff none (some 2) (.box 27 (.t 1)) (.cons 1 (.v 1) .nil) none,
     .eff none (some 3) (.alloc 17) .nil none,
     .eff none (some 4) (.alloc 2) .nil none,
     .eff none (some 5) (.alloc 7) .nil none])
  (.seq (.seq (.run 0 [.asg 8 (.v 0)])
   (.block 0 (.rfunc 8 [9] (.run 0 [.eff none (some 6) (.alloc 17) .nil none,
         .eff none none (.store 17 (.t 7) (.t 10)) (.cons 7 (.v 6) (.cons 10 (.v 9) .nil)) none]) (
       .block 1 (.seq (.run 0 [.asg 7 (.n (.call 0 (.t 11) [(.t 12)]) (.cons 11 (.n (.load 27 (.t 3)) (.cons 3 (.v 2) .nil)) (.cons 12 (.n (.load 17 (.t 7)) (.cons 7 (.v 6) .nil)) .nil)))])
         (.seq (.run 0 [.asg 10 (.ite (.n (.un .not (.t 14)) (.cons 14 (.n (.load 7 (.t 6)) (.cons 6 (.v 5) .nil)) .nil)) (.c (.bool true)) (.n (.bin .lss 2 (.t 17) (.t 18)) (.cons 17 (.v 7) (.cons 18 (.n (.load 2 (.t 5)) (.cons 5 (.v 4) .nil)) .nil))))])
         (.cond 10 (.run 0 [.eff none none (.store 17 (.t 4) (.t 21)) (.cons 4 (.v 3) (.cons 21 (.n (.load 17 (.t 7)) (.cons 7 (.v 6) .nil)) .nil)) none,
             .eff none none (.store 2 (.t 5) (.t 22)) (.cons 5 (.v 4) (.cons 22 (.v 7) .nil)) none,
             .eff none none (.store 7 (.t 6) (.c (.bool true))) (.cons 6 (.v 5) .nil) none]) (.skip))))))))
  (.seq (.seq (.run 6 [.asg 11 (.n (.load 2 (.t 5)) (.cons 5 (.v 4) .nil)),
      .asg 12 (.n (.load 7 (.t 6)) (.cons 6 (.v 5) .nil)),
      .eff none none (.store 17 (.t 4) (.t 23)) (.cons 4 (.v 3) (.cons 23 (.n (.load 17 (.t 4)) (.cons 4 (.v 3) .nil)) .nil)) (some 3),
      .eff none none (.store 2 (.t 5) (.t 24)) (.cons 5 (.v 4) (.cons 24 (.v 11) .nil)) (some 4),
      .eff none none (.store 7 (.t 6) (.t 25)) (.cons 6 (.v 5) (.cons 25 (.v 12) .nil)) (some 5)])
   (.chk [(4, 3), (5, 3), (5, 4)]))
  (.ret)))
theorem c116 : TF E 116 n116 [(3, some 17), (4, some 2), (5, some 7)] t116 26 := tf_of (F := f116) rfl (by kernel_rfl) (by decide)

def n117 : List Nat := [0, 1, 2, 4, 6, 7, 8, 9, 10, 11, 17, 31]
def t117 : TC := .seq (.run 0 [.eff none (some 3) (.box 20 (.t 1)) (.cons 1 (.v 1) .nil) none,
     .asg 4 (.c (.int .i64 0)),
     .asg 5 (.c (.bool false))])
  (.seq (.run 0 [.asg 6 (.n (.len 10 (.t 12)) (.cons 12 (.v 0) .nil))])
  (.seq (.run 0 [.asg 7 (.c (.int .i64 0)),
     .asg 8 (.v 6)])
  (.seq (.block 0 (.loop (
       .seq (.seq (.run 0 [.asg 10 (.n (.bin .lss 2 (.t 15) (.t 16)) (.cons 15 (.v 7) (.cons 16 (.v 8) .nil)))])
        (.cond 10 (.skip) (.exit 0)))
       (.block 1 (.seq (.run 0 [.asg 9 (.n (.conv 12 2 (.t 22)) (.cons 22 (.n (.bin .shr 12 (.t 21) (.c (.int .u64 1))) (.cons 21 (.n (.conv 2 12 (.t 20)) (.cons 20 (.n (.bin .add 2 (.t 18) (.t 19)) (.cons 18 (.v 7) (.cons 19 (.v 8) .nil))) .nil)) .nil)) .nil))])
         (.seq (.run 8 [.asg 11 (.n (.bin .lss 2 (.t 30) (.c (.int .i64 0))) (.cons 30 (.n (.call 0 (.t 24) [(.t 28), (.t 29)]) (.cons 24 (.v 2) (.cons 28 (.n (.load 20 (.t 27)) (.cons 27 (.n (.iaddr 10 (.t 25) (.t 26)) (.cons 25 (.v 0) (.cons 26 (.v 9) .nil))) .nil)) (.cons 29 (.n (.load 20 (.t 4)) (.cons 4 (.v 3) .nil)) .nil)))) .nil))])
         (.cond 11 (.run 0 [.asg 7 (.n (.bin .add 2 (.t 32) (.c (.int .i64 1))) (.cons 32 (.v 9) .nil))]) (.run 0 [.asg 8 (.v 9)]))))))))
  (.seq (.run 16 [.asg 4 (.v 7),
     .asg 5 (.ite (.n (.bin .lss 2 (.t 36) (.t 37)) (.cons 36 (.v 7) (.cons 37 (.v 6) .nil))) (.n (.bin .eql 2 (.t 46) (.c (.int .i64 0))) (.cons 46 (.n (.call 0 (.t 40) [(.t 44), (.t 45)]) (.cons 40 (.v 2) (.cons 44 (.n (.load 20 (.t 43)) (.cons 43 (.n (.iaddr 10 (.t 41) (.t 42)) (.cons 41 (.v 0) (.cons 42 (.v 7) .nil))) .nil)) (.cons 45 (.n (.load 20 (.t 4)) (.cons 4 (.v 3) .nil)) .nil)))) .nil)) (.c (.bool false)))])
  (.ret)))))
theorem c117 : TF E 117 n117 [(4, none), (5, none)] t117 49 := tf_of (F := f117) rfl (by kernel_rfl) (by decide)

def n118 : List Nat := [0, 1, 2, 3, 4, 5]
def t118 : TC := .seq (.run 0 [.eff none (some 2) (.box 20 (.t 0)) (.cons 0 (.v 0) .nil) none,
     .eff none (some 3) (.box 20 (.t 1)) (.cons 1 (.v 1) .nil) none,
     .asg 4 (.c (.int .i64 0))])
  (.seq (.run 0 [.asg 5 (.c (.fn 125 []))])
  (.seq (.run 20 [.asg 4 (.n (.call 0 (.f 105) [(.t 23)]) (.cons 23 (.n (.bslice false 6 3 [(0, (.t 12)), (1, (.t 17)), (2, (.t 22))]) (.cons 12 (.n (.call 0 (.f 74) [(.t 8), (.t 11)]) (.cons 8 (.n (.call 0 (.t 6) [(.t 7)]) (.cons 6 (.v 5) (.cons 7 (.n (.load 20 (.t 2)) (.cons 2 (.v 2) .nil)) .nil))) (.cons 11 (.n (.call 0 (.t 9) [(.t 10)]) (.cons 9 (.v 5) (.cons 10 (.n (.load 20 (.t 3)) (.cons 3 (.v 3) .nil)) .nil))) .nil))) (.cons 17 (.n (.call 0 (.f 74) [(.t 14), (.t 16)]) (.cons 14 (.n (.load 2 (.t 13)) (.cons 13 (.n (.faddr 20 (.t 2) 1) (.cons 2 (.v 2) .nil)) .nil)) (.cons 16 (.n (.load 2 (.t 15)) (.cons 15 (.n (.faddr 20 (.t 3) 1) (.cons 3 (.v 3) .nil)) .nil)) .nil))) (.cons 22 (.n (.call 0 (.f 74) [(.t 19), (.t 21)]) (.cons 19 (.n (.load 2 (.t 18)) (.cons 18 (.n (.faddr 20 (.t 2) 2) (.cons 2 (.v 2) .nil)) .nil)) (.cons 21 (.n (.load 2 (.t 20)) (.cons 20 (.n (.faddr 20 (.t 3) 2) (.cons 3 (.v 3) .nil)) .nil)) .nil))) .nil)))) .nil))])
  (.ret)))
theorem c118 : TF E 118 n118 [(4, none)] t118 25 := tf_of (F := f118) rfl (by kernel_rfl) (by decide)

def n119 : List Nat := [0, 1, 2, 3, 4, 5, 10, 22]
def t119 : TC := .seq (.run 0 [.eff none (some 5) (.box 0 (.t 0)) (.cons 0 (.v 0) .nil) none,
     .asg 6 (.c (.bool false))])
  (.seq (.seq (.run 0 [.asg 7 (.ite (.n (.bin .lss 2 (.t 11) (.t 13)) (.cons 11 (.v 3) (.cons 13 (.n (.len 1 (.t 12)) (.cons 12 (.v 1) .nil)) .nil))) (.n (.bin .neq 2 (.t 19) (.t 20)) (.cons 19 (.n (.load 2 (.t 18)) (.cons 18 (.n (.iaddr 1 (.t 16) (.t 17)) (.cons 16 (.v 1) (.cons 17 (.v 3) .nil))) .nil)) (.cons 20 (.v 4) .nil))) (.c (.bool false)))])
   (.cond 7 (.seq (.run 0 [.asg 6 (.c (.bool false))])
     (.ret)) (.skip)))
  (.seq (.run 0 [.asg 6 (.n (.bin .leq 2 (.t 32) (.t 33)) (.cons 32 (.n (.load 2 (.t 31)) (.cons 31 (.n (.faddr 17 (.t 30) 0) (.cons 30 (.n (.iaddr 16 (.t 28) (.t 29)) (.cons 28 (.n (.load 16 (.t 27)) (.cons 27 (.n (.faddr 15 (.t 26) 3) (.cons 26 (.n (.iaddr 14 (.t 24) (.t 25)) (.cons 24 (.n (.load 14 (.t 23)) (.cons 23 (.n (.faddr 0 (.t 5) 2) (.cons 5 (.v 5) .nil)) .nil)) (.cons 25 (.v 3) .nil))) .nil)) .nil)) (.cons 29 (.v 4) .nil))) .nil)) .nil)) (.cons 33 (.v 2) .nil)))])
  (.ret)))
theorem c119 : TF E 119 n119 [(6, none)] t119 35 := tf_of (F := f119) rfl (by kernel_rfl) (by decide)

def n120 : List Nat := [0, 1, 2, 3, 4, 6, 7, 8, 9, 10, 11, 12, 17, 32]
def t120 : TC := .seq (.run 0 [.eff none (some 4) (.box 0 (.t 0)) (.cons 0 (.v 0) .nil) none,
     .eff none (some 5) (.box 15 (.t 2)) (.cons 2 (.v 2) .nil) none,
     .eff none (some 6) (.box 17 (.t 3)) (.cons 3 (.v 3) .nil) none,
     .asg 7 (.c (.int .i64 0))])
  (.seq (.run 0 [.asg 8 (.c (.int .i64 0))])
  (.seq (.seq (.run 0 [.asg 9 (.c (.int .i64 0))])
   (.block 0 (.loop (
       .seq (.seq (.run 0 [.asg 12 (.n (.bin .lss 2 (.t 13) (.t 16)) (.cons 13 (.v 9) (.cons 16 (.n (.len 18 (.t 15)) (.cons 15 (.n (.load 18 (.t 14)) (.cons 14 (.n (.faddr 17 (.t 7) 3) (.cons 7 (.v 6) .nil)) .nil)) .nil)) .nil)))])
        (.cond 12 (.skip) (.exit 0)))
       (.seq (.block 1 (.seq (.run 9 [.asg 10 (.n (.call 0 (.f 100) [(.t 20), (.t 26)]) (.cons 20 (.n (.load 0 (.t 4)) (.cons 4 (.v 4) .nil)) (.cons 26 (.n (.load 20 (.t 25)) (.cons 25 (.n (.faddr 19 (.t 24) 0) (.cons 24 (.n (.iaddr 18 (.t 22) (.t 23)) (.cons 22 (.n (.load 18 (.t 21)) (.cons 21 (.n (.faddr 17 (.t 7) 3) (.cons 7 (.v 6) .nil)) .nil)) (.cons 23 (.v 9) .nil))) .nil)) .nil)) .nil)))])
          (.seq (.run 0 [.asg 11 (.c (.int .i64 0))])
          (.block 2 (.loop (
              .seq (.seq (.run 0 [.asg 13 (.n (.bin .lss 2 (.t 28) (.t 31)) (.cons 28 (.v 11) (.cons 31 (.n (.len 6 (.t 30)) (.cons 30 (.n (.load 6 (.t 29)) (.cons 29 (.n (.faddr 15 (.t 6) 2) (.cons 6 (.v 5) .nil)) .nil)) .nil)) .nil)))])
               (.cond 13 (.skip) (.exit 2)))
              (.seq (.block 3 (.run 21 [.asg 8 (.n (.bin .add 2 (.t 35) (.t 53)) (.cons 35 (.v 8) (.cons 53 (.n (.bin .mul 2 (.t 46) (.t 52)) (.cons 46 (.n (.load 2 (.t 45)) (.cons 45 (.n (.iaddr 6 (.t 43) (.t 44)) (.cons 43 (.n (.load 6 (.t 42)) (.cons 42 (.n (.iaddr 9 (.t 36) (.t 41)) (.cons 36 (.v 1) (.cons 41 (.n (.load 2 (.t 40)) (.cons 40 (.n (.iaddr 6 (.t 38) (.t 39)) (.cons 38 (.n (.load 6 (.t 37)) (.cons 37 (.n (.faddr 15 (.t 6) 2) (.cons 6 (.v 5) .nil)) .nil)) (.cons 39 (.v 11) .nil))) .nil)) .nil))) .nil)) (.cons 44 (.v 10) .nil))) .nil)) (.cons 52 (.n (.load 2 (.t 51)) (.cons 51 (.n (.faddr 19 (.t 50) 1) (.cons 50 (.n (.iaddr 18 (.t 48) (.t 49)) (.cons 48 (.n (.load 18 (.t 47)) (.cons 47 (.n (.faddr 17 (.t 7) 3) (.cons 7 (.v 6) .nil)) .nil)) (.cons 49 (.v 9) .nil))) .nil)) .nil)) .nil))) .nil)))]))
              (.run 0 [.asg 11 (.n (.bin .add 2 (.t 33) (.c (.int .i64 1))) (.cons 33 (.v 11) .nil))]))))))))
       (.run 0 [.asg 9 (.n (.bin .add 2 (.t 18) (.c (.int .i64 1))) (.cons 18 (.v 9) .nil))]))))))
  (.seq (.run 0 [.asg 7 (.v 8)])
  (.ret))))
theorem c120 : TF E 120 n120 [(7, none)] t120 56 := tf_of (F := f120) rfl (by kernel_rfl) (by decide)

def n124 : List Nat := [0, 1, 2, 4, 5, 12, 13, 14, 15, 18, 40, 43, 45]
def t124 : TC := .seq (.run 0 [.asg 5 (.n (.load 16 (.t 11)) (.cons 11 (.n (.faddr 15 (.t 10) 3) (.cons 10 (.n (.iaddr 14 (.t 8) (.t 9)) (.cons 8 (.n (.load 14 (.t 7)) (.cons 7 (.n (.faddr 0 (.t 6) 2) (.cons 6 (.n (.faddr 25 (.t 1) 0) (.cons 1 (.v 1) .nil)) .nil)) .nil)) (.cons 9 (.n (.load 2 (.t 2)) (.cons 2 (.v 2) .nil)) .nil))) .nil)) .nil)),
     .asg 6 (.n (.len 16 (.t 12)) (.cons 12 (.v 5) .nil)),
     .asg 7 (.c (.int .i64 0))])
  (.block 0 (.loop (
      .seq (.run 0 [.asg 8 (.n (.bin .lss 2 (.t 14) (.t 13)) (.cons 14 (.v 7) (.cons 13 (.v 6) .nil)))])
      (.seq (.cond 8 (.skip) (.exit 0))
      (.seq (.block 1 (.seq (.run 0 [.asg 9 (.n (.load 17 (.t 17)) (.cons 17 (.n (.iaddr 16 (.t 12) (.t 14)) (.cons 12 (.v 5) (.cons 14 (.v 7) .nil))) .nil)),
            .eff none (some 4) (.alloc 17) .nil none,
            .asg 3 (.v 7),
            .eff none none (.store 17 (.t 5) (.t 18)) (.cons 5 (.v 4) (.cons 18 (.v 9) .nil)) none])
         (.seq (.run 0 [.asg 10 (.ite (.n (.bin .leq 2 (.t 20) (.t 22)) (.cons 20 (.n (.load 2 (.t 19)) (.cons 19 (.n (.faddr 17 (.t 5) 0) (.cons 5 (.v 4) .nil)) .nil)) (.cons 22 (.n (.load 2 (.t 21)) (.cons 21 (.n (.faddr 25 (.t 1) 2) (.cons 1 (.v 1) .nil)) .nil)) .nil))) (.ite (.n (.bin .geq 2 (.t 25) (.t 28)) (.cons 25 (.n (.load 2 (.t 2)) (.cons 2 (.v 2) .nil)) (.cons 28 (.n (.len 1 (.t 27)) (.cons 27 (.n (.load 1 (.t 26)) (.cons 26 (.n (.faddr 25 (.t 1) 1) (.cons 1 (.v 1) .nil)) .nil)) .nil)) .nil))) (.c (.bool true)) (.n (.bin .eql 2 (.t 35) (.t 36)) (.cons 35 (.n (.load 2 (.t 34)) (.cons 34 (.n (.iaddr 1 (.t 32) (.t 33)) (.cons 32 (.n (.load 1 (.t 31)) (.cons 31 (.n (.faddr 25 (.t 1) 1) (.cons 1 (.v 1) .nil)) .nil)) (.cons 33 (.n (.load 2 (.t 2)) (.cons 2 (.v 2) .nil)) .nil))) .nil)) (.cons 36 (.v 3) .nil)))) (.c (.bool false))),
            .eff (some ((.v 10), true)) (some 11) (.call 2 (.t 41) [(.t 42)]) (.cons 41 (.v 0) (.cons 42 (.n (.load 17 (.t 5)) (.cons 5 (.v 4) .nil)) .nil)) none,
            .asg 12 (.ite (.v 10) (.n (.un .not (.t 43)) (.cons 43 (.v 11) .nil)) (.c (.bool false)))])
         (.cond 12 (.ret) (.skip)))))
      (.run 0 [.asg 7 (.n (.bin .add 2 (.t 14) (.c (.int .i64 1))) (.cons 14 (.v 7) .nil))]))))))
theorem c124 : TF E 124 n124 [] t124 47 := tf_of (F := f124) rfl (by kernel_rfl) (by decide)

def n125 : List Nat := [0, 1, 2, 4]
def t125 : TC := .seq (.run 0 [.eff none (some 1) (.box 20 (.t 0)) (.cons 0 (.v 0) .nil) none,
     .asg 2 (.c (.int .i64 0))])
  (.seq (.seq (.run 0 [.asg 3 (.n (.load 7 (.t 3)) (.cons 3 (.n (.faddr 20 (.t 1) 0) (.cons 1 (.v 1) .nil)) .nil))])
   (.cond 3 (.seq (.run 0 [.asg 2 (.c (.int .i64 1))])
     (.ret)) (.skip)))
  (.seq (.run 0 [.asg 2 (.c (.int .i64 0))])
  (.ret)))
theorem c125 : TF E 125 n125 [(2, none)] t125 5 := tf_of (F := f125) rfl (by kernel_rfl) (by decide)

theorem ty_0 : E.ty 0 = ⟨.struct [(0, 10), (1, 9), (2, 14)], 3, 72, [(.imm .exact []), (.imm .exact []), (.imm .exact [])], false⟩ := rfl
theorem ty_1 : E.ty 1 = ⟨.slice 2, 1, 24, [(.imm .exact [])], false⟩ := rfl
theorem ty_2 : E.ty 2 = ⟨.int .i64, 1, 8, [(.int .i64 0)], false⟩ := rfl
theorem ty_3 : E.ty 3 = ⟨.int .i64, 1, 8, [(.int .i64 0)], false⟩ := rfl
theorem ty_4 : E.ty 4 = ⟨.slice 1, 1, 24, [(.imm .exact [])], false⟩ := rfl
theorem ty_5 : E.ty 5 = ⟨.slice 7, 1, 24, [(.imm .exact [])], false⟩ := rfl
theorem ty_6 : E.ty 6 = ⟨.slice 2, 1, 24, [(.imm .exact [])], false⟩ := rfl
theorem ty_7 : E.ty 7 = ⟨.bool, 1, 1, [(.bool false)], false⟩ := rfl
theorem ty_8 : E.ty 8 = ⟨.slice 11, 1, 24, [(.imm .exact [])], false⟩ := rfl
theorem ty_9 : E.ty 9 = ⟨.slice 6, 1, 24, [(.imm .exact [])], false⟩ := rfl
theorem ty_10 : E.ty 10 = ⟨.slice 20, 1, 24, [(.imm .exact [])], false⟩ := rfl
theorem ty_11 : E.ty 11 = ⟨.struct [(0, 2), (1, 2)], 2, 16, [(.int .i64 0), (.int .i64 0)], true⟩ := rfl
theorem ty_12 : E.ty 12 = ⟨.int .u64, 1, 8, [(.int .u64 0)], false⟩ := rfl
theorem ty_13 : E.ty 13 = ⟨.int .u8, 1, 1, [(.int .u8 0)], false⟩ := rfl
theorem ty_14 : E.ty 14 = ⟨.slice 15, 1, 24, [(.imm .exact [])], false⟩ := rfl
theorem ty_15 : E.ty 15 = ⟨.struct [(0, 2), (1, 2), (2, 6), (3, 16)], 4, 64, [(.int .i64 0), (.int .i64 0), (.imm .exact []), (.imm .exact [])], false⟩ := rfl
theorem ty_16 : E.ty 16 = ⟨.slice 17, 1, 24, [(.imm .exact [])], false⟩ := rfl
theorem ty_17 : E.ty 17 = ⟨.struct [(0, 2), (1, 2), (2, 2), (3, 18)], 4, 48, [(.int .i64 0), (.int .i64 0), (.int .i64 0), (.imm .exact [])], false⟩ := rfl
theorem ty_18 : E.ty 18 = ⟨.slice 19, 1, 24, [(.imm .exact [])], false⟩ := rfl
theorem ty_19 : E.ty 19 = ⟨.struct [(0, 20), (3, 2)], 4, 32, [(.bool false), (.int .i64 0), (.int .i64 0), (.int .i64 0)], true⟩ := rfl
theorem ty_20 : E.ty 20 = ⟨.struct [(0, 7), (1, 2), (2, 2)], 3, 24, [(.bool false), (.int .i64 0), (.int .i64 0)], true⟩ := rfl
theorem ty_21 : E.ty 21 = ⟨.map 20 7, 1, 8, [(.map none)], false⟩ := rfl
theorem ty_22 : E.ty 22 = ⟨.arr 4 2, 4, 32, [(.int .i64 0), (.int .i64 0), (.int .i64 0), (.int .i64 0)], true⟩ := rfl
theorem ty_23 : E.ty 23 = ⟨.arr 2 6, 2, 48, [(.imm .exact []), (.imm .exact [])], false⟩ := rfl
theorem ty_24 : E.ty 24 = ⟨.slice 23, 1, 24, [(.imm .exact [])], false⟩ := rfl
theorem ty_25 : E.ty 25 = ⟨.struct [(0, 0), (3, 1), (4, 2), (5, 9)], 6, 128, [(.imm .exact []), (.imm .exact []), (.imm .exact []), (.imm .exact []), (.int .i64 0), (.imm .exact [])], false⟩ := rfl
theorem ty_26 : E.ty 26 = ⟨.map 20 2, 1, 8, [(.map none)], false⟩ := rfl
theorem ty_27 : E.ty 27 = ⟨.func, 1, 8, [.nilfn], false⟩ := rfl

end Dv
