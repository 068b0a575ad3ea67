/-
  THE FUNCTIONS' ABSTRACT CODE, as Lean's own reduction of compCode printed it, with notes (genac.py); each is held against the translation by the kernel.
-/
import Derived.Test.YtjmgnodeohmboaaDoorProg
import Derived.Test.YtjmgnodeohmboaaDoorCode
namespace Go.Proofs.YtjmgnodeohmboaaDoor.Am
set_option linter.unusedSimpArgs false
set_option linter.unusedVariables false
open Go Go.Proofs
set_option maxRecDepth 100000


/-- chantry/chantrylaw11.RollBack -/
def acq_7 : ACode :=
 (.seq
  (.region false [] [⟨some 2, .box (.t 0), none, [0]⟩, ⟨some 4, .mov (.c (.bool false)), none, []⟩])
 (.seal_ 2
  (.seq
   (.seq
    (.region false [] [⟨some 11, .call 9 [], none, []⟩, ⟨some 12, .un .not (.t 11), none, [11]⟩])
   (.cond (.t 12)
     (.drop [1, 2, 12]
      (.seq
       (.region false [] [⟨some 4, .mov (.c (.bool false)), none, []⟩])
      .ret))
     (.drop [12]
      .skip)))
  (.seq
   (.seq
    (.region false [] [⟨some 13, .mov (.t 1), none, []⟩, ⟨some 14, .len false (.t 13), none, [13]⟩, ⟨some 15, .bin false .gtr (.t 14) (.c (.int .i64 100)), none, [14]⟩, ⟨some 16, .mov (.t 15), none, [15]⟩, ⟨some 17, .mov (.t 1), some (16, false), []⟩, ⟨some 18, .len false (.t 17), some (16, false), [17]⟩, ⟨some 19, .bin false .eql (.t 18) (.c (.int .i64 0)), some (16, false), [18]⟩, ⟨some 20, .pick (.t 16) (.c (.bool true)) (.t 19), none, [16, 19]⟩])
   (.cond (.t 20)
     (.drop [1, 2, 20]
      (.seq
       (.region false [] [⟨some 4, .mov (.c (.bool true)), none, []⟩])
      .ret))
     (.drop [20]
      .skip)))
  (.seq
   (.draws (.tak 0 ⟨some 22, .ld true 2 (.t 2), none, []⟩ (.tak 1 ⟨some 23, .mov (.t 1), none, []⟩ (.tak 2 ⟨some 24, .iax 2 (.t 23) (.c (.int .i64 0)), none, []⟩ (.tak 3 ⟨some 25, .ld true 2 (.t 24), none, []⟩ (.alt 4 ⟨some 26, .call 10 [.t 22, .t 25], none, []⟩ (.tak 5 ⟨some 21, .mov (.t 26), none, []⟩ (.tak 6 ⟨some 27, .ext 0 (.t 21), none, []⟩ (.tak 7 ⟨some 28, .ext 1 (.t 21), none, []⟩ (.alt 8 ⟨some 5, .alloc [.int .i64 0, .int .u16 0], none, []⟩ (.alt 9 ⟨none, .st 2 (.t 5) (.t 27), none, []⟩ (.tak 10 ⟨some 6, .mov (.t 28), none, []⟩ .done) .stop) .stop)))) (.alt 8 ⟨some 5, .alloc [.int .i64 0, .int .u16 0], none, []⟩ (.alt 4 ⟨some 26, .call 10 [.t 22, .t 25], none, []⟩ (.tak 5 ⟨some 21, .mov (.t 26), none, []⟩ (.tak 6 ⟨some 27, .ext 0 (.t 21), none, []⟩ (.tak 7 ⟨some 28, .ext 1 (.t 21), none, []⟩ (.alt 9 ⟨none, .st 2 (.t 5) (.t 27), none, []⟩ (.tak 10 ⟨some 6, .mov (.t 28), none, []⟩ .done) .stop)))) .stop) .stop)))))) [[], [], [1], [2], [0, 3], [4], [5], [5], [], [8, 6, 4, 0, 1, 2, 3, 4, 5, 6, 8], [7, 9, 0, 1, 2, 3, 4, 5, 6, 7, 8, 9]] [⟨some 22, .ld true 2 (.t 2), none, []⟩, ⟨some 23, .mov (.t 1), none, []⟩, ⟨some 24, .iax 2 (.t 23) (.c (.int .i64 0)), none, []⟩, ⟨some 25, .ld true 2 (.t 24), none, []⟩, ⟨some 26, .call 10 [.t 22, .t 25], none, []⟩, ⟨some 21, .mov (.t 26), none, []⟩, ⟨some 27, .ext 0 (.t 21), none, []⟩, ⟨some 28, .ext 1 (.t 21), none, []⟩, ⟨some 5, .alloc [.int .i64 0, .int .u16 0], none, []⟩, ⟨none, .st 2 (.t 5) (.t 27), none, []⟩, ⟨some 6, .mov (.t 28), none, []⟩])
  (.drop [21, 22, 23, 24, 25, 26, 27, 28]
   (.pack [1, 2, 5, 6]
    (.seq
     (.seq
      (.region false [] [⟨some 29, .mov (.t 6), none, [6]⟩, ⟨some 30, .bin false .eql (.t 29) (.c (.int .i64 0)), none, [29]⟩])
     (.cond (.t 30)
       (.drop [30]
        (.seq
         (.draws (.tak 1 ⟨some 33, .mov (.t 1), none, []⟩ (.tak 2 ⟨some 34, .iax 2 (.t 33) (.c (.int .i64 0)), none, []⟩ (.tak 3 ⟨some 35, .fad 0 (.t 34), none, []⟩ (.tak 4 ⟨some 36, .ld false 1 (.t 35), none, []⟩ (.tak 5 ⟨some 37, .un .not (.t 36), none, []⟩ (.tak 6 ⟨some 38, .mov (.t 1), none, []⟩ (.tak 7 ⟨some 39, .iax 2 (.t 38) (.c (.int .i64 0)), none, []⟩ (.tak 8 ⟨some 40, .fad 1 (.t 39), none, []⟩ (.tak 9 ⟨some 41, .ld false 1 (.t 40), none, []⟩ (.tak 10 ⟨some 42, .bld [.bool false, .int .u8 0] [(0, 1, .t 37), (1, 1, .t 41)], none, []⟩ (.alt 0 ⟨some 32, .ld true 2 (.t 5), none, []⟩ (.alt 11 ⟨some 43, .call 10 [.t 32, .t 42], none, []⟩ (.tak 12 ⟨some 31, .mov (.t 43), none, []⟩ (.tak 13 ⟨some 44, .ext 0 (.t 31), none, []⟩ (.tak 14 ⟨some 45, .ext 1 (.t 31), none, []⟩ (.alt 15 ⟨some 7, .alloc [.int .i64 0, .int .u16 0], none, []⟩ (.alt 16 ⟨none, .st 2 (.t 7) (.t 44), none, []⟩ (.tak 17 ⟨some 8, .mov (.t 45), none, []⟩ .done) .stop) .stop)))) (.alt 15 ⟨some 7, .alloc [.int .i64 0, .int .u16 0], none, []⟩ (.alt 11 ⟨some 43, .call 10 [.t 32, .t 42], none, []⟩ (.tak 12 ⟨some 31, .mov (.t 43), none, []⟩ (.tak 13 ⟨some 44, .ext 0 (.t 31), none, []⟩ (.tak 14 ⟨some 45, .ext 1 (.t 31), none, []⟩ (.alt 16 ⟨none, .st 2 (.t 7) (.t 44), none, []⟩ (.tak 17 ⟨some 8, .mov (.t 45), none, []⟩ .done) .stop)))) .stop) .stop)) (.alt 15 ⟨some 7, .alloc [.int .i64 0, .int .u16 0], none, []⟩ (.alt 0 ⟨some 32, .ld true 2 (.t 5), none, []⟩ (.alt 11 ⟨some 43, .call 10 [.t 32, .t 42], none, []⟩ (.tak 12 ⟨some 31, .mov (.t 43), none, []⟩ (.tak 13 ⟨some 44, .ext 0 (.t 31), none, []⟩ (.tak 14 ⟨some 45, .ext 1 (.t 31), none, []⟩ (.alt 16 ⟨none, .st 2 (.t 7) (.t 44), none, []⟩ (.tak 17 ⟨some 8, .mov (.t 45), none, []⟩ .done) .stop)))) .stop) .stop) .stop)))))))))))) [[], [], [1], [2], [3], [4], [], [6], [7], [8], [5, 9], [0, 10], [11], [12], [12], [], [15, 13, 11, 0, 1, 2, 3, 4, 5, 6, 7, 8, 9, 10, 11, 12, 13, 15], [14, 16, 0, 1, 2, 3, 4, 5, 6, 7, 8, 9, 10, 11, 12, 13, 14, 15, 16]] [⟨some 32, .ld true 2 (.t 5), none, []⟩, ⟨some 33, .mov (.t 1), none, []⟩, ⟨some 34, .iax 2 (.t 33) (.c (.int .i64 0)), none, []⟩, ⟨some 35, .fad 0 (.t 34), none, []⟩, ⟨some 36, .ld false 1 (.t 35), none, []⟩, ⟨some 37, .un .not (.t 36), none, []⟩, ⟨some 38, .mov (.t 1), none, []⟩, ⟨some 39, .iax 2 (.t 38) (.c (.int .i64 0)), none, []⟩, ⟨some 40, .fad 1 (.t 39), none, []⟩, ⟨some 41, .ld false 1 (.t 40), none, []⟩, ⟨some 42, .bld [.bool false, .int .u8 0] [(0, 1, .t 37), (1, 1, .t 41)], none, []⟩, ⟨some 43, .call 10 [.t 32, .t 42], none, []⟩, ⟨some 31, .mov (.t 43), none, []⟩, ⟨some 44, .ext 0 (.t 31), none, []⟩, ⟨some 45, .ext 1 (.t 31), none, []⟩, ⟨some 7, .alloc [.int .i64 0, .int .u16 0], none, []⟩, ⟨none, .st 2 (.t 7) (.t 44), none, []⟩, ⟨some 8, .mov (.t 45), none, []⟩])
        (.drop [5, 31, 32, 33, 34, 35, 36, 37, 38, 39, 40, 41, 42, 43, 44, 45]
         (.pack [1, 2, 7, 8]
          (.seq
           (.region false [] [⟨some 46, .mov (.t 8), none, []⟩, ⟨some 47, .bin false .neq (.t 46) (.c (.int .i64 0)), none, [46]⟩, ⟨some 48, .mov (.t 47), none, [47]⟩, ⟨some 49, .fad 0 (.t 2), some (48, true), []⟩, ⟨some 50, .ld false 1 (.t 49), some (48, true), [49]⟩, ⟨some 51, .bin false .lss (.t 50) (.c (.int .i64 999)), some (48, true), [50]⟩, ⟨some 52, .pick (.t 48) (.t 51) (.c (.bool false)), none, [48, 51]⟩, ⟨some 53, .mov (.t 52), none, [52]⟩, ⟨some 54, .mov (.t 8), some (53, false), [8]⟩, ⟨some 55, .bin false .eql (.t 54) (.c (.int .i64 0)), some (53, false), [54]⟩, ⟨some 56, .mov (.t 55), some (53, false), [55]⟩, ⟨some 57, .fad 1 (.t 7), some (56, true), []⟩, ⟨some 58, .ld false 1 (.t 57), some (56, true), [57]⟩, ⟨some 59, .fad 1 (.t 2), some (56, true), []⟩, ⟨some 60, .ld false 1 (.t 59), some (56, true), [59]⟩, ⟨some 61, .bin false .neq (.t 58) (.t 60), some (56, true), [58, 60]⟩, ⟨some 62, .mov (.t 61), some (56, true), [61]⟩, ⟨some 63, .fad 0 (.t 7), some (62, false), [7]⟩, ⟨some 64, .ld false 1 (.t 63), some (62, false), [63]⟩, ⟨some 65, .fad 0 (.t 2), some (62, false), []⟩, ⟨some 66, .ld false 1 (.t 65), some (62, false), [65]⟩, ⟨some 67, .bin false .add (.t 66) (.c (.int .i64 2)), some (62, false), [66]⟩, ⟨some 68, .bin false .neq (.t 64) (.t 67), some (62, false), [64, 67]⟩, ⟨some 69, .pick (.t 62) (.c (.bool true)) (.t 68), some (56, true), [62, 68]⟩, ⟨some 70, .pick (.t 56) (.t 69) (.c (.bool false)), some (53, false), [56, 69]⟩, ⟨some 71, .pick (.t 53) (.c (.bool true)) (.t 70), none, [53, 70]⟩])
          (.cond (.t 71)
            (.drop [1, 2, 71]
             (.seq
              (.region false [] [⟨some 4, .mov (.c (.bool false)), none, []⟩])
             .ret))
            (.drop [71]
             .skip)))))))
       (.drop [5, 30]
        .skip)))
    (.seq
     (.draws (.tak 0 ⟨some 72, .ld true 2 (.t 2), none, []⟩ (.tak 1 ⟨some 73, .mov (.t 1), none, []⟩ (.alt 2 ⟨some 74, .call 20 [.t 73], none, []⟩ (.alt 3 ⟨some 75, .call 19 [.t 72, .t 74], none, []⟩ (.tak 4 ⟨some 9, .mov (.t 75), none, []⟩ .done) .stop) .stop))) [[], [], [1], [0, 2, 2], [3, 3, 0, 1, 2, 3]] [⟨some 72, .ld true 2 (.t 2), none, []⟩, ⟨some 73, .mov (.t 1), none, []⟩, ⟨some 74, .call 20 [.t 73], none, []⟩, ⟨some 75, .call 19 [.t 72, .t 74], none, []⟩, ⟨some 9, .mov (.t 75), none, []⟩])
    (.drop [72, 73, 74, 75]
     (.pack [1, 2, 9]
      (.seq
       (.seq
        (.region false [] [⟨some 10, .mov (.c (.int .i64 1)), none, []⟩])
       (.block 0
        (.loop [1, 2, 9, 10]
         (.seq
          (.seq
           (.region false [] [⟨some 76, .mov (.t 10), none, []⟩, ⟨some 77, .mov (.t 9), none, []⟩, ⟨some 78, .len false (.t 77), none, [77]⟩, ⟨some 79, .bin false .lss (.t 76) (.t 78), none, [76, 78]⟩])
          (.cond (.t 79)
            (.drop [79]
             .skip)
            (.drop [10, 79]
             (.exit 0))))
         (.seq
          (.block 1
           (.seq
            (.draws (.tak 0 ⟨some 82, .mov (.t 9), none, []⟩ (.tak 1 ⟨some 83, .mov (.t 10), none, []⟩ (.tak 2 ⟨some 84, .iax 2 (.t 82) (.t 83), none, []⟩ (.tak 3 ⟨some 85, .fad 0 (.t 84), none, []⟩ (.tak 4 ⟨some 86, .ld false 1 (.t 85), none, []⟩ (.tak 5 ⟨some 87, .mov (.t 9), none, []⟩ (.tak 6 ⟨some 88, .mov (.t 10), none, []⟩ (.tak 7 ⟨some 89, .bin false .sub (.t 88) (.c (.int .i64 1)), none, []⟩ (.tak 8 ⟨some 90, .iax 2 (.t 87) (.t 89), none, []⟩ (.tak 9 ⟨some 91, .fad 0 (.t 90), none, []⟩ (.tak 10 ⟨some 92, .ld false 1 (.t 91), none, []⟩ (.tak 11 ⟨some 93, .bin false .add (.t 92) (.c (.int .i64 1)), none, []⟩ (.tak 12 ⟨some 94, .bin false .neq (.t 86) (.t 93), none, []⟩ (.tak 13 ⟨some 95, .mov (.t 94), none, []⟩ (.tak 14 ⟨some 96, .mov (.t 9), some (95, false), []⟩ (.tak 15 ⟨some 97, .mov (.t 10), some (95, false), []⟩ (.tak 16 ⟨some 98, .iax 2 (.t 96) (.t 97), some (95, false), []⟩ (.tak 17 ⟨some 99, .fad 1 (.t 98), some (95, false), []⟩ (.tak 18 ⟨some 100, .ld false 1 (.t 99), some (95, false), []⟩ (.tak 19 ⟨some 101, .mov (.t 9), some (95, false), []⟩ (.tak 20 ⟨some 102, .mov (.t 10), some (95, false), []⟩ (.tak 21 ⟨some 103, .bin false .sub (.t 102) (.c (.int .i64 1)), some (95, false), []⟩ (.tak 22 ⟨some 104, .iax 2 (.t 101) (.t 103), some (95, false), []⟩ (.tak 23 ⟨some 105, .fad 1 (.t 104), some (95, false), []⟩ (.tak 24 ⟨some 106, .ld false 1 (.t 105), some (95, false), []⟩ (.tak 25 ⟨some 107, .bin false .xor (.t 100) (.t 106), some (95, false), []⟩ (.alt 26 ⟨some 108, .call 22 [.t 107], some (95, false), []⟩ (.tak 27 ⟨some 109, .bin false .neq (.t 108) (.c (.int .i64 1)), some (95, false), []⟩ (.tak 28 ⟨some 110, .pick (.t 95) (.c (.bool true)) (.t 109), none, []⟩ (.tak 29 ⟨some 111, .mov (.t 110), none, []⟩ (.tak 30 ⟨some 112, .mov (.t 9), some (111, false), []⟩ (.tak 31 ⟨some 113, .mov (.t 10), some (111, false), []⟩ (.tak 32 ⟨some 114, .iax 2 (.t 112) (.t 113), some (111, false), []⟩ (.tak 33 ⟨some 115, .fad 1 (.t 114), some (111, false), []⟩ (.tak 34 ⟨some 116, .ld false 1 (.t 115), some (111, false), []⟩ (.tak 35 ⟨some 117, .bin false .eql (.t 116) (.c (.int .u16 0)), some (111, false), []⟩ (.tak 36 ⟨some 118, .pick (.t 111) (.c (.bool true)) (.t 117), none, []⟩ .done)))))))))) .stop))))))))))))))))))))))))))) [[], [], [0, 1], [2], [3], [], [], [6], [5, 7], [8], [9], [10], [4, 11], [12], [13], [13], [14, 15, 13], [16, 13], [17, 13], [13], [13], [20, 13], [19, 21, 13], [22, 13], [23, 13], [18, 24, 13], [25, 13, 13], [26, 13], [13, 27], [28, 26], [29], [29], [30, 31, 29], [32, 29], [33, 29], [34, 29], [29, 35]] [⟨some 82, .mov (.t 9), none, []⟩, ⟨some 83, .mov (.t 10), none, []⟩, ⟨some 84, .iax 2 (.t 82) (.t 83), none, []⟩, ⟨some 85, .fad 0 (.t 84), none, []⟩, ⟨some 86, .ld false 1 (.t 85), none, []⟩, ⟨some 87, .mov (.t 9), none, []⟩, ⟨some 88, .mov (.t 10), none, []⟩, ⟨some 89, .bin false .sub (.t 88) (.c (.int .i64 1)), none, []⟩, ⟨some 90, .iax 2 (.t 87) (.t 89), none, []⟩, ⟨some 91, .fad 0 (.t 90), none, []⟩, ⟨some 92, .ld false 1 (.t 91), none, []⟩, ⟨some 93, .bin false .add (.t 92) (.c (.int .i64 1)), none, []⟩, ⟨some 94, .bin false .neq (.t 86) (.t 93), none, []⟩, ⟨some 95, .mov (.t 94), none, []⟩, ⟨some 96, .mov (.t 9), some (95, false), []⟩, ⟨some 97, .mov (.t 10), some (95, false), []⟩, ⟨some 98, .iax 2 (.t 96) (.t 97), some (95, false), []⟩, ⟨some 99, .fad 1 (.t 98), some (95, false), []⟩, ⟨some 100, .ld false 1 (.t 99), some (95, false), []⟩, ⟨some 101, .mov (.t 9), some (95, false), []⟩, ⟨some 102, .mov (.t 10), some (95, false), []⟩, ⟨some 103, .bin false .sub (.t 102) (.c (.int .i64 1)), some (95, false), []⟩, ⟨some 104, .iax 2 (.t 101) (.t 103), some (95, false), []⟩, ⟨some 105, .fad 1 (.t 104), some (95, false), []⟩, ⟨some 106, .ld false 1 (.t 105), some (95, false), []⟩, ⟨some 107, .bin false .xor (.t 100) (.t 106), some (95, false), []⟩, ⟨some 108, .call 22 [.t 107], some (95, false), []⟩, ⟨some 109, .bin false .neq (.t 108) (.c (.int .i64 1)), some (95, false), []⟩, ⟨some 110, .pick (.t 95) (.c (.bool true)) (.t 109), none, []⟩, ⟨some 111, .mov (.t 110), none, []⟩, ⟨some 112, .mov (.t 9), some (111, false), []⟩, ⟨some 113, .mov (.t 10), some (111, false), []⟩, ⟨some 114, .iax 2 (.t 112) (.t 113), some (111, false), []⟩, ⟨some 115, .fad 1 (.t 114), some (111, false), []⟩, ⟨some 116, .ld false 1 (.t 115), some (111, false), []⟩, ⟨some 117, .bin false .eql (.t 116) (.c (.int .u16 0)), some (111, false), []⟩, ⟨some 118, .pick (.t 111) (.c (.bool true)) (.t 117), none, []⟩])
           (.drop [82, 83, 84, 85, 86, 87, 88, 89, 90, 91, 92, 93, 94, 95, 96, 97, 98, 99, 100, 101, 102, 103, 104, 105, 106, 107, 108, 109, 110, 111, 112, 113, 114, 115, 116, 117]
            (.pack [1, 2, 9, 10, 118]
             (.cond (.t 118)
               (.drop [1, 2, 9, 10, 118]
                (.seq
                 (.region false [] [⟨some 4, .mov (.c (.bool false)), none, []⟩])
                .ret))
               (.drop [118]
                .skip))))))
         (.region false [] [⟨some 80, .mov (.t 10), none, [10]⟩, ⟨some 81, .bin false .add (.t 80) (.c (.int .i64 1)), none, [80]⟩, ⟨some 10, .mov (.t 81), none, [81]⟩]))))))
      (.seq
       (.region false [] [⟨some 119, .mov (.t 9), none, []⟩, ⟨some 120, .len false (.t 119), none, [119]⟩, ⟨some 121, .bin false .eql (.t 120) (.c (.int .i64 0)), none, [120]⟩, ⟨some 122, .ld true 2 (.t 2), none, [2]⟩, ⟨some 123, .call 12 [.t 122], none, [122]⟩, ⟨some 124, .un .not (.t 123), none, [123]⟩, ⟨some 125, .bin true .eql (.t 121) (.t 124), none, [121, 124]⟩, ⟨some 126, .mov (.t 125), none, [125]⟩, ⟨some 127, .mov (.t 9), some (126, true), [9]⟩, ⟨some 128, .len false (.t 127), some (126, true), [127]⟩, ⟨some 129, .mov (.t 1), some (126, true), [1]⟩, ⟨some 130, .len false (.t 129), some (126, true), [129]⟩, ⟨some 131, .bin false .add (.t 130) (.c (.int .i64 1)), some (126, true), [130]⟩, ⟨some 132, .bin false .leq (.t 128) (.t 131), some (126, true), [128, 131]⟩, ⟨some 133, .pick (.t 126) (.t 132) (.c (.bool false)), none, [126, 132]⟩, ⟨some 4, .mov (.t 133), none, [133]⟩])
      .ret)))))))))))))
def rsq_7 : List ARes := [.tmp 4]
theorem gq_7 : Good Tryd.prog 7 acq_7 rsq_7 := ⟨Tryd.f7, Tryd.f7.body.getD .skip, by kernel_rfl, by kernel_rfl, by kernel_rfl, ⟨by kernel_rfl, by kernel_rfl⟩, by kernel_rfl, by kernel_rfl⟩
theorem okq_7 {Γ : Env} (hΓ : EnvOk Tryd.prog Γ) (sp : Spec) (h : WB Γ acq_7 rsq_7 sp) : CallOk Tryd.prog 7 sp := gq_7.ok hΓ mix_ok sp h

end Go.Proofs.YtjmgnodeohmboaaDoor.Am
