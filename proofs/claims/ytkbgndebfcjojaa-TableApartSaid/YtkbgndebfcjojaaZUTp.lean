/-
  A vote in one member's broadcast changes nothing of another one's.
-/
import Derived.Test.YtkbgndebfcjojaaZTL
namespace Go.Proofs.Ytkbgndebfcjojaa.Am
set_option linter.unusedSimpArgs false
set_option linter.unusedVariables false
open Go Go.Proofs
set_option maxRecDepth 100000


/-- chantry/chantrylaw08.TableApart -/
def ac_6 : ACode :=
 (.seq
  (.region false [] [⟨some 2, .box (.t 0), none, [0]⟩, ⟨some 3, .box (.t 1), none, [1]⟩, ⟨some 4, .mov (.c (.bool false)), none, []⟩])
 (.seal_ 3
  (.seal_ 2
   (.seq
    (.seq
     (.region false [] [⟨some 17, .call 10 [], none, []⟩, ⟨some 18, .un .not (.t 17), none, [17]⟩])
    (.cond (.t 18)
      (.drop [2, 3, 18]
       (.seq
        (.region false [] [⟨some 4, .mov (.c (.bool false)), none, []⟩])
       .ret))
      (.drop [18]
       .skip)))
   (.seq
    (.seq
     (.region false [] [⟨some 19, .ld true 19 (.t 2), none, []⟩, ⟨some 20, .call 11 [.t 19], none, [19]⟩, ⟨some 21, .un .not (.t 20), none, [20]⟩, ⟨some 22, .mov (.t 21), none, [21]⟩, ⟨some 23, .fad 5 (.t 3), some (22, false), []⟩, ⟨some 24, .ld false 1 (.t 23), some (22, false), [23]⟩, ⟨some 25, .len true (.t 24), some (22, false), [24]⟩, ⟨some 26, .bin false .gtr (.t 25) (.c (.int .i64 1100)), some (22, false), [25]⟩, ⟨some 27, .pick (.t 22) (.c (.bool true)) (.t 26), none, [22, 26]⟩, ⟨some 28, .mov (.t 27), none, [27]⟩, ⟨some 29, .ld true 19 (.t 2), some (28, false), []⟩, ⟨some 30, .call 16 [.t 29], some (28, false), [29]⟩, ⟨some 31, .un .not (.t 30), some (28, false), [30]⟩, ⟨some 32, .pick (.t 28) (.c (.bool true)) (.t 31), none, [28, 31]⟩])
    (.cond (.t 32)
      (.drop [2, 3, 32]
       (.seq
        (.region false [] [⟨some 4, .mov (.c (.bool true)), none, []⟩])
       .ret))
      (.drop [32]
       .skip)))
   (.seq
    (.draws (.tak 0 ⟨some 34, .ld true 19 (.t 2), none, []⟩ (.tak 2 ⟨some 36, .fad 0 (.t 3), none, []⟩ (.tak 3 ⟨some 37, .ld true 3 (.t 36), none, []⟩ (.tak 4 ⟨some 38, .fad 3 (.t 3), none, []⟩ (.tak 5 ⟨some 39, .ld false 1 (.t 38), none, []⟩ (.tak 6 ⟨some 40, .fad 4 (.t 3), none, []⟩ (.tak 7 ⟨some 41, .ld false 1 (.t 40), none, []⟩ (.tak 8 ⟨some 42, .fad 5 (.t 3), none, []⟩ (.tak 9 ⟨some 43, .ld false 1 (.t 42), none, []⟩ (.alt 1 ⟨some 35, .call 13 [.t 34], none, []⟩ (.alt 10 ⟨some 44, .call 12 [.t 35, .t 37, .t 39, .t 41, .t 43], none, []⟩ (.tak 11 ⟨some 33, .mov (.t 44), none, []⟩ (.tak 12 ⟨some 45, .ext 0 (.t 33), none, []⟩ (.tak 13 ⟨some 46, .ext 1 (.t 33), none, []⟩ (.tak 14 ⟨some 47, .ext 2 (.t 33), none, []⟩ (.tak 15 ⟨some 48, .ext 3 (.t 33), none, []⟩ (.tak 16 ⟨some 49, .ext 4 (.t 33), none, []⟩ (.alt 17 ⟨some 5, .alloc [.int .i64 0, .int .u16 0, .int .u16 0, .int .u16 0, .int .u16 0, .int .u16 0, .int .u16 0, .int .u16 0, .int .u16 0, .int .u16 0, .int .u16 0, .int .u16 0, .int .u16 0, .int .u16 0, .int .u16 0, .int .u16 0, .int .u16 0, .int .u16 0, .slice none 0 0], none, []⟩ (.alt 18 ⟨none, .st 19 (.t 5) (.t 45), none, []⟩ (.tak 19 ⟨some 6, .mov (.t 46), none, []⟩ (.tak 20 ⟨some 7, .mov (.t 47), none, []⟩ (.tak 21 ⟨some 8, .mov (.t 48), none, []⟩ (.tak 22 ⟨some 9, .mov (.t 49), none, []⟩ .done)))) .stop) .stop))))))) (.alt 17 ⟨some 5, .alloc [.int .i64 0, .int .u16 0, .int .u16 0, .int .u16 0, .int .u16 0, .int .u16 0, .int .u16 0, .int .u16 0, .int .u16 0, .int .u16 0, .int .u16 0, .int .u16 0, .int .u16 0, .int .u16 0, .int .u16 0, .int .u16 0, .int .u16 0, .int .u16 0, .slice none 0 0], none, []⟩ (.alt 10 ⟨some 44, .call 12 [.t 35, .t 37, .t 39, .t 41, .t 43], none, []⟩ (.tak 11 ⟨some 33, .mov (.t 44), none, []⟩ (.tak 12 ⟨some 45, .ext 0 (.t 33), none, []⟩ (.tak 13 ⟨some 46, .ext 1 (.t 33), none, []⟩ (.tak 14 ⟨some 47, .ext 2 (.t 33), none, []⟩ (.tak 15 ⟨some 48, .ext 3 (.t 33), none, []⟩ (.tak 16 ⟨some 49, .ext 4 (.t 33), none, []⟩ (.alt 18 ⟨none, .st 19 (.t 5) (.t 45), none, []⟩ (.tak 19 ⟨some 6, .mov (.t 46), none, []⟩ (.tak 20 ⟨some 7, .mov (.t 47), none, []⟩ (.tak 21 ⟨some 8, .mov (.t 48), none, []⟩ (.tak 22 ⟨some 9, .mov (.t 49), none, []⟩ .done)))) .stop))))))) .stop) .stop)) (.alt 17 ⟨some 5, .alloc [.int .i64 0, .int .u16 0, .int .u16 0, .int .u16 0, .int .u16 0, .int .u16 0, .int .u16 0, .int .u16 0, .int .u16 0, .int .u16 0, .int .u16 0, .int .u16 0, .int .u16 0, .int .u16 0, .int .u16 0, .int .u16 0, .int .u16 0, .int .u16 0, .slice none 0 0], none, []⟩ (.alt 1 ⟨some 35, .call 13 [.t 34], none, []⟩ (.alt 10 ⟨some 44, .call 12 [.t 35, .t 37, .t 39, .t 41, .t 43], none, []⟩ (.tak 11 ⟨some 33, .mov (.t 44), none, []⟩ (.tak 12 ⟨some 45, .ext 0 (.t 33), none, []⟩ (.tak 13 ⟨some 46, .ext 1 (.t 33), none, []⟩ (.tak 14 ⟨some 47, .ext 2 (.t 33), none, []⟩ (.tak 15 ⟨some 48, .ext 3 (.t 33), none, []⟩ (.tak 16 ⟨some 49, .ext 4 (.t 33), none, []⟩ (.alt 18 ⟨none, .st 19 (.t 5) (.t 45), none, []⟩ (.tak 19 ⟨some 6, .mov (.t 46), none, []⟩ (.tak 20 ⟨some 7, .mov (.t 47), none, []⟩ (.tak 21 ⟨some 8, .mov (.t 48), none, []⟩ (.tak 22 ⟨some 9, .mov (.t 49), none, []⟩ .done)))) .stop))))))) .stop) .stop) .stop))))))))))) [[], [0], [], [2], [], [4], [], [6], [], [8], [1, 3, 5, 7, 9, 1], [10], [11], [11], [11], [11], [11], [], [17, 12, 10, 0, 1, 2, 3, 4, 5, 6, 7, 8, 9, 10, 11, 12, 17], [13, 18, 0, 1, 2, 3, 4, 5, 6, 7, 8, 9, 10, 11, 12, 13, 17, 18], [14, 19, 0, 1, 2, 3, 4, 5, 6, 7, 8, 9, 10, 11, 12, 13, 14, 17, 18, 19], [15, 20, 0, 1, 2, 3, 4, 5, 6, 7, 8, 9, 10, 11, 12, 13, 14, 15, 17, 18, 19, 20], [16, 21, 0, 1, 2, 3, 4, 5, 6, 7, 8, 9, 10, 11, 12, 13, 14, 15, 16, 17, 18, 19, 20, 21]] [⟨some 34, .ld true 19 (.t 2), none, []⟩, ⟨some 35, .call 13 [.t 34], none, []⟩, ⟨some 36, .fad 0 (.t 3), none, []⟩, ⟨some 37, .ld true 3 (.t 36), none, []⟩, ⟨some 38, .fad 3 (.t 3), none, []⟩, ⟨some 39, .ld false 1 (.t 38), none, []⟩, ⟨some 40, .fad 4 (.t 3), none, []⟩, ⟨some 41, .ld false 1 (.t 40), none, []⟩, ⟨some 42, .fad 5 (.t 3), none, []⟩, ⟨some 43, .ld false 1 (.t 42), none, []⟩, ⟨some 44, .call 12 [.t 35, .t 37, .t 39, .t 41, .t 43], none, []⟩, ⟨some 33, .mov (.t 44), none, []⟩, ⟨some 45, .ext 0 (.t 33), none, []⟩, ⟨some 46, .ext 1 (.t 33), none, []⟩, ⟨some 47, .ext 2 (.t 33), none, []⟩, ⟨some 48, .ext 3 (.t 33), none, []⟩, ⟨some 49, .ext 4 (.t 33), none, []⟩, ⟨some 5, .alloc [.int .i64 0, .int .u16 0, .int .u16 0, .int .u16 0, .int .u16 0, .int .u16 0, .int .u16 0, .int .u16 0, .int .u16 0, .int .u16 0, .int .u16 0, .int .u16 0, .int .u16 0, .int .u16 0, .int .u16 0, .int .u16 0, .int .u16 0, .int .u16 0, .slice none 0 0], none, []⟩, ⟨none, .st 19 (.t 5) (.t 45), none, []⟩, ⟨some 6, .mov (.t 46), none, []⟩, ⟨some 7, .mov (.t 47), none, []⟩, ⟨some 8, .mov (.t 48), none, []⟩, ⟨some 9, .mov (.t 49), none, []⟩])
   (.drop [6, 7, 8, 9, 33, 34, 35, 36, 37, 38, 39, 40, 41, 42, 43, 44, 45, 46, 47, 48, 49]
    (.pack [2, 3, 5]
     (.seq
      (.region false [] [⟨some 10, .mov (.c (.slice none 0 0)), none, []⟩, ⟨some 11, .mov (.c (.slice none 0 0)), none, []⟩])
     (.seq
      (.seq
       (.region false [] [⟨some 50, .fad 18 (.t 2), none, []⟩, ⟨some 51, .ld false 1 (.t 50), none, [50]⟩, ⟨some 52, .len false (.t 51), none, []⟩, ⟨some 53, .mov (.c (.int .i64 0)), none, []⟩])
      (.block 0
       (.loop [2, 3, 5, 10, 11, 51, 52, 53]
        (.seq
         (.region false [] [⟨some 54, .bin false .lss (.t 53) (.t 52), none, []⟩])
        (.seq
         (.cond (.t 54)
           (.drop [54]
            .skip)
           (.drop [51, 52, 53, 54]
            (.exit 0)))
        (.seq
         (.block 1
          (.seq
           (.region false [] [⟨some 55, .iax 7 (.t 51) (.t 53), none, []⟩, ⟨some 56, .ld true 7 (.t 55), none, [55]⟩, ⟨some 13, .alloc [.int .u8 0, .int .i64 0, .bool false, .bool false, .bool false, .slice none 0 0, .slice none 0 0], none, []⟩, ⟨none, .st 7 (.t 13) (.t 56), none, [56]⟩])
          (.seal_ 13
           (.seq
            (.region false [] [⟨some 57, .fad 0 (.t 13), none, []⟩, ⟨some 58, .ld false 1 (.t 57), none, [57]⟩, ⟨some 59, .fad 0 (.t 3), none, []⟩, ⟨some 60, .fad 1 (.t 59), none, [59]⟩, ⟨some 61, .ld false 1 (.t 60), none, [60]⟩, ⟨some 62, .bin false .neq (.t 58) (.t 61), none, [58, 61]⟩])
           (.cond (.t 62)
             (.drop [62]
              (.region false [] [⟨some 63, .mov (.t 10), none, [10]⟩, ⟨some 64, .ld true 7 (.t 13), none, [13]⟩, ⟨some 65, .bsl 66 7 [.t 64], none, [64]⟩, ⟨some 66, .app 66 7 72 (.t 63) (.t 65), none, [63, 65]⟩, ⟨some 10, .mov (.t 66), none, [66]⟩]))
             (.drop [13, 62]
              .skip))))))
        (.region false [] [⟨some 67, .bin false .add (.t 53) (.c (.int .i64 1)), none, [53]⟩, ⟨some 53, .mov (.t 67), none, [67]⟩])))))))
     (.seq
      (.seq
       (.region false [] [⟨some 68, .ld true 19 (.t 5), none, []⟩, ⟨some 69, .call 18 [.t 68], none, [68]⟩, ⟨some 70, .fld false 18 1 (.t 69), none, [69]⟩, ⟨some 71, .len false (.t 70), none, []⟩, ⟨some 72, .mov (.c (.int .i64 0)), none, []⟩])
      (.block 2
       (.loop [2, 3, 5, 10, 11, 70, 71, 72]
        (.seq
         (.region false [] [⟨some 73, .bin false .lss (.t 72) (.t 71), none, []⟩])
        (.seq
         (.cond (.t 73)
           (.drop [73]
            .skip)
           (.drop [70, 71, 72, 73]
            (.exit 2)))
        (.seq
         (.block 3
          (.seq
           (.region false [] [⟨some 74, .iax 7 (.t 70) (.t 72), none, []⟩, ⟨some 75, .ld true 7 (.t 74), none, [74]⟩, ⟨some 15, .alloc [.int .u8 0, .int .i64 0, .bool false, .bool false, .bool false, .slice none 0 0, .slice none 0 0], none, []⟩, ⟨none, .st 7 (.t 15) (.t 75), none, [75]⟩])
          (.seal_ 15
           (.seq
            (.region false [] [⟨some 76, .fad 0 (.t 15), none, []⟩, ⟨some 77, .ld false 1 (.t 76), none, [76]⟩, ⟨some 78, .fad 0 (.t 3), none, []⟩, ⟨some 79, .fad 1 (.t 78), none, [78]⟩, ⟨some 80, .ld false 1 (.t 79), none, [79]⟩, ⟨some 81, .bin false .neq (.t 77) (.t 80), none, [77, 80]⟩])
           (.cond (.t 81)
             (.drop [81]
              (.region false [] [⟨some 82, .mov (.t 11), none, [11]⟩, ⟨some 83, .ld true 7 (.t 15), none, [15]⟩, ⟨some 84, .bsl 66 7 [.t 83], none, [83]⟩, ⟨some 85, .app 66 7 72 (.t 82) (.t 84), none, [82, 84]⟩, ⟨some 11, .mov (.t 85), none, [85]⟩]))
             (.drop [15, 81]
              .skip))))))
        (.region false [] [⟨some 86, .bin false .add (.t 72) (.c (.int .i64 1)), none, [72]⟩, ⟨some 72, .mov (.t 86), none, [86]⟩])))))))
     (.seq
      (.region false [] [⟨some 87, .fad 2 (.t 5), none, []⟩, ⟨some 88, .ld true 16 (.t 87), none, [87]⟩, ⟨some 16, .alloc [.int .u16 0, .int .u16 0, .int .u16 0, .int .u16 0, .int .u16 0, .int .u16 0, .int .u16 0, .int .u16 0, .int .u16 0, .int .u16 0, .int .u16 0, .int .u16 0, .int .u16 0, .int .u16 0, .int .u16 0, .int .u16 0], none, []⟩, ⟨none, .st 16 (.t 16) (.t 88), none, [88]⟩])
     (.seq
      (.draws (.tak 0 ⟨some 89, .fad 0 (.t 3), none, []⟩ (.tak 1 ⟨some 90, .fad 1 (.t 89), none, []⟩ (.tak 2 ⟨some 91, .ld false 1 (.t 90), none, []⟩ (.tak 3 ⟨some 92, .bin false .rem (.t 91) (.c (.int .u8 16)), none, []⟩ (.tak 4 ⟨some 93, .fad 0 (.t 3), none, []⟩ (.tak 5 ⟨some 94, .fad 1 (.t 93), none, []⟩ (.tak 6 ⟨some 95, .ld false 1 (.t 94), none, []⟩ (.tak 7 ⟨some 96, .bin false .rem (.t 95) (.c (.int .u8 16)), none, []⟩ (.tak 8 ⟨some 97, .fad 2 (.t 2), none, []⟩ (.tak 9 ⟨some 98, .iaa 16 1 (.t 97) (.t 96), none, []⟩ (.tak 10 ⟨some 99, .ld false 1 (.t 98), none, []⟩ (.tak 11 ⟨some 100, .iaa 16 1 (.t 16) (.t 92), none, []⟩ (.alt 12 ⟨none, .st 1 (.t 100) (.t 99), none, []⟩ .done .stop))))))))))))) [[], [0], [1], [2], [], [4], [5], [6], [], [8, 7], [9], [3, 0, 1, 2, 3, 4, 5, 6, 7, 8, 9, 10], [11, 10, 0, 1, 2, 3, 4, 5, 6, 7, 8, 9, 10]] [⟨some 89, .fad 0 (.t 3), none, []⟩, ⟨some 90, .fad 1 (.t 89), none, []⟩, ⟨some 91, .ld false 1 (.t 90), none, []⟩, ⟨some 92, .bin false .rem (.t 91) (.c (.int .u8 16)), none, []⟩, ⟨some 93, .fad 0 (.t 3), none, []⟩, ⟨some 94, .fad 1 (.t 93), none, []⟩, ⟨some 95, .ld false 1 (.t 94), none, []⟩, ⟨some 96, .bin false .rem (.t 95) (.c (.int .u8 16)), none, []⟩, ⟨some 97, .fad 2 (.t 2), none, []⟩, ⟨some 98, .iaa 16 1 (.t 97) (.t 96), none, []⟩, ⟨some 99, .ld false 1 (.t 98), none, []⟩, ⟨some 100, .iaa 16 1 (.t 16) (.t 92), none, []⟩, ⟨none, .st 1 (.t 100) (.t 99), none, []⟩])
     (.drop [3, 89, 90, 91, 92, 93, 94, 95, 96, 97, 98, 99, 100]
      (.pack [2, 5, 10, 11, 16]
       (.seq
        (.region false [] [⟨some 101, .mov (.t 10), none, [10]⟩, ⟨some 102, .bld [.int .i64 0, .int .u16 0, .int .u16 0, .int .u16 0, .int .u16 0, .int .u16 0, .int .u16 0, .int .u16 0, .int .u16 0, .int .u16 0, .int .u16 0, .int .u16 0, .int .u16 0, .int .u16 0, .int .u16 0, .int .u16 0, .int .u16 0, .int .u16 0, .slice none 0 0] [(18, 1, .t 101)], none, [101]⟩, ⟨some 103, .mov (.t 11), none, [11]⟩, ⟨some 104, .bld [.int .i64 0, .int .u16 0, .int .u16 0, .int .u16 0, .int .u16 0, .int .u16 0, .int .u16 0, .int .u16 0, .int .u16 0, .int .u16 0, .int .u16 0, .int .u16 0, .int .u16 0, .int .u16 0, .int .u16 0, .int .u16 0, .int .u16 0, .int .u16 0, .slice none 0 0] [(18, 1, .t 103)], none, [103]⟩, ⟨some 105, .call 17 [.t 102, .t 104], none, [102, 104]⟩, ⟨some 106, .mov (.t 105), none, [105]⟩, ⟨some 107, .ld true 16 (.t 16), some (106, true), [16]⟩, ⟨some 108, .fad 2 (.t 2), some (106, true), []⟩, ⟨some 109, .ld true 16 (.t 108), some (106, true), [108]⟩, ⟨some 110, .eqs false [.i, .i, .i, .i, .i, .i, .i, .i, .i, .i, .i, .i, .i, .i, .i, .i] (.t 107) (.t 109), some (106, true), [107, 109]⟩, ⟨some 111, .pick (.t 106) (.t 110) (.c (.bool false)), none, [106, 110]⟩, ⟨some 112, .mov (.t 111), none, [111]⟩, ⟨some 113, .fad 0 (.t 5), some (112, true), []⟩, ⟨some 114, .ld false 1 (.t 113), some (112, true), [113]⟩, ⟨some 115, .fad 0 (.t 2), some (112, true), []⟩, ⟨some 116, .ld false 1 (.t 115), some (112, true), [115]⟩, ⟨some 117, .bin false .eql (.t 114) (.t 116), some (112, true), [114, 116]⟩, ⟨some 118, .pick (.t 112) (.t 117) (.c (.bool false)), none, [112, 117]⟩, ⟨some 119, .mov (.t 118), none, [118]⟩, ⟨some 120, .fad 1 (.t 5), some (119, true), [5]⟩, ⟨some 121, .ld false 1 (.t 120), some (119, true), [120]⟩, ⟨some 122, .fad 1 (.t 2), some (119, true), [2]⟩, ⟨some 123, .ld false 1 (.t 122), some (119, true), [122]⟩, ⟨some 124, .bin false .eql (.t 121) (.t 123), some (119, true), [121, 123]⟩, ⟨some 125, .pick (.t 119) (.t 124) (.c (.bool false)), none, [119, 124]⟩, ⟨some 4, .mov (.t 125), none, [125]⟩])
       .ret))))))))))))))))
def rs_6 : List ARes := [.tmp 4]
theorem g_6 : Good Try.prog 6 ac_6 rs_6 := ⟨Try.f6, Try.f6.body.getD .skip, by kernel_rfl, by kernel_rfl, by kernel_rfl, ⟨by kernel_rfl, by kernel_rfl⟩, by kernel_rfl, by kernel_rfl⟩
theorem ok_6 {Γ : Env} (hΓ : EnvOk Try.prog Γ) (sp : Spec) (h : WB Γ ac_6 rs_6 sp) : CallOk Try.prog 6 sp := g_6.ok hΓ mix_ok sp h

end Go.Proofs.Ytkbgndebfcjojaa.Am
namespace Go.Proofs.Ytkbgndebfcjojaa.Am
set_option linter.unusedSimpArgs false
set_option linter.unusedVariables false
open Go Go.Proofs
attribute [local irreducible] wpA
attribute [-simp] splice

def oth (f : Nat) (l : List Op) : List Op := l.filter fun o => !(o.f == f)
theorem oth_take {f i : Nat} {l : List Op} {x : Op} (hx : l[i]? = some x) : oth f (l.take (i + 1)) = if x.f = f then oth f (l.take i) else oth f (l.take i) ++ [x] := by
  rw [take_more hx]
  unfold oth
  rw [List.filter_append]
  by_cases h : x.f = f
  · simp [h]
  · simp [h]
noncomputable def spTableApart : Spec := sp2 avTb avAc (fun t a => rdTb t ∧ okAc a) fun _ _ => .v (.bool true)
set_option maxHeartbeats 32000000 in
theorem tableApart_ok : CallOk Try.prog 6 spTableApart := by
  refine ok_6 (Env.put_ok [] (Env.put_ok [] (Env.put_ok [] (Env.put_ok [] (Env.put_ok [] (Env.put_ok [] (Env.put_ok [] (Env.none_ok _) alive_ok) few_ok) theirs8_ok) takeT_ok) rightTR_ok) ours8_ok) (CallOk.borrow (g_17).enters same8_ok)) spTableApart (wb_sp2 ?_)
  rintro ⟨v, m, b, l⟩ ⟨⟨nv, nf, nq⟩, k, w, s⟩ ⟨hrd, hnf, hnq, hw⟩
  have hbl := hrd.2.1.1
  have hll := hrd.2.2.1
  simp only at hbl hll hnf hw
  have hnf2 : (nf : Int) < 256 := by omega
  have hw2 : (w : Int) < 256 := by omega
  simp only [avTb, avAc]
  unfold ac_6
  cases hf : fewT ⟨v, m, b, l⟩
  · repeat' with_reducible first
    | refine stp ?_ | refine seg_both ?_ ?_ | refine seg_case (fun x h => ?_) (fun h => ?_) | refine seg_gate (fun h => ?_) (fun h => ?_) | refine seg_need ?_ ?_ | refine cond_v (fun h => ?_) (fun h => ?_)
    | refine seg_eval (by simp -dsimp -implicitDefEqProofs [spAlive, hbl, hll, spFew, hf]; rfl) ?_
    all_goals first
      | omega
      | exact ⟨hbl, hll⟩
      | exact post_fin rfl rfl ⟨[], [], rfl, rfl, rfl, rfl⟩
      | trace_state
  have hbT := rd_few hrd hf
  have hok := bT_ok hbT (by omega)
  by_cases hs : 1100 < s.size
  · have c1 : decide (1100 < s.size) = true := by simp [hs]
    have c1' : decide ((1100 : Int) < (s.size : Int)) = true := by rw [decide_eq_true_eq]; omega
    repeat' with_reducible first
    | refine stp ?_ | refine seg_both ?_ ?_ | refine seg_case (fun x h => ?_) (fun h => ?_) | refine seg_gate (fun h => ?_) (fun h => ?_) | refine seg_need ?_ ?_ | refine cond_v (fun h => ?_) (fun h => ?_)
    | refine seg_eval (by simp -dsimp -implicitDefEqProofs [spAlive, hbl, hll, spFew, hf, c1, c1']; rfl) ?_
    all_goals first
      | omega
      | exact ⟨hbl, hll⟩
      | exact post_fin rfl rfl ⟨[], [], rfl, rfl, rfl, rfl⟩
      | trace_state
  have c1 : decide (1100 < s.size) = false := by simp; omega
  have c1' : decide ((1100 : Int) < (s.size : Int)) = false := by rw [decide_eq_false_iff_not]; omega
  cases hR : rightT ⟨v, m, b, l⟩
  · repeat' with_reducible first
    | refine stp ?_ | refine seg_both ?_ ?_ | refine seg_case (fun x h => ?_) (fun h => ?_) | refine seg_gate (fun h => ?_) (fun h => ?_) | refine seg_need ?_ ?_ | refine cond_v (fun h => ?_) (fun h => ?_)
    | refine seg_eval (by simp -dsimp -implicitDefEqProofs [spAlive, hbl, hll, spFew, hf, c1, c1', spRightT, avTb, hok, hR]; rfl) ?_
    all_goals first
      | omega
      | exact hok
      | exact ⟨hbl, hll⟩
      | exact post_fin rfl rfl ⟨[], [], rfl, rfl, rfl, rfl⟩
      | trace_state
  obtain ⟨r, hr⟩ : ∃ r, takeT ⟨v, m, b, l⟩ ⟨nv, nf, nq⟩ k w s = r := ⟨_, rfl⟩
  have hB := take_b hbT ⟨nv, nf, nq⟩ k w s hnf
  have hA := take_apart (n := ⟨nv, nf, nq⟩) (k := k) (w := w) (s := s) hbT.1 hbT.2.1
  rw [hr] at hB hA
  obtain ⟨⟨rv, rm, rb, ros⟩, ro, rs, ri, rx⟩ := r
  simp only at hB hA
  obtain ⟨hA1, hA2, ⟨z, hz, hz2⟩, hA3⟩ := hA
  have hT := bT_ok hB (by omega)
  have hrb := hT.2.1.1
  simp only at hrb
  have hf16 : nf % 16 < 16 := Nat.mod_lt _ (by decide)
  have hback : rb.set (nf % 16) (baseT b (nf % 16)) = b := by
    rcases hz2 with h | h
    · rw [Nat.mod_eq_of_lt h, hz, List.set_set, set_self (by omega)]
    · rw [h, set_self (by omega)]
  repeat' with_reducible first
  | refine stm ?_ | refine seg_both ?_ ?_ | refine seg_case (fun x h => ?_) (fun h => ?_) | refine seg_gate (fun h => ?_) (fun h => ?_) | refine seg_need ?_ ?_ | refine cond_v (fun h => ?_) (fun h => ?_)
  | refine seg_eval (by simp -dsimp -implicitDefEqProofs [spAlive, hbl, hll, spFew, hf, c1, c1', spRightT, avTb, hok, hR]; rfl) ?_
  all_goals try first
    | omega
    | exact hok
    | exact ⟨hbl, hll⟩
  refine wp_drawsR (fun ts mm => ts = [(2, .fptr (.agg (tc v (m : Nat) b (.fsl 7 (l.map avOp)))) 0), (3, .fptr (.agg [.v (.int .i64 nv), .v (.int .u8 (nf : Nat)), .v (.int .i64 nq), .v (.int .i64 k), .v (.int .u8 (w : Nat)), .v (.string s)]) 0), (5, .ptr 0 0 0)] ∧
      mm = [.var (tc rv (rm : Nat) rb (.fsl 7 (ros.map avOp)))]) ?_ ?_
  · intro W hW
    repeat' with_reducible first
    | refine stp ?_ | refine seg_both ?_ ?_ | refine seg_case (fun x h => ?_) (fun h => ?_) | refine seg_gate (fun h => ?_) (fun h => ?_) | refine seg_need ?_ ?_ | refine cond_v (fun h => ?_) (fun h => ?_)
    | refine seg_eval (by simp -dsimp -implicitDefEqProofs [hbl, zV_length, spConvT, hok, avTb, spTakeT, hnf, hw2, hr, avTt, hrb, Int.toNat_natCast]; rfl) ?_
    all_goals first
      | omega
      | exact hok
      | (refine hW _ _ ⟨[], [2], ?_, ?_, ?_, ?_⟩ <;> (simp; done))
      | (refine hW _ _ ⟨[], [0], ?_, ?_, ?_, ?_⟩ <;> (simp; done))
      | trace_state
  rintro ts mm ⟨rfl, rfl⟩
  repeat' with_reducible first
  | refine stm ?_ | refine seg_both ?_ ?_ | refine seg_case (fun x h => ?_) (fun h => ?_) | refine seg_gate (fun h => ?_) (fun h => ?_) | refine seg_need ?_ ?_ | refine cond_v (fun h => ?_) (fun h => ?_)
  | refine seg_eval (by simp -dsimp -implicitDefEqProofs [hbl, hrb]; rfl) ?_
  refine wp_loopR (fun ts mm => ts = [(2, .fptr (.agg (tc v (m : Nat) b (.fsl 7 (l.map avOp)))) 0), (3, .fptr (.agg [.v (.int .i64 nv), .v (.int .u8 (nf : Nat)), .v (.int .i64 nq), .v (.int .i64 k), .v (.int .u8 (w : Nat)), .v (.string s)]) 0), (5, .ptr 0 0 0), (10, .osl 1), (11, .v (.slice none 0 0))] ∧
      mm = [.var (tc rv (rm : Nat) rb (.fsl 7 (ros.map avOp))), .arr 66 7 ((oth nf l).map avOp)])
    (fun j ts mm => ∃ i : Nat, i + j = l.length ∧ ts = [(2, .fptr (.agg (tc v (m : Nat) b (.fsl 7 (l.map avOp)))) 0), (3, .fptr (.agg [.v (.int .i64 nv), .v (.int .u8 (nf : Nat)), .v (.int .i64 nq), .v (.int .i64 k), .v (.int .u8 (w : Nat)), .v (.string s)]) 0), (5, .ptr 0 0 0), (10, .osl 1), (11, .v (.slice none 0 0)),
        (51, .fsl 7 (l.map avOp)), (52, .v (.int .i64 l.length)), (53, .v (.int .i64 i))] ∧
      mm = [.var (tc rv (rm : Nat) rb (.fsl 7 (ros.map avOp))), .arr 66 7 ((oth nf (l.take i)).map avOp)]) l.length ?_ ?_ ?_
  · exact ⟨[(10, 66, 7)], [0, 1], by simp [hrb], rfl, 0, by omega, by simp, by simp [oth]⟩
  · rintro W hW j ts mm ⟨i, hi, rfl, rfl⟩
    by_cases hlt : i < l.length
    · obtain ⟨x, hx⟩ : ∃ x, l[i]? = some x := ⟨_, List.getElem?_eq_getElem (by omega)⟩
      have hd : decide ((i : Int) < (l.length : Int)) = true := by rw [decide_eq_true_eq]; omega
      have hd2 : decide (i < l.length) = true := by simp [hlt]
      have h64 : IntKind.wrap .i64 ((i : Int) + 1) = ((i + 1 : Nat) : Int) := by rw [IntWalk.i64_in _ (by have := hbT.2.2.1; simp only at this; omega)]; rfl
      have hst := oth_take (f := nf) hx
      have hul : (oth nf (l.take i)).length ≤ 40 := by
        have h1 := List.length_filter_le (fun o : Op => !(o.f == nf)) (l.take i)
        have h2 := hbT.2.2.1
        simp only [List.length_take] at h1 h2
        unfold oth; omega
      have hul2 : (oth nf (l.take i)).length + 1 ≤ 41 := by omega
      generalize oth nf (l.take i) = U at *
      have hush := ops_shaped U
      have hxsh := op_shaped x
      obtain ⟨xf, xq, ⟨xe, xr, xd, xes, xrs⟩⟩ := x
      simp only [avOp, cOp] at hxsh
      simp only at hst
      by_cases q : xf = nf
      · have n1 : (xf != nf) = false := by simp [q]
        have n1' : ((xf : Int) != (nf : Int)) = false := by simp [q]
        rw [if_pos q] at hst
        repeat' with_reducible first
        | refine stp ?_ | refine seg_both ?_ ?_ | refine seg_case (fun x h => ?_) (fun h => ?_) | refine seg_gate (fun h => ?_) (fun h => ?_) | refine seg_need ?_ ?_ | refine cond_v (fun h => ?_) (fun h => ?_)
        | refine seg_eval (by simp -dsimp -implicitDefEqProofs [avOp, cOp, hd, hd2, hx, h64, n1, n1', hxsh, hul, hul2]; rfl) ?_
        all_goals first
          | omega
          | exact ⟨j - 1, by omega, [], [0, 1], by simp [hrb], rfl, i + 1, by omega, by simp [avOp, cOp], by simp [avOp, cOp, hst]⟩
          | trace_state
      · have n1 : (xf != nf) = true := by simp [q]
        have n1' : ((xf : Int) != (nf : Int)) = true := by simp; omega
        rw [if_neg q] at hst
        repeat' with_reducible first
        | refine stp ?_ | refine seg_both ?_ ?_ | refine seg_case (fun x h => ?_) (fun h => ?_) | refine seg_gate (fun h => ?_) (fun h => ?_) | refine seg_need ?_ ?_ | refine cond_v (fun h => ?_) (fun h => ?_)
        | refine seg_eval (by simp -dsimp -implicitDefEqProofs [avOp, cOp, hd, hd2, hx, h64, n1, n1', hxsh, hul, hul2]; rfl) ?_
        all_goals first
          | omega
          | exact ⟨j - 1, by omega, [], [0, 4], by simp [hrb], rfl, i + 1, by omega, by simp [avOp, cOp], by simp [avOp, cOp, hst]⟩
          | trace_state
    · have hd : decide ((i : Int) < (l.length : Int)) = false := by rw [decide_eq_false_iff_not]; omega
      have hd2 : decide (i < l.length) = false := by simp [hlt]
      have hil : l.take i = l := List.take_of_length_le (by omega)
      rw [hil]
      repeat' with_reducible first
      | refine stp ?_ | refine seg_both ?_ ?_ | refine seg_case (fun x h => ?_) (fun h => ?_) | refine seg_gate (fun h => ?_) (fun h => ?_) | refine seg_need ?_ ?_ | refine cond_v (fun h => ?_) (fun h => ?_)
      | refine seg_eval (by simp -dsimp -implicitDefEqProofs [hd, hd2]; rfl) ?_
      all_goals first
        | omega
        | exact hW _ _ ⟨rfl, rfl⟩
        | trace_state
  rintro ts mm ⟨rfl, rfl⟩
  repeat' with_reducible first
  | refine stp ?_ | refine seg_both ?_ ?_ | refine seg_case (fun x h => ?_) (fun h => ?_) | refine seg_gate (fun h => ?_) (fun h => ?_) | refine seg_need ?_ ?_ | refine cond_v (fun h => ?_) (fun h => ?_)
  | refine seg_eval (by simp -dsimp -implicitDefEqProofs [hbl, hrb, spConvT, avTb, hT]; rfl) ?_
  all_goals try first
    | omega
    | exact hT
  refine wp_loopR (fun ts mm => ts = [(2, .fptr (.agg (tc v (m : Nat) b (.fsl 7 (l.map avOp)))) 0), (3, .fptr (.agg [.v (.int .i64 nv), .v (.int .u8 (nf : Nat)), .v (.int .i64 nq), .v (.int .i64 k), .v (.int .u8 (w : Nat)), .v (.string s)]) 0), (5, .ptr 0 0 0), (10, .osl 1), (11, .osl 2)] ∧
      mm = [.var (tc rv (rm : Nat) rb (.fsl 7 (ros.map avOp))), .arr 66 7 ((oth nf l).map avOp), .arr 66 7 ((oth nf ros).map avOp)])
    (fun j ts mm => ∃ i : Nat, i + j = ros.length ∧ ts = [(2, .fptr (.agg (tc v (m : Nat) b (.fsl 7 (l.map avOp)))) 0), (3, .fptr (.agg [.v (.int .i64 nv), .v (.int .u8 (nf : Nat)), .v (.int .i64 nq), .v (.int .i64 k), .v (.int .u8 (w : Nat)), .v (.string s)]) 0), (5, .ptr 0 0 0), (10, .osl 1), (11, .osl 2),
        (70, .fsl 7 (ros.map avOp)), (71, .v (.int .i64 ros.length)), (72, .v (.int .i64 i))] ∧
      mm = [.var (tc rv (rm : Nat) rb (.fsl 7 (ros.map avOp))), .arr 66 7 ((oth nf l).map avOp), .arr 66 7 ((oth nf (ros.take i)).map avOp)]) ros.length ?_ ?_ ?_
  · exact ⟨[(11, 66, 7)], [0, 1, 2], by simp [hrb], rfl, 0, by omega, by simp, by simp [oth]⟩
  · rintro W hW j ts mm ⟨i, hi, rfl, rfl⟩
    by_cases hlt : i < ros.length
    · obtain ⟨x, hx⟩ : ∃ x, ros[i]? = some x := ⟨_, List.getElem?_eq_getElem (by omega)⟩
      have hd : decide ((i : Int) < (ros.length : Int)) = true := by rw [decide_eq_true_eq]; omega
      have hd2 : decide (i < ros.length) = true := by simp [hlt]
      have h64 : IntKind.wrap .i64 ((i : Int) + 1) = ((i + 1 : Nat) : Int) := by rw [IntWalk.i64_in _ (by have := hB.2.2.1; simp only at this; omega)]; rfl
      have hst := oth_take (f := nf) hx
      have hul : (oth nf (ros.take i)).length ≤ 41 := by
        have h1 := List.length_filter_le (fun o : Op => !(o.f == nf)) (ros.take i)
        have h2 := hB.2.2.1
        simp only [List.length_take] at h1 h2
        unfold oth; omega
      have hul2 : (oth nf (ros.take i)).length + 1 ≤ 42 := by omega
      generalize oth nf (ros.take i) = U at *
      have hush := ops_shaped U
      have hxsh := op_shaped x
      obtain ⟨xf, xq, ⟨xe, xr, xd, xes, xrs⟩⟩ := x
      simp only [avOp, cOp] at hxsh
      simp only at hst
      by_cases q : xf = nf
      · have n1 : (xf != nf) = false := by simp [q]
        have n1' : ((xf : Int) != (nf : Int)) = false := by simp [q]
        rw [if_pos q] at hst
        repeat' with_reducible first
        | refine stp ?_ | refine seg_both ?_ ?_ | refine seg_case (fun x h => ?_) (fun h => ?_) | refine seg_gate (fun h => ?_) (fun h => ?_) | refine seg_need ?_ ?_ | refine cond_v (fun h => ?_) (fun h => ?_)
        | refine seg_eval (by simp -dsimp -implicitDefEqProofs [avOp, cOp, hd, hd2, hx, h64, n1, n1', hxsh, hul, hul2]; rfl) ?_
        all_goals first
          | omega
          | exact ⟨j - 1, by omega, [], [0, 1, 2], by simp [hrb], rfl, i + 1, by omega, by simp [avOp, cOp], by simp [avOp, cOp, hst]⟩
          | trace_state
      · have n1 : (xf != nf) = true := by simp [q]
        have n1' : ((xf : Int) != (nf : Int)) = true := by simp; omega
        rw [if_neg q] at hst
        repeat' with_reducible first
        | refine stp ?_ | refine seg_both ?_ ?_ | refine seg_case (fun x h => ?_) (fun h => ?_) | refine seg_gate (fun h => ?_) (fun h => ?_) | refine seg_need ?_ ?_ | refine cond_v (fun h => ?_) (fun h => ?_)
        | refine seg_eval (by simp -dsimp -implicitDefEqProofs [avOp, cOp, hd, hd2, hx, h64, n1, n1', hxsh, hul, hul2]; rfl) ?_
        all_goals first
          | omega
          | exact ⟨j - 1, by omega, [], [0, 1, 5], by simp [hrb], rfl, i + 1, by omega, by simp [avOp, cOp], by simp [avOp, cOp, hst]⟩
          | trace_state
    · have hd : decide ((i : Int) < (ros.length : Int)) = false := by rw [decide_eq_false_iff_not]; omega
      have hd2 : decide (i < ros.length) = false := by simp [hlt]
      have hil : ros.take i = ros := List.take_of_length_le (by omega)
      rw [hil]
      repeat' with_reducible first
      | refine stp ?_ | refine seg_both ?_ ?_ | refine seg_case (fun x h => ?_) (fun h => ?_) | refine seg_gate (fun h => ?_) (fun h => ?_) | refine seg_need ?_ ?_ | refine cond_v (fun h => ?_) (fun h => ?_)
      | refine seg_eval (by simp -dsimp -implicitDefEqProofs [hd, hd2]; rfl) ?_
      all_goals first
        | omega
        | exact hW _ _ ⟨rfl, rfl⟩
        | trace_state
  rintro ts mm ⟨rfl, rfl⟩
  have hA3 : oth nf ros = oth nf l := hA3
  rw [hA3]
  subst hA1 hA2
  repeat' with_reducible first
  | refine stm ?_ | refine seg_both ?_ ?_ | refine seg_case (fun x h => ?_) (fun h => ?_) | refine seg_gate (fun h => ?_) (fun h => ?_) | refine seg_need ?_ ?_ | refine cond_v (fun h => ?_) (fun h => ?_)
  | refine seg_eval (by simp -dsimp -implicitDefEqProofs [hbl, hrb]; rfl) ?_
  all_goals try omega
  refine wp_drawsR (fun ts mm => ts = [(2, .fptr (.agg (tc rv (rm : Nat) b (.fsl 7 (l.map avOp)))) 0), (5, .ptr 0 0 0), (10, .osl 1), (11, .osl 2), (16, .ptr 3 0 0)] ∧
      mm = [.var (tc rv (rm : Nat) rb (.fsl 7 (ros.map avOp))), .arr 66 7 ((oth nf l).map avOp), .arr 66 7 ((oth nf l).map avOp), .var (vc b)]) ?_ ?_
  · intro W hW
    have hokb := hrd.2.1
    simp only at hokb
    obtain ⟨hba, hbn⟩ := base_at hokb hf16
    have hat := tc_at (v := rv) (m := (rm : Int)) (x := .fsl 7 (l.map avOp)) hba
    have hm16 : Int.tmod (nf : Int) 16 = (nf : Int) % 16 := Int.tmod_eq_emod_of_nonneg (Int.natCast_nonneg _)
    have h16i : (nf : Int) % 16 < 16 := by omega
    have h16n : 0 ≤ (nf : Int) % 16 := by omega
    have h16t : ((nf : Int) % 16).toNat = nf % 16 := by omega
    have h18 : 2 + nf % 16 ≤ 18 := by omega
    have hsp : ∀ x : Nat, splice (vc rb) (nf % 16) [.v (.int .u16 (x : Nat))] = vc (rb.set (nf % 16) x) := fun x => vc_splice rb (nf % 16) x (by omega)
    repeat' with_reducible first
    | refine stp ?_ | refine seg_both ?_ ?_ | refine seg_case (fun x h => ?_) (fun h => ?_) | refine seg_gate (fun h => ?_) (fun h => ?_) | refine seg_need ?_ ?_ | refine cond_v (fun h => ?_) (fun h => ?_)
    | refine seg_eval (by simp -dsimp -implicitDefEqProofs [hbl, hrb, hm16, h16i, h16n, h16t, hf16, h18, hat, hsp, hback, Int.toNat_natCast]; rfl) ?_
    all_goals first
      | omega
      | (refine hW _ _ ⟨[], [0, 1, 2, 3], ?_, ?_, ?_, ?_⟩ <;> (simp [hrb, hbl, hback]; done))
      | trace_state
  · rintro ts mm ⟨rfl, rfl⟩
    have hO : okTb ⟨0, 0, zV, oth nf l⟩ := ⟨by simp, okV_zV, by
      have h1 := List.length_filter_le (fun o : Op => !(o.f == nf)) l
      have h2 := hbT.2.2.1
      simp only at h2 ⊢
      unfold oth; omega, fun o ho => hok.2.2.2 o ((List.mem_filter.1 ho).1)⟩
    have hss : same (⟨0, 0, zV, oth nf l⟩ : Tb) ⟨0, 0, zV, oth nf l⟩ = true := same_self _
    have hev := eqCells_16 hbl hbl
    rw [eqV_self] at hev
    have hz0 := un_tb 0 0 zV (oth nf l)
    simp only [Int.natCast_zero] at hz0
    repeat' with_reducible first
    | refine stp ?_ | refine seg_both ?_ ?_ | refine seg_case (fun x h => ?_) (fun h => ?_) | refine seg_gate (fun h => ?_) (fun h => ?_) | refine seg_need ?_ ?_ | refine cond_v (fun h => ?_) (fun h => ?_)
    | refine seg_eval (by simp -dsimp -implicitDefEqProofs [hbl, hrb, zV_length, borrow, hz0, spSame8, hO, hss, hev, vc_take16]; rfl) ?_
    all_goals first
      | omega
      | exact hO
      | exact post_fin rfl rfl ⟨[], [], rfl, rfl, rfl, rfl⟩
      | trace_state
end Go.Proofs.Ytkbgndebfcjojaa.Am
