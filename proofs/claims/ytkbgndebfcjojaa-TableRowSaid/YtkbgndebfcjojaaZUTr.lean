/-
  What comes of any votes in a row, from an empty table on, is the document's.
-/
import Derived.Test.YtkbgndebfcjojaaZTL
namespace Go.Proofs.Ytkbgndebfcjojaa.Am
set_option linter.unusedSimpArgs false
set_option linter.unusedVariables false
open Go Go.Proofs
set_option maxRecDepth 100000


/-- chantry/chantrylaw08.TableRow -/
def ac_4 : ACode :=
 (.seq
  (.region false [] [⟨some 4, .mov (.c (.bool false)), none, []⟩])
 (.seq
  (.seq
   (.region false [] [⟨some 15, .call 10 [], none, []⟩, ⟨some 16, .un .not (.t 15), none, [15]⟩])
  (.cond (.t 16)
    (.drop [0, 1, 16]
     (.seq
      (.region false [] [⟨some 4, .mov (.c (.bool false)), none, []⟩])
     .ret))
    (.drop [16]
     .skip)))
 (.seq
  (.region false [] [⟨some 17, .mov (.t 0), none, []⟩, ⟨some 18, .bld [.int .i64 0, .int .u16 0, .int .u16 0, .int .u16 0, .int .u16 0, .int .u16 0, .int .u16 0, .int .u16 0, .int .u16 0, .int .u16 0, .int .u16 0, .int .u16 0, .int .u16 0, .int .u16 0, .int .u16 0, .int .u16 0, .int .u16 0, .int .u16 0, .slice none 0 0] [(1, 1, .t 17)], none, [17]⟩, ⟨some 5, .alloc [.int .i64 0, .int .u16 0, .int .u16 0, .int .u16 0, .int .u16 0, .int .u16 0, .int .u16 0, .int .u16 0, .int .u16 0, .int .u16 0, .int .u16 0, .int .u16 0, .int .u16 0, .int .u16 0, .int .u16 0, .int .u16 0, .int .u16 0, .int .u16 0, .slice none 0 0], none, []⟩, ⟨none, .st 19 (.t 5) (.t 18), none, [18]⟩])
 (.seq
  (.region false [] [⟨some 19, .mov (.t 0), none, [0]⟩, ⟨some 20, .bld [.int .i64 0, .int .u16 0, .int .u16 0, .int .u16 0, .int .u16 0, .int .u16 0, .int .u16 0, .int .u16 0, .int .u16 0, .int .u16 0, .int .u16 0, .int .u16 0, .int .u16 0, .int .u16 0, .int .u16 0, .int .u16 0, .int .u16 0, .int .u16 0, .slice none 0 0] [(1, 1, .t 19)], none, [19]⟩, ⟨some 6, .alloc [.int .i64 0, .int .u16 0, .int .u16 0, .int .u16 0, .int .u16 0, .int .u16 0, .int .u16 0, .int .u16 0, .int .u16 0, .int .u16 0, .int .u16 0, .int .u16 0, .int .u16 0, .int .u16 0, .int .u16 0, .int .u16 0, .int .u16 0, .int .u16 0, .slice none 0 0], none, []⟩, ⟨none, .st 19 (.t 6) (.t 20), none, [20]⟩])
 (.seq
  (.seq
   (.region false [] [⟨some 7, .mov (.c (.int .i64 0)), none, []⟩])
  (.block 0
   (.loop [1, 5, 6, 7]
    (.seq
     (.seq
      (.region false [] [⟨some 21, .mov (.t 7), none, []⟩, ⟨some 22, .mov (.t 1), none, []⟩, ⟨some 23, .len false (.t 22), none, [22]⟩, ⟨some 24, .bin false .lss (.t 21) (.t 23), none, [21, 23]⟩, ⟨some 25, .mov (.t 24), none, [24]⟩, ⟨some 26, .mov (.t 7), some (25, true), []⟩, ⟨some 27, .bin false .lss (.t 26) (.c (.int .i64 80)), some (25, true), [26]⟩, ⟨some 28, .pick (.t 25) (.t 27) (.c (.bool false)), none, [25, 27]⟩])
     (.cond (.t 28)
       (.drop [28]
        .skip)
       (.drop [1, 5, 6, 7, 28]
        (.exit 0))))
    (.seq
     (.block 1
      (.seq
       (.region false [] [⟨some 31, .mov (.t 1), none, []⟩, ⟨some 32, .mov (.t 7), none, []⟩, ⟨some 33, .iax 6 (.t 31) (.t 32), none, [31, 32]⟩, ⟨some 34, .ld true 6 (.t 33), none, [33]⟩, ⟨some 8, .alloc [.int .i64 0, .int .u8 0, .int .i64 0, .int .i64 0, .int .u8 0, .string ⟨#[]⟩], none, []⟩, ⟨none, .st 6 (.t 8) (.t 34), none, [34]⟩])
      (.seal_ 8
       (.seq
        (.seq
         (.region false [] [⟨some 35, .fad 5 (.t 8), none, []⟩, ⟨some 36, .ld false 1 (.t 35), none, [35]⟩, ⟨some 37, .len true (.t 36), none, [36]⟩, ⟨some 38, .bin false .gtr (.t 37) (.c (.int .i64 1100)), none, [37]⟩])
        (.cond (.t 38)
          (.drop [8, 38]
           (.exit 1))
          (.drop [38]
           .skip)))
       (.seq
        (.region false [] [⟨some 40, .ld true 19 (.t 5), none, []⟩, ⟨some 41, .fad 0 (.t 8), none, []⟩, ⟨some 42, .ld true 3 (.t 41), none, [41]⟩, ⟨some 43, .fad 3 (.t 8), none, []⟩, ⟨some 44, .ld false 1 (.t 43), none, [43]⟩, ⟨some 45, .fad 4 (.t 8), none, []⟩, ⟨some 46, .ld false 1 (.t 45), none, [45]⟩, ⟨some 47, .fad 5 (.t 8), none, []⟩, ⟨some 48, .ld false 1 (.t 47), none, [47]⟩, ⟨some 49, .call 12 [.t 40, .t 42, .t 44, .t 46, .t 48], none, [40, 42, 44, 46, 48]⟩, ⟨some 39, .mov (.t 49), none, [49]⟩, ⟨some 50, .ext 0 (.t 39), none, []⟩, ⟨some 51, .ext 1 (.t 39), none, []⟩, ⟨some 52, .ext 2 (.t 39), none, []⟩, ⟨some 53, .ext 3 (.t 39), none, []⟩, ⟨some 54, .ext 4 (.t 39), none, [39]⟩, ⟨some 9, .alloc [.int .i64 0, .int .u16 0, .int .u16 0, .int .u16 0, .int .u16 0, .int .u16 0, .int .u16 0, .int .u16 0, .int .u16 0, .int .u16 0, .int .u16 0, .int .u16 0, .int .u16 0, .int .u16 0, .int .u16 0, .int .u16 0, .int .u16 0, .int .u16 0, .slice none 0 0], none, []⟩, ⟨none, .st 19 (.t 9) (.t 50), none, [50]⟩, ⟨some 10, .mov (.t 51), none, [51]⟩, ⟨some 11, .mov (.t 52), none, [52]⟩, ⟨some 12, .mov (.t 53), none, [53]⟩, ⟨some 13, .mov (.t 54), none, [54]⟩])
       (.seal_ 9
        (.seq
         (.region false [] [⟨some 55, .ld true 19 (.t 6), none, []⟩, ⟨some 56, .fad 0 (.t 8), none, []⟩, ⟨some 57, .ld true 3 (.t 56), none, [56]⟩, ⟨some 58, .fad 3 (.t 8), none, []⟩, ⟨some 59, .ld false 1 (.t 58), none, [58]⟩, ⟨some 60, .fad 4 (.t 8), none, []⟩, ⟨some 61, .ld false 1 (.t 60), none, [60]⟩, ⟨some 62, .fad 5 (.t 8), none, [8]⟩, ⟨some 63, .ld false 1 (.t 62), none, [62]⟩, ⟨some 64, .call 14 [.t 55, .t 57, .t 59, .t 61, .t 63], none, [55, 57, 59, 61, 63]⟩, ⟨some 14, .alloc [.int .i64 0, .int .u16 0, .int .u16 0, .int .u16 0, .int .u16 0, .int .u16 0, .int .u16 0, .int .u16 0, .int .u16 0, .int .u16 0, .int .u16 0, .int .u16 0, .int .u16 0, .int .u16 0, .int .u16 0, .int .u16 0, .int .u16 0, .int .u16 0, .slice none 0 0, .slice none 0 0, .string ⟨#[]⟩, .bool false, .int .i64 0], none, []⟩, ⟨none, .st 23 (.t 14) (.t 64), none, [64]⟩])
        (.seal_ 14
         (.seq
          (.region false [] [⟨some 65, .ld true 19 (.t 9), none, [9]⟩, ⟨none, .st 19 (.t 5) (.t 65), none, [65]⟩])
         (.seq
          (.region false [] [⟨some 66, .fad 0 (.t 14), none, []⟩, ⟨some 67, .ld true 19 (.t 66), none, [66]⟩, ⟨none, .st 19 (.t 6) (.t 67), none, [67]⟩])
         (.seq
          (.draws (.alt 0 ⟨some 68, .ld true 19 (.t 5), none, []⟩ (.alt 1 ⟨some 69, .call 18 [.t 68], none, []⟩ (.alt 2 ⟨some 70, .ld true 19 (.t 6), none, []⟩ (.alt 3 ⟨some 71, .call 17 [.t 69, .t 70], none, []⟩ (.tak 4 ⟨some 72, .un .not (.t 71), none, []⟩ (.tak 5 ⟨some 73, .mov (.t 72), none, []⟩ (.alt 6 ⟨some 74, .ld true 19 (.t 5), some (73, false), []⟩ (.alt 7 ⟨some 75, .call 15 [.t 74], some (73, false), []⟩ (.tak 8 ⟨some 76, .un .not (.t 75), some (73, false), []⟩ (.tak 9 ⟨some 77, .pick (.t 73) (.c (.bool true)) (.t 76), none, []⟩ (.tak 10 ⟨some 78, .mov (.t 77), none, []⟩ (.tak 11 ⟨some 79, .mov (.t 10), some (78, false), []⟩ (.tak 12 ⟨some 80, .fad 19 (.t 14), some (78, false), []⟩ (.tak 13 ⟨some 81, .ld false 1 (.t 80), some (78, false), []⟩ (.alt 14 ⟨some 82, .call 19 [.t 79, .t 81], some (78, false), []⟩ (.tak 15 ⟨some 83, .un .not (.t 82), some (78, false), []⟩ (.tak 16 ⟨some 84, .pick (.t 78) (.c (.bool true)) (.t 83), none, []⟩ (.tak 17 ⟨some 85, .mov (.t 84), none, []⟩ (.tak 18 ⟨some 86, .mov (.t 11), some (85, false), []⟩ (.tak 19 ⟨some 87, .fad 20 (.t 14), some (85, false), []⟩ (.tak 20 ⟨some 88, .ld false 1 (.t 87), some (85, false), []⟩ (.tak 21 ⟨some 89, .bin false .neq (.t 86) (.t 88), some (85, false), []⟩ (.tak 22 ⟨some 90, .pick (.t 85) (.c (.bool true)) (.t 89), none, []⟩ (.tak 23 ⟨some 91, .mov (.t 90), none, []⟩ (.tak 24 ⟨some 92, .mov (.t 12), some (91, false), []⟩ (.tak 25 ⟨some 93, .fad 21 (.t 14), some (91, false), []⟩ (.tak 26 ⟨some 94, .ld false 1 (.t 93), some (91, false), []⟩ (.tak 27 ⟨some 95, .bin true .neq (.t 92) (.t 94), some (91, false), []⟩ (.tak 28 ⟨some 96, .pick (.t 91) (.c (.bool true)) (.t 95), none, []⟩ (.tak 29 ⟨some 97, .mov (.t 96), none, []⟩ (.tak 30 ⟨some 98, .mov (.t 13), some (97, false), []⟩ (.tak 31 ⟨some 99, .fad 22 (.t 14), some (97, false), []⟩ (.tak 32 ⟨some 100, .ld false 1 (.t 99), some (97, false), []⟩ (.tak 33 ⟨some 101, .bin false .neq (.t 98) (.t 100), some (97, false), []⟩ (.tak 34 ⟨some 102, .pick (.t 97) (.c (.bool true)) (.t 101), none, []⟩ .done)))))))))))))))))))) .stop))))))) .stop) .stop))) .stop) .stop) (.alt 2 ⟨some 70, .ld true 19 (.t 6), none, []⟩ (.alt 1 ⟨some 69, .call 18 [.t 68], none, []⟩ (.alt 3 ⟨some 71, .call 17 [.t 69, .t 70], none, []⟩ (.tak 4 ⟨some 72, .un .not (.t 71), none, []⟩ (.tak 5 ⟨some 73, .mov (.t 72), none, []⟩ (.alt 6 ⟨some 74, .ld true 19 (.t 5), some (73, false), []⟩ (.alt 7 ⟨some 75, .call 15 [.t 74], some (73, false), []⟩ (.tak 8 ⟨some 76, .un .not (.t 75), some (73, false), []⟩ (.tak 9 ⟨some 77, .pick (.t 73) (.c (.bool true)) (.t 76), none, []⟩ (.tak 10 ⟨some 78, .mov (.t 77), none, []⟩ (.tak 11 ⟨some 79, .mov (.t 10), some (78, false), []⟩ (.tak 12 ⟨some 80, .fad 19 (.t 14), some (78, false), []⟩ (.tak 13 ⟨some 81, .ld false 1 (.t 80), some (78, false), []⟩ (.alt 14 ⟨some 82, .call 19 [.t 79, .t 81], some (78, false), []⟩ (.tak 15 ⟨some 83, .un .not (.t 82), some (78, false), []⟩ (.tak 16 ⟨some 84, .pick (.t 78) (.c (.bool true)) (.t 83), none, []⟩ (.tak 17 ⟨some 85, .mov (.t 84), none, []⟩ (.tak 18 ⟨some 86, .mov (.t 11), some (85, false), []⟩ (.tak 19 ⟨some 87, .fad 20 (.t 14), some (85, false), []⟩ (.tak 20 ⟨some 88, .ld false 1 (.t 87), some (85, false), []⟩ (.tak 21 ⟨some 89, .bin false .neq (.t 86) (.t 88), some (85, false), []⟩ (.tak 22 ⟨some 90, .pick (.t 85) (.c (.bool true)) (.t 89), none, []⟩ (.tak 23 ⟨some 91, .mov (.t 90), none, []⟩ (.tak 24 ⟨some 92, .mov (.t 12), some (91, false), []⟩ (.tak 25 ⟨some 93, .fad 21 (.t 14), some (91, false), []⟩ (.tak 26 ⟨some 94, .ld false 1 (.t 93), some (91, false), []⟩ (.tak 27 ⟨some 95, .bin true .neq (.t 92) (.t 94), some (91, false), []⟩ (.tak 28 ⟨some 96, .pick (.t 91) (.c (.bool true)) (.t 95), none, []⟩ (.tak 29 ⟨some 97, .mov (.t 96), none, []⟩ (.tak 30 ⟨some 98, .mov (.t 13), some (97, false), []⟩ (.tak 31 ⟨some 99, .fad 22 (.t 14), some (97, false), []⟩ (.tak 32 ⟨some 100, .ld false 1 (.t 99), some (97, false), []⟩ (.tak 33 ⟨some 101, .bin false .neq (.t 98) (.t 100), some (97, false), []⟩ (.tak 34 ⟨some 102, .pick (.t 97) (.c (.bool true)) (.t 101), none, []⟩ .done)))))))))))))))))))) .stop))))))) .stop) .stop))) .stop) .stop) .stop)) (.alt 2 ⟨some 70, .ld true 19 (.t 6), none, []⟩ (.alt 0 ⟨some 68, .ld true 19 (.t 5), none, []⟩ (.alt 1 ⟨some 69, .call 18 [.t 68], none, []⟩ (.alt 3 ⟨some 71, .call 17 [.t 69, .t 70], none, []⟩ (.tak 4 ⟨some 72, .un .not (.t 71), none, []⟩ (.tak 5 ⟨some 73, .mov (.t 72), none, []⟩ (.alt 6 ⟨some 74, .ld true 19 (.t 5), some (73, false), []⟩ (.alt 7 ⟨some 75, .call 15 [.t 74], some (73, false), []⟩ (.tak 8 ⟨some 76, .un .not (.t 75), some (73, false), []⟩ (.tak 9 ⟨some 77, .pick (.t 73) (.c (.bool true)) (.t 76), none, []⟩ (.tak 10 ⟨some 78, .mov (.t 77), none, []⟩ (.tak 11 ⟨some 79, .mov (.t 10), some (78, false), []⟩ (.tak 12 ⟨some 80, .fad 19 (.t 14), some (78, false), []⟩ (.tak 13 ⟨some 81, .ld false 1 (.t 80), some (78, false), []⟩ (.alt 14 ⟨some 82, .call 19 [.t 79, .t 81], some (78, false), []⟩ (.tak 15 ⟨some 83, .un .not (.t 82), some (78, false), []⟩ (.tak 16 ⟨some 84, .pick (.t 78) (.c (.bool true)) (.t 83), none, []⟩ (.tak 17 ⟨some 85, .mov (.t 84), none, []⟩ (.tak 18 ⟨some 86, .mov (.t 11), some (85, false), []⟩ (.tak 19 ⟨some 87, .fad 20 (.t 14), some (85, false), []⟩ (.tak 20 ⟨some 88, .ld false 1 (.t 87), some (85, false), []⟩ (.tak 21 ⟨some 89, .bin false .neq (.t 86) (.t 88), some (85, false), []⟩ (.tak 22 ⟨some 90, .pick (.t 85) (.c (.bool true)) (.t 89), none, []⟩ (.tak 23 ⟨some 91, .mov (.t 90), none, []⟩ (.tak 24 ⟨some 92, .mov (.t 12), some (91, false), []⟩ (.tak 25 ⟨some 93, .fad 21 (.t 14), some (91, false), []⟩ (.tak 26 ⟨some 94, .ld false 1 (.t 93), some (91, false), []⟩ (.tak 27 ⟨some 95, .bin true .neq (.t 92) (.t 94), some (91, false), []⟩ (.tak 28 ⟨some 96, .pick (.t 91) (.c (.bool true)) (.t 95), none, []⟩ (.tak 29 ⟨some 97, .mov (.t 96), none, []⟩ (.tak 30 ⟨some 98, .mov (.t 13), some (97, false), []⟩ (.tak 31 ⟨some 99, .fad 22 (.t 14), some (97, false), []⟩ (.tak 32 ⟨some 100, .ld false 1 (.t 99), some (97, false), []⟩ (.tak 33 ⟨some 101, .bin false .neq (.t 98) (.t 100), some (97, false), []⟩ (.tak 34 ⟨some 102, .pick (.t 97) (.c (.bool true)) (.t 101), none, []⟩ .done)))))))))))))))))))) .stop))))))) .stop) .stop))) .stop) .stop) .stop) .stop)) [[], [0], [], [1, 2, 1], [3], [4, 3], [5], [6, 5, 5], [7, 5], [5, 8], [9, 7], [10], [10], [12, 10], [11, 13, 10, 10], [14, 10], [10, 15], [16, 14], [17], [17], [19, 17], [18, 20, 17], [17, 21], [22, 17], [23], [23], [25, 23], [24, 26, 23], [23, 27], [28, 23], [29], [29], [31, 29], [30, 32, 29], [29, 33]] [⟨some 68, .ld true 19 (.t 5), none, []⟩, ⟨some 69, .call 18 [.t 68], none, []⟩, ⟨some 70, .ld true 19 (.t 6), none, []⟩, ⟨some 71, .call 17 [.t 69, .t 70], none, []⟩, ⟨some 72, .un .not (.t 71), none, []⟩, ⟨some 73, .mov (.t 72), none, []⟩, ⟨some 74, .ld true 19 (.t 5), some (73, false), []⟩, ⟨some 75, .call 15 [.t 74], some (73, false), []⟩, ⟨some 76, .un .not (.t 75), some (73, false), []⟩, ⟨some 77, .pick (.t 73) (.c (.bool true)) (.t 76), none, []⟩, ⟨some 78, .mov (.t 77), none, []⟩, ⟨some 79, .mov (.t 10), some (78, false), []⟩, ⟨some 80, .fad 19 (.t 14), some (78, false), []⟩, ⟨some 81, .ld false 1 (.t 80), some (78, false), []⟩, ⟨some 82, .call 19 [.t 79, .t 81], some (78, false), []⟩, ⟨some 83, .un .not (.t 82), some (78, false), []⟩, ⟨some 84, .pick (.t 78) (.c (.bool true)) (.t 83), none, []⟩, ⟨some 85, .mov (.t 84), none, []⟩, ⟨some 86, .mov (.t 11), some (85, false), []⟩, ⟨some 87, .fad 20 (.t 14), some (85, false), []⟩, ⟨some 88, .ld false 1 (.t 87), some (85, false), []⟩, ⟨some 89, .bin false .neq (.t 86) (.t 88), some (85, false), []⟩, ⟨some 90, .pick (.t 85) (.c (.bool true)) (.t 89), none, []⟩, ⟨some 91, .mov (.t 90), none, []⟩, ⟨some 92, .mov (.t 12), some (91, false), []⟩, ⟨some 93, .fad 21 (.t 14), some (91, false), []⟩, ⟨some 94, .ld false 1 (.t 93), some (91, false), []⟩, ⟨some 95, .bin true .neq (.t 92) (.t 94), some (91, false), []⟩, ⟨some 96, .pick (.t 91) (.c (.bool true)) (.t 95), none, []⟩, ⟨some 97, .mov (.t 96), none, []⟩, ⟨some 98, .mov (.t 13), some (97, false), []⟩, ⟨some 99, .fad 22 (.t 14), some (97, false), []⟩, ⟨some 100, .ld false 1 (.t 99), some (97, false), []⟩, ⟨some 101, .bin false .neq (.t 98) (.t 100), some (97, false), []⟩, ⟨some 102, .pick (.t 97) (.c (.bool true)) (.t 101), none, []⟩])
         (.drop [10, 11, 12, 13, 14, 68, 69, 70, 71, 72, 73, 74, 75, 76, 77, 78, 79, 80, 81, 82, 83, 84, 85, 86, 87, 88, 89, 90, 91, 92, 93, 94, 95, 96, 97, 98, 99, 100, 101]
          (.pack [1, 5, 6, 7, 102]
           (.cond (.t 102)
             (.drop [1, 5, 6, 7, 102]
              (.seq
               (.region false [] [⟨some 4, .mov (.c (.bool false)), none, []⟩])
              .ret))
             (.drop [102]
              .skip)))))))))))))))
    (.region false [] [⟨some 29, .mov (.t 7), none, [7]⟩, ⟨some 30, .bin false .add (.t 29) (.c (.int .i64 1)), none, [29]⟩, ⟨some 7, .mov (.t 30), none, [30]⟩]))))))
 (.seq
  (.region false [] [⟨some 4, .mov (.c (.bool true)), none, []⟩])
 .ret))))))
def rs_4 : List ARes := [.tmp 4]
theorem g_4 : Good Try.prog 4 ac_4 rs_4 := ⟨Try.f4, Try.f4.body.getD .skip, by kernel_rfl, by kernel_rfl, by kernel_rfl, ⟨by kernel_rfl, by kernel_rfl⟩, by kernel_rfl, by kernel_rfl⟩
theorem ok_4 {Γ : Env} (hΓ : EnvOk Try.prog Γ) (sp : Spec) (h : WB Γ ac_4 rs_4 sp) : CallOk Try.prog 4 sp := g_4.ok hΓ mix_ok sp h

end Go.Proofs.Ytkbgndebfcjojaa.Am
namespace Go.Proofs.Ytkbgndebfcjojaa.Am
set_option linter.unusedSimpArgs false
set_option linter.unusedVariables false
open Go Go.Proofs
attribute [local irreducible] wpA
attribute [-simp] splice fix1

noncomputable def spTableRow : Spec := sp2 (avI .u16) avAcs (fun m l => (0 ≤ m ∧ m < 65536) ∧ (∀ a ∈ l, okAc a) ∧ l.length ≤ 9223372036854775807) fun _ _ => .v (.bool true)
set_option maxHeartbeats 32000000 in
theorem tableRow_ok : CallOk Try.prog 4 spTableRow := by
  refine ok_4 (Env.put_ok [] (Env.put_ok [] (Env.put_ok [] (Env.put_ok [] (Env.put_ok [] (Env.put_ok [] (Env.put_ok [] (Env.none_ok _) alive_ok) (CallOk.fixD fxTb takeT_ok)) (CallOk.fixD fxTb takeTR_ok)) rightT_ok) ours8_ok) same8_ok) outs_ok) spTableRow (wb_sp2 ?_)
  intro m0 l ⟨⟨hm0, hm1⟩, hl, hll⟩
  obtain ⟨m, rfl⟩ : ∃ m : Nat, m0 = (m : Int) := ⟨m0.toNat, by omega⟩
  have hm : m < 65536 := by omega
  simp only [avI, avAcs]
  unfold ac_4
  repeat' with_reducible first
  | refine stp ?_ | refine seg_both ?_ ?_ | refine seg_case (fun x h => ?_) (fun h => ?_) | refine seg_gate (fun h => ?_) (fun h => ?_) | refine seg_need ?_ ?_ | refine cond_v (fun h => ?_) (fun h => ?_)
  | refine seg_eval (by simp -dsimp -implicitDefEqProofs [spAlive, zV_length]; rfl) ?_
  refine wp_loop' (fun j ts mm => ∃ (i : Nat) (t : Tb) (x y : AV), i + j = 80 ∧ bT i t ∧ rightT t = true ∧ TX t.os x ∧ TX t.os y ∧
    ts = [(1, .fsl 6 (l.map avAc)), (5, .ptr 0 0 0), (6, .ptr 1 0 0), (7, .v (.int .i64 i))] ∧ mm = [.var (tc t.v (t.m : Nat) t.b x), .var (tc t.v (t.m : Nat) t.b y)]) 80 ?_ ?_
  · exact ⟨[], [0, 1], by simp [zV_length], by simp, 0, ⟨0, m, zV, []⟩, _, _, rfl, bT_zero hm, right_zT m, .inr ⟨rfl, rfl⟩, .inr ⟨rfl, rfl⟩, by simp, by simp [zV_length]⟩
  · rintro j ts mm ⟨i, ⟨v, tm, b, os⟩, x, y, hij, hbT, hR, hx, hy, rfl, rfl⟩
    have hbl := hbT.2.1.1
    simp only at hbl hx hy
    have x1 := hx.facts
    have y1 := hy.facts
    by_cases q1 : i < l.length
    · have d1 : decide ((i : Int) < (l.length : Int)) = true := by rw [decide_eq_true_eq]; omega
      have d1' : decide (i < l.length) = true := by simp [q1]
      by_cases q2 : i < 80
      · have d2 : decide ((i : Int) < 80) = true := by rw [decide_eq_true_eq]; omega
        have d2' : decide (i < 80) = true := by simp [q2]
        have h64 : IntKind.wrap .i64 ((i : Int) + 1) = ((i + 1 : Nat) : Int) := by rw [IntWalk.i64_in _ (by omega)]; rfl
        obtain ⟨a, ha⟩ : ∃ a, l[i]? = some a := ⟨_, List.getElem?_eq_getElem q1⟩
        obtain ⟨hnf, hnq, hw⟩ := hl a (List.mem_of_getElem? ha)
        obtain ⟨⟨nv, nf, nq⟩, k, w, s⟩ := a
        simp only at hnf hnq hw
        have hnf2 : (nf : Int) < 256 := by omega
        have hw2 : (w : Int) < 256 := by omega
        by_cases hs : 1100 < s.size
        · have c1 : decide (1100 < s.size) = true := by simp [hs]
          have c1' : decide ((1100 : Int) < (s.size : Int)) = true := by rw [decide_eq_true_eq]; omega
          repeat' with_reducible first
          | refine stm ?_ | refine seg_both ?_ ?_ | refine seg_case (fun x h => ?_) (fun h => ?_) | refine seg_gate (fun h => ?_) (fun h => ?_) | refine seg_need ?_ ?_ | refine cond_v (fun h => ?_) (fun h => ?_)
          | refine seg_eval (by simp -dsimp -implicitDefEqProofs [avAc, d1, d1', d2, d2', ha, c1, c1', h64]; rfl) ?_
          all_goals first
            | omega
            | exact ⟨j - 1, by omega, [], [0, 1], by simp [x1, y1, hbl], by simp, i + 1, ⟨v, tm, b, os⟩, x, y, by omega, bT_up hbT (Nat.le_succ i), hR, hx, hy, by simp, by simp [x1, y1]⟩
            | trace_state
        · have c1 : decide (1100 < s.size) = false := by simp; omega
          have c1' : decide ((1100 : Int) < (s.size : Int)) = false := by rw [decide_eq_false_iff_not]; omega
          have hok := bT_ok hbT (by omega)
          have hB := take_b hbT ⟨nv, nf, nq⟩ k w s hnf
          have hT := bT_ok hB (by omega)
          have hO := take_o ⟨v, tm, b, os⟩ ⟨nv, nf, nq⟩ k w s
          have hR2 := take_right (n := ⟨nv, nf, nq⟩) (k := k) (w := w) (s := s) hbT.1 hbT.2.1 hR
          have hX := take_x ⟨v, tm, b, os⟩ ⟨nv, nf, nq⟩ k w s
          obtain ⟨r, hr⟩ : ∃ r, takeT ⟨v, tm, b, os⟩ ⟨nv, nf, nq⟩ k w s = r := ⟨_, rfl⟩
          rw [hr] at hB hT hO hR2 hX
          obtain ⟨⟨rv, rm, rb, ros⟩, ro, rs, ri, rx⟩ := r
          simp only at hB hT hO hR2 hX
          have hrb := hT.2.1.1
          simp only at hrb
          have hO2 : ro.length ≤ 1000001 := by omega
          have hss : same (⟨rv, rm, rb, ros⟩ : Tb) ⟨rv, rm, rb, ros⟩ = true := same_self _
          have hoo : same ro ro = true := same_self _
          have hbb : ((rs == rs) : Bool) = true := by rw [beq_bytes]; simp
          have hsn : (rs != rs) = false := by simp [bne, hbb]
          have hxw : IntKind.wrap .i64 rx = rx := IntWalk.i64_in _ (by omega)
          repeat' with_reducible first
          | refine stm ?_ | refine seg_both ?_ ?_ | refine seg_case (fun x h => ?_) (fun h => ?_) | refine seg_gate (fun h => ?_) (fun h => ?_) | refine seg_need ?_ ?_ | refine cond_v (fun h => ?_) (fun h => ?_)
          | refine seg_eval (by simp -dsimp -implicitDefEqProofs [avAc, d1, d1', d2, d2', ha, c1, c1', x1, y1, hbl, hrb, zV_length, spTakeT, spTakeTR, hok, hnf, hw2, hr, avTt, avTr, avTb, Int.toNat_natCast, fxTb]; rfl) ?_
          all_goals try first
            | omega
            | exact hok
          refine wp_drawsR (fun ts mm => ts = [(1, .fsl 6 (l.map avAc)), (5, .ptr 0 0 0), (6, .ptr 1 0 0), (7, .v (.int .i64 i)), (102, .v (.bool false))] ∧ mm = [.var (tc rv (rm : Nat) rb (.fsl 7 (ros.map avOp))), .var (tc rv (rm : Nat) rb (.fsl 7 (ros.map avOp)))]) ?_ ?_
          · intro W hW
            repeat' with_reducible first
            | refine stp ?_ | refine seg_both ?_ ?_ | refine seg_case (fun x h => ?_) (fun h => ?_) | refine seg_gate (fun h => ?_) (fun h => ?_) | refine seg_need ?_ ?_ | refine cond_v (fun h => ?_) (fun h => ?_)
            | refine seg_eval (by simp -dsimp -implicitDefEqProofs [hrb, spConvT, spRightT, avTb, hT, hR2, spSame8, hss, spOuts, avOus, hO2, hoo, hbb, hsn, hxw]; rfl) ?_
            all_goals first
              | omega
              | exact hT
              | (refine hW _ _ ⟨[], [0, 1], ?_, ?_, ?_, ?_⟩ <;> (simp [hrb]; done))
              | trace_state
          · rintro ts mm ⟨rfl, rfl⟩
            repeat' with_reducible first
            | refine stp ?_ | refine seg_both ?_ ?_ | refine seg_case (fun x h => ?_) (fun h => ?_) | refine seg_gate (fun h => ?_) (fun h => ?_) | refine seg_need ?_ ?_ | refine cond_v (fun h => ?_) (fun h => ?_)
            | refine seg_eval (by simp -dsimp -implicitDefEqProofs [h64, hrb]; rfl) ?_
            all_goals first
              | omega
              | exact ⟨j - 1, by omega, [], [0, 1], by simp [hrb], by simp, i + 1, ⟨rv, rm, rb, ros⟩, _, _, by omega, hB, hR2, .inl rfl, .inl rfl, by simp, by simp⟩
              | trace_state
      · have d2 : decide ((i : Int) < 80) = false := by rw [decide_eq_false_iff_not]; omega
        have d2' : decide (i < 80) = false := by simp [q2]
        repeat' with_reducible first
        | refine stp ?_ | refine seg_both ?_ ?_ | refine seg_case (fun x h => ?_) (fun h => ?_) | refine seg_gate (fun h => ?_) (fun h => ?_) | refine seg_need ?_ ?_ | refine cond_v (fun h => ?_) (fun h => ?_)
        | refine seg_eval (by simp -dsimp -implicitDefEqProofs [d1, d1', d2, d2']; rfl) ?_
        all_goals first
          | omega
          | exact post_fin rfl rfl ⟨[], [], rfl, rfl, rfl, rfl⟩
          | trace_state
    · have d1 : decide ((i : Int) < (l.length : Int)) = false := by rw [decide_eq_false_iff_not]; omega
      have d1' : decide (i < l.length) = false := by simp [q1]
      repeat' with_reducible first
      | refine stp ?_ | refine seg_both ?_ ?_ | refine seg_case (fun x h => ?_) (fun h => ?_) | refine seg_gate (fun h => ?_) (fun h => ?_) | refine seg_need ?_ ?_ | refine cond_v (fun h => ?_) (fun h => ?_)
      | refine seg_eval (by simp -dsimp -implicitDefEqProofs [d1, d1']; rfl) ?_
      all_goals first
        | omega
        | exact post_fin rfl rfl ⟨[], [], rfl, rfl, rfl, rfl⟩
        | trace_state
end Go.Proofs.Ytkbgndebfcjojaa.Am
