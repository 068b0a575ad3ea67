/-
  THE FUNCTIONS' ABSTRACT CODE, as Lean's own reduction of compCode printed it, with notes (genac.py); each is held against the translation by the kernel.
-/
import Derived.Test.YtbponegjfccgfaaProg
import Derived.Test.YtbponegjfccgfaaCode
namespace Go.Proofs.Ytbponegjfccgfaa.Am
set_option linter.unusedSimpArgs false
set_option linter.unusedVariables false
open Go Go.Proofs
set_option maxRecDepth 100000


/-- chantry/chantrylaw13.FlushPuts -/
def ac_3 : ACode :=
 (.seq
  (.region false [] [⟨some 3, .box (.t 0), none, [0]⟩, ⟨some 4, .box (.t 1), none, [1]⟩, ⟨some 5, .box (.t 2), none, [2]⟩, ⟨some 6, .mov (.c (.bool false)), none, []⟩])
 (.seal_ 5
  (.seal_ 4
   (.seal_ 3
    (.seq
     (.seq
      (.region false [] [⟨some 15, .call 13 [], none, []⟩, ⟨some 16, .un .not (.t 15), none, [15]⟩])
     (.cond (.t 16)
       (.drop [3, 4, 5, 16]
        (.seq
         (.region false [] [⟨some 6, .mov (.c (.bool false)), none, []⟩])
        .ret))
       (.drop [16]
        .skip)))
    (.seq
     (.seq
      (.region false [] [⟨some 17, .fad 1 (.t 3), none, []⟩, ⟨some 18, .ld false 1 (.t 17), none, [17]⟩, ⟨some 19, .len false (.t 18), none, [18]⟩, ⟨some 20, .bin false .gtr (.t 19) (.c (.int .i64 40)), none, [19]⟩])
     (.cond (.t 20)
       (.drop [3, 4, 5, 20]
        (.seq
         (.region false [] [⟨some 6, .mov (.c (.bool true)), none, []⟩])
        .ret))
       (.drop [20]
        .skip)))
    (.seq
     (.draws (.tak 0 ⟨some 22, .ld true 2 (.t 3), none, []⟩ (.tak 2 ⟨some 24, .ld true 17 (.t 4), none, []⟩ (.alt 1 ⟨some 23, .call 15 [.t 22], none, []⟩ (.alt 3 ⟨some 25, .call 14 [.t 23, .t 24], none, []⟩ (.tak 4 ⟨some 21, .mov (.t 25), none, []⟩ (.tak 5 ⟨some 26, .ext 0 (.t 21), none, []⟩ (.tak 6 ⟨some 27, .ext 1 (.t 21), none, []⟩ (.alt 7 ⟨some 7, .alloc [.int .u16 0, .slice none 0 0], none, []⟩ (.alt 8 ⟨none, .st 2 (.t 7) (.t 26), none, []⟩ (.tak 9 ⟨some 8, .mov (.t 27), none, []⟩ .done) .stop) .stop)))) (.alt 7 ⟨some 7, .alloc [.int .u16 0, .slice none 0 0], none, []⟩ (.alt 3 ⟨some 25, .call 14 [.t 23, .t 24], none, []⟩ (.tak 4 ⟨some 21, .mov (.t 25), none, []⟩ (.tak 5 ⟨some 26, .ext 0 (.t 21), none, []⟩ (.tak 6 ⟨some 27, .ext 1 (.t 21), none, []⟩ (.alt 8 ⟨none, .st 2 (.t 7) (.t 26), none, []⟩ (.tak 9 ⟨some 8, .mov (.t 27), none, []⟩ .done) .stop)))) .stop) .stop)) (.alt 7 ⟨some 7, .alloc [.int .u16 0, .slice none 0 0], none, []⟩ (.alt 1 ⟨some 23, .call 15 [.t 22], none, []⟩ (.alt 3 ⟨some 25, .call 14 [.t 23, .t 24], none, []⟩ (.tak 4 ⟨some 21, .mov (.t 25), none, []⟩ (.tak 5 ⟨some 26, .ext 0 (.t 21), none, []⟩ (.tak 6 ⟨some 27, .ext 1 (.t 21), none, []⟩ (.alt 8 ⟨none, .st 2 (.t 7) (.t 26), none, []⟩ (.tak 9 ⟨some 8, .mov (.t 27), none, []⟩ .done) .stop)))) .stop) .stop) .stop)))) [[], [0], [], [1, 2, 1], [3], [4], [4], [], [7, 5, 3, 0, 1, 2, 3, 4, 5, 7], [6, 8, 0, 1, 2, 3, 4, 5, 6, 7, 8]] [⟨some 22, .ld true 2 (.t 3), none, []⟩, ⟨some 23, .call 15 [.t 22], none, []⟩, ⟨some 24, .ld true 17 (.t 4), none, []⟩, ⟨some 25, .call 14 [.t 23, .t 24], none, []⟩, ⟨some 21, .mov (.t 25), none, []⟩, ⟨some 26, .ext 0 (.t 21), none, []⟩, ⟨some 27, .ext 1 (.t 21), none, []⟩, ⟨some 7, .alloc [.int .u16 0, .slice none 0 0], none, []⟩, ⟨none, .st 2 (.t 7) (.t 26), none, []⟩, ⟨some 8, .mov (.t 27), none, []⟩])
    (.drop [21, 22, 23, 24, 25, 26, 27]
     (.seq
      (.region false [] [⟨some 29, .ld true 2 (.t 3), none, []⟩, ⟨some 30, .ld true 17 (.t 4), none, [4]⟩, ⟨some 31, .call 16 [.t 29, .t 30], none, [29, 30]⟩, ⟨some 28, .mov (.t 31), none, [31]⟩, ⟨some 32, .ext 0 (.t 28), none, []⟩, ⟨some 33, .ext 1 (.t 28), none, [28]⟩, ⟨some 9, .alloc [.int .u16 0, .slice none 0 0], none, []⟩, ⟨none, .st 2 (.t 9) (.t 32), none, [32]⟩, ⟨some 10, .mov (.t 33), none, [33]⟩])
     (.seal_ 9
      (.seq
       (.region false [] [⟨some 35, .ld true 2 (.t 3), none, []⟩, ⟨some 36, .call 15 [.t 35], none, [35]⟩, ⟨some 37, .call 17 [.t 36], none, [36]⟩, ⟨some 34, .mov (.t 37), none, [37]⟩, ⟨some 38, .ext 0 (.t 34), none, []⟩, ⟨some 39, .ext 1 (.t 34), none, [34]⟩, ⟨some 11, .alloc [.int .u16 0, .int .u16 0, .int .u16 0, .int .u16 0, .int .u16 0, .int .u16 0, .int .u16 0, .int .u16 0, .int .u16 0, .int .u16 0, .int .u16 0, .int .u16 0, .int .u16 0, .int .u16 0, .int .u16 0, .int .u16 0], none, []⟩, ⟨none, .st 16 (.t 11) (.t 38), none, [38]⟩, ⟨some 12, .mov (.t 39), none, [39]⟩])
      (.seal_ 11
       (.seq
        (.region false [] [⟨some 41, .ld true 2 (.t 3), none, []⟩, ⟨some 42, .call 18 [.t 41], none, [41]⟩, ⟨some 40, .mov (.t 42), none, [42]⟩, ⟨some 43, .ext 0 (.t 40), none, []⟩, ⟨some 44, .ext 1 (.t 40), none, [40]⟩, ⟨some 13, .alloc [.int .u16 0, .int .u16 0, .int .u16 0, .int .u16 0, .int .u16 0, .int .u16 0, .int .u16 0, .int .u16 0, .int .u16 0, .int .u16 0, .int .u16 0, .int .u16 0, .int .u16 0, .int .u16 0, .int .u16 0, .int .u16 0], none, []⟩, ⟨none, .st 16 (.t 13) (.t 43), none, [43]⟩, ⟨some 14, .mov (.t 44), none, [44]⟩])
       (.seal_ 13
        (.seq
         (.draws (.tak 2 ⟨some 47, .ld true 2 (.t 9), none, []⟩ (.alt 0 ⟨some 45, .ld true 2 (.t 7), none, []⟩ (.alt 1 ⟨some 46, .call 20 [.t 45], none, []⟩ (.alt 3 ⟨some 48, .call 19 [.t 46, .t 47], none, []⟩ (.tak 4 ⟨some 49, .mov (.t 48), none, []⟩ (.tak 5 ⟨some 50, .mov (.t 8), some (49, true), []⟩ (.tak 6 ⟨some 51, .mov (.t 10), some (49, true), []⟩ (.tak 7 ⟨some 52, .bin false .eql (.t 50) (.t 51), some (49, true), []⟩ (.tak 8 ⟨some 53, .pick (.t 49) (.t 52) (.c (.bool false)), none, []⟩ (.tak 9 ⟨some 54, .mov (.t 53), none, []⟩ (.tak 10 ⟨some 55, .ld true 16 (.t 11), some (54, true), []⟩ (.tak 11 ⟨some 56, .ld true 16 (.t 13), some (54, true), []⟩ (.tak 12 ⟨some 57, .eqs false [.i, .i, .i, .i, .i, .i, .i, .i, .i, .i, .i, .i, .i, .i, .i, .i] (.t 55) (.t 56), some (54, true), []⟩ (.tak 13 ⟨some 58, .pick (.t 54) (.t 57) (.c (.bool false)), none, []⟩ (.tak 14 ⟨some 59, .mov (.t 58), none, []⟩ (.tak 15 ⟨some 60, .mov (.t 12), some (59, true), []⟩ (.tak 16 ⟨some 61, .mov (.t 14), some (59, true), []⟩ (.tak 17 ⟨some 62, .bin true .eql (.t 60) (.t 61), some (59, true), []⟩ (.tak 18 ⟨some 63, .pick (.t 59) (.t 62) (.c (.bool false)), none, []⟩ (.tak 19 ⟨some 64, .mov (.t 63), none, []⟩ (.tak 20 ⟨some 65, .ld true 2 (.t 3), some (64, true), []⟩ (.tak 22 ⟨some 67, .ld true 16 (.t 5), some (64, true), []⟩ (.tak 24 ⟨some 69, .ld true 2 (.t 3), some (64, true), []⟩ (.tak 25 ⟨some 70, .ld true 16 (.t 5), some (64, true), []⟩ (.alt 21 ⟨some 66, .call 15 [.t 65], some (64, true), []⟩ (.alt 23 ⟨some 68, .call 21 [.t 66, .t 67], some (64, true), []⟩ (.alt 26 ⟨some 71, .call 22 [.t 69, .t 70], some (64, true), []⟩ (.tak 27 ⟨some 72, .bin true .eql (.t 68) (.t 71), some (64, true), []⟩ (.tak 28 ⟨some 73, .pick (.t 64) (.t 72) (.c (.bool false)), none, []⟩ (.tak 29 ⟨some 74, .mov (.t 73), none, []⟩ (.tak 30 ⟨some 75, .ld true 2 (.t 3), some (74, true), []⟩ (.tak 32 ⟨some 77, .ld true 16 (.t 13), some (74, true), []⟩ (.tak 34 ⟨some 79, .mov (.t 14), some (74, true), []⟩ (.alt 31 ⟨some 76, .call 15 [.t 75], some (74, true), []⟩ (.alt 33 ⟨some 78, .call 21 [.t 76, .t 77], some (74, true), []⟩ (.tak 35 ⟨some 80, .bin true .eql (.t 78) (.t 79), some (74, true), []⟩ (.tak 36 ⟨some 81, .pick (.t 74) (.t 80) (.c (.bool false)), none, []⟩ (.tak 37 ⟨some 6, .mov (.t 81), none, []⟩ .done))) .stop) .stop))))))) .stop) .stop) .stop))))))))))))))))))))) .stop) .stop) .stop)) [[], [0], [], [1, 2, 1], [3, 3], [4], [4], [5, 6, 4], [4, 7], [8, 4], [9], [9], [10, 11, 9], [9, 12], [13, 9], [14], [14], [15, 16, 14], [14, 17], [18, 14], [19], [20, 19, 19], [19], [21, 22, 21, 19], [19], [19], [24, 25, 23, 19], [23, 26, 19], [19, 27], [28, 26], [29], [30, 29, 29], [29], [31, 32, 31, 29], [29], [33, 34, 29], [29, 35], [36, 33, 0, 1, 2, 3, 4, 5, 6, 7, 8, 9, 10, 11, 12, 13, 14, 15, 16, 17, 18, 19, 20, 21, 22, 23, 24, 25, 26, 27, 28, 29, 30, 31, 32, 33, 34, 35, 36]] [⟨some 45, .ld true 2 (.t 7), none, []⟩, ⟨some 46, .call 20 [.t 45], none, []⟩, ⟨some 47, .ld true 2 (.t 9), none, []⟩, ⟨some 48, .call 19 [.t 46, .t 47], none, []⟩, ⟨some 49, .mov (.t 48), none, []⟩, ⟨some 50, .mov (.t 8), some (49, true), []⟩, ⟨some 51, .mov (.t 10), some (49, true), []⟩, ⟨some 52, .bin false .eql (.t 50) (.t 51), some (49, true), []⟩, ⟨some 53, .pick (.t 49) (.t 52) (.c (.bool false)), none, []⟩, ⟨some 54, .mov (.t 53), none, []⟩, ⟨some 55, .ld true 16 (.t 11), some (54, true), []⟩, ⟨some 56, .ld true 16 (.t 13), some (54, true), []⟩, ⟨some 57, .eqs false [.i, .i, .i, .i, .i, .i, .i, .i, .i, .i, .i, .i, .i, .i, .i, .i] (.t 55) (.t 56), some (54, true), []⟩, ⟨some 58, .pick (.t 54) (.t 57) (.c (.bool false)), none, []⟩, ⟨some 59, .mov (.t 58), none, []⟩, ⟨some 60, .mov (.t 12), some (59, true), []⟩, ⟨some 61, .mov (.t 14), some (59, true), []⟩, ⟨some 62, .bin true .eql (.t 60) (.t 61), some (59, true), []⟩, ⟨some 63, .pick (.t 59) (.t 62) (.c (.bool false)), none, []⟩, ⟨some 64, .mov (.t 63), none, []⟩, ⟨some 65, .ld true 2 (.t 3), some (64, true), []⟩, ⟨some 66, .call 15 [.t 65], some (64, true), []⟩, ⟨some 67, .ld true 16 (.t 5), some (64, true), []⟩, ⟨some 68, .call 21 [.t 66, .t 67], some (64, true), []⟩, ⟨some 69, .ld true 2 (.t 3), some (64, true), []⟩, ⟨some 70, .ld true 16 (.t 5), some (64, true), []⟩, ⟨some 71, .call 22 [.t 69, .t 70], some (64, true), []⟩, ⟨some 72, .bin true .eql (.t 68) (.t 71), some (64, true), []⟩, ⟨some 73, .pick (.t 64) (.t 72) (.c (.bool false)), none, []⟩, ⟨some 74, .mov (.t 73), none, []⟩, ⟨some 75, .ld true 2 (.t 3), some (74, true), []⟩, ⟨some 76, .call 15 [.t 75], some (74, true), []⟩, ⟨some 77, .ld true 16 (.t 13), some (74, true), []⟩, ⟨some 78, .call 21 [.t 76, .t 77], some (74, true), []⟩, ⟨some 79, .mov (.t 14), some (74, true), []⟩, ⟨some 80, .bin true .eql (.t 78) (.t 79), some (74, true), []⟩, ⟨some 81, .pick (.t 74) (.t 80) (.c (.bool false)), none, []⟩, ⟨some 6, .mov (.t 81), none, []⟩])
        (.drop [3, 5, 7, 8, 9, 10, 11, 12, 13, 14, 45, 46, 47, 48, 49, 50, 51, 52, 53, 54, 55, 56, 57, 58, 59, 60, 61, 62, 63, 64, 65, 66, 67, 68, 69, 70, 71, 72, 73, 74, 75, 76, 77, 78, 79, 80, 81]
         .ret))))))))))))))))
def rs_3 : List ARes := [.tmp 6]
theorem g_3 : Good Try.prog 3 ac_3 rs_3 := ⟨Try.f3, Try.f3.body.getD .skip, by kernel_rfl, by kernel_rfl, by kernel_rfl, ⟨by kernel_rfl, by kernel_rfl⟩, by kernel_rfl, by kernel_rfl⟩
theorem ok_3 {Γ : Env} (hΓ : EnvOk Try.prog Γ) (sp : Spec) (h : WB Γ ac_3 rs_3 sp) : CallOk Try.prog 3 sp := g_3.ok hΓ mix_ok sp h

/-- chantry/chantrylaw13.FlushRow -/
def ac_4 : ACode :=
 (.seq
  (.region false [] [⟨some 4, .mov (.c (.bool false)), none, []⟩])
 (.seq
  (.seq
   (.region false [] [⟨some 16, .call 13 [], none, []⟩, ⟨some 17, .un .not (.t 16), none, [16]⟩])
  (.cond (.t 17)
    (.drop [0, 1, 17]
     (.seq
      (.region false [] [⟨some 4, .mov (.c (.bool false)), none, []⟩])
     .ret))
    (.drop [17]
     .skip)))
 (.seq
  (.region false [] [⟨some 18, .mov (.t 0), none, []⟩, ⟨some 19, .bld [.int .u16 0, .slice none 0 0] [(0, 1, .t 18)], none, [18]⟩, ⟨some 5, .alloc [.int .u16 0, .slice none 0 0], none, []⟩, ⟨none, .st 2 (.t 5) (.t 19), none, [19]⟩])
 (.seq
  (.region false [] [⟨some 20, .mov (.t 0), none, [0]⟩, ⟨some 21, .bld [.int .u16 0, .slice none 0 0] [(0, 1, .t 20)], none, [20]⟩, ⟨some 6, .alloc [.int .u16 0, .slice none 0 0], none, []⟩, ⟨none, .st 2 (.t 6) (.t 21), none, [21]⟩])
 (.seq
  (.seq
   (.region false [] [⟨some 7, .mov (.c (.int .i64 0)), none, []⟩])
  (.block 0
   (.loop [1, 5, 6, 7]
    (.seq
     (.seq
      (.region false [] [⟨some 22, .mov (.t 7), none, []⟩, ⟨some 23, .mov (.t 1), none, []⟩, ⟨some 24, .len false (.t 23), none, [23]⟩, ⟨some 25, .bin false .lss (.t 22) (.t 24), none, [22, 24]⟩, ⟨some 26, .mov (.t 25), none, [25]⟩, ⟨some 27, .mov (.t 7), some (26, true), []⟩, ⟨some 28, .bin false .lss (.t 27) (.c (.int .i64 40)), some (26, true), [27]⟩, ⟨some 29, .pick (.t 26) (.t 28) (.c (.bool false)), none, [26, 28]⟩])
     (.cond (.t 29)
       (.drop [29]
        .skip)
       (.drop [1, 5, 6, 7, 29]
        (.exit 0))))
    (.seq
     (.block 1
      (.seq
       (.draws (.tak 1 ⟨some 34, .mov (.t 1), none, []⟩ (.tak 2 ⟨some 35, .mov (.t 7), none, []⟩ (.tak 3 ⟨some 36, .iax 17 (.t 34) (.t 35), none, []⟩ (.tak 4 ⟨some 37, .ld true 17 (.t 36), none, []⟩ (.alt 0 ⟨some 33, .ld true 2 (.t 5), none, []⟩ (.alt 5 ⟨some 38, .call 14 [.t 33, .t 37], none, []⟩ (.tak 6 ⟨some 32, .mov (.t 38), none, []⟩ (.tak 7 ⟨some 39, .ext 0 (.t 32), none, []⟩ (.tak 8 ⟨some 40, .ext 1 (.t 32), none, []⟩ (.alt 9 ⟨some 8, .alloc [.int .u16 0, .slice none 0 0], none, []⟩ (.alt 10 ⟨none, .st 2 (.t 8) (.t 39), none, []⟩ (.tak 11 ⟨some 9, .mov (.t 40), none, []⟩ .done) .stop) .stop)))) (.alt 9 ⟨some 8, .alloc [.int .u16 0, .slice none 0 0], none, []⟩ (.alt 5 ⟨some 38, .call 14 [.t 33, .t 37], none, []⟩ (.tak 6 ⟨some 32, .mov (.t 38), none, []⟩ (.tak 7 ⟨some 39, .ext 0 (.t 32), none, []⟩ (.tak 8 ⟨some 40, .ext 1 (.t 32), none, []⟩ (.alt 10 ⟨none, .st 2 (.t 8) (.t 39), none, []⟩ (.tak 11 ⟨some 9, .mov (.t 40), none, []⟩ .done) .stop)))) .stop) .stop)) (.alt 9 ⟨some 8, .alloc [.int .u16 0, .slice none 0 0], none, []⟩ (.alt 0 ⟨some 33, .ld true 2 (.t 5), none, []⟩ (.alt 5 ⟨some 38, .call 14 [.t 33, .t 37], none, []⟩ (.tak 6 ⟨some 32, .mov (.t 38), none, []⟩ (.tak 7 ⟨some 39, .ext 0 (.t 32), none, []⟩ (.tak 8 ⟨some 40, .ext 1 (.t 32), none, []⟩ (.alt 10 ⟨none, .st 2 (.t 8) (.t 39), none, []⟩ (.tak 11 ⟨some 9, .mov (.t 40), none, []⟩ .done) .stop)))) .stop) .stop) .stop)))))) [[], [], [], [1, 2], [3], [0, 4], [5], [6], [6], [], [9, 7, 5, 0, 1, 2, 3, 4, 5, 6, 7, 9], [8, 10, 0, 1, 2, 3, 4, 5, 6, 7, 8, 9, 10]] [⟨some 33, .ld true 2 (.t 5), none, []⟩, ⟨some 34, .mov (.t 1), none, []⟩, ⟨some 35, .mov (.t 7), none, []⟩, ⟨some 36, .iax 17 (.t 34) (.t 35), none, []⟩, ⟨some 37, .ld true 17 (.t 36), none, []⟩, ⟨some 38, .call 14 [.t 33, .t 37], none, []⟩, ⟨some 32, .mov (.t 38), none, []⟩, ⟨some 39, .ext 0 (.t 32), none, []⟩, ⟨some 40, .ext 1 (.t 32), none, []⟩, ⟨some 8, .alloc [.int .u16 0, .slice none 0 0], none, []⟩, ⟨none, .st 2 (.t 8) (.t 39), none, []⟩, ⟨some 9, .mov (.t 40), none, []⟩])
      (.drop [32, 33, 34, 35, 36, 37, 38, 39, 40]
       (.seq
        (.draws (.tak 1 ⟨some 43, .mov (.t 1), none, []⟩ (.tak 2 ⟨some 44, .mov (.t 7), none, []⟩ (.tak 3 ⟨some 45, .iax 17 (.t 43) (.t 44), none, []⟩ (.tak 4 ⟨some 46, .ld true 17 (.t 45), none, []⟩ (.alt 0 ⟨some 42, .ld true 2 (.t 6), none, []⟩ (.alt 5 ⟨some 47, .call 16 [.t 42, .t 46], none, []⟩ (.tak 6 ⟨some 41, .mov (.t 47), none, []⟩ (.tak 7 ⟨some 48, .ext 0 (.t 41), none, []⟩ (.tak 8 ⟨some 49, .ext 1 (.t 41), none, []⟩ (.alt 9 ⟨some 10, .alloc [.int .u16 0, .slice none 0 0], none, []⟩ (.alt 10 ⟨none, .st 2 (.t 10) (.t 48), none, []⟩ (.tak 11 ⟨some 11, .mov (.t 49), none, []⟩ .done) .stop) .stop)))) (.alt 9 ⟨some 10, .alloc [.int .u16 0, .slice none 0 0], none, []⟩ (.alt 5 ⟨some 47, .call 16 [.t 42, .t 46], none, []⟩ (.tak 6 ⟨some 41, .mov (.t 47), none, []⟩ (.tak 7 ⟨some 48, .ext 0 (.t 41), none, []⟩ (.tak 8 ⟨some 49, .ext 1 (.t 41), none, []⟩ (.alt 10 ⟨none, .st 2 (.t 10) (.t 48), none, []⟩ (.tak 11 ⟨some 11, .mov (.t 49), none, []⟩ .done) .stop)))) .stop) .stop)) (.alt 9 ⟨some 10, .alloc [.int .u16 0, .slice none 0 0], none, []⟩ (.alt 0 ⟨some 42, .ld true 2 (.t 6), none, []⟩ (.alt 5 ⟨some 47, .call 16 [.t 42, .t 46], none, []⟩ (.tak 6 ⟨some 41, .mov (.t 47), none, []⟩ (.tak 7 ⟨some 48, .ext 0 (.t 41), none, []⟩ (.tak 8 ⟨some 49, .ext 1 (.t 41), none, []⟩ (.alt 10 ⟨none, .st 2 (.t 10) (.t 48), none, []⟩ (.tak 11 ⟨some 11, .mov (.t 49), none, []⟩ .done) .stop)))) .stop) .stop) .stop)))))) [[], [], [], [1, 2], [3], [0, 4], [5], [6], [6], [], [9, 7, 5, 0, 1, 2, 3, 4, 5, 6, 7, 9], [8, 10, 0, 1, 2, 3, 4, 5, 6, 7, 8, 9, 10]] [⟨some 42, .ld true 2 (.t 6), none, []⟩, ⟨some 43, .mov (.t 1), none, []⟩, ⟨some 44, .mov (.t 7), none, []⟩, ⟨some 45, .iax 17 (.t 43) (.t 44), none, []⟩, ⟨some 46, .ld true 17 (.t 45), none, []⟩, ⟨some 47, .call 16 [.t 42, .t 46], none, []⟩, ⟨some 41, .mov (.t 47), none, []⟩, ⟨some 48, .ext 0 (.t 41), none, []⟩, ⟨some 49, .ext 1 (.t 41), none, []⟩, ⟨some 10, .alloc [.int .u16 0, .slice none 0 0], none, []⟩, ⟨none, .st 2 (.t 10) (.t 48), none, []⟩, ⟨some 11, .mov (.t 49), none, []⟩])
       (.drop [41, 42, 43, 44, 45, 46, 47, 48, 49]
        (.seal_ 8
         (.seq
          (.region false [] [⟨some 50, .ld true 2 (.t 8), none, [8]⟩, ⟨none, .st 2 (.t 5) (.t 50), none, [50]⟩])
         (.seal_ 10
          (.seq
           (.region false [] [⟨some 51, .ld true 2 (.t 10), none, [10]⟩, ⟨none, .st 2 (.t 6) (.t 51), none, [51]⟩])
          (.seq
           (.region false [] [⟨some 53, .ld true 2 (.t 5), none, []⟩, ⟨some 54, .call 17 [.t 53], none, [53]⟩, ⟨some 52, .mov (.t 54), none, [54]⟩, ⟨some 55, .ext 0 (.t 52), none, []⟩, ⟨some 56, .ext 1 (.t 52), none, [52]⟩, ⟨some 12, .alloc [.int .u16 0, .int .u16 0, .int .u16 0, .int .u16 0, .int .u16 0, .int .u16 0, .int .u16 0, .int .u16 0, .int .u16 0, .int .u16 0, .int .u16 0, .int .u16 0, .int .u16 0, .int .u16 0, .int .u16 0, .int .u16 0], none, []⟩, ⟨none, .st 16 (.t 12) (.t 55), none, [55]⟩, ⟨some 13, .mov (.t 56), none, [56]⟩])
          (.seal_ 12
           (.seq
            (.region false [] [⟨some 58, .ld true 2 (.t 6), none, []⟩, ⟨some 59, .call 18 [.t 58], none, [58]⟩, ⟨some 57, .mov (.t 59), none, [59]⟩, ⟨some 60, .ext 0 (.t 57), none, []⟩, ⟨some 61, .ext 1 (.t 57), none, [57]⟩, ⟨some 14, .alloc [.int .u16 0, .int .u16 0, .int .u16 0, .int .u16 0, .int .u16 0, .int .u16 0, .int .u16 0, .int .u16 0, .int .u16 0, .int .u16 0, .int .u16 0, .int .u16 0, .int .u16 0, .int .u16 0, .int .u16 0, .int .u16 0], none, []⟩, ⟨none, .st 16 (.t 14) (.t 60), none, [60]⟩, ⟨some 15, .mov (.t 61), none, [61]⟩])
           (.seal_ 14
            (.seq
             (.draws (.tak 0 ⟨some 62, .mov (.t 9), none, []⟩ (.tak 1 ⟨some 63, .mov (.t 11), none, []⟩ (.tak 2 ⟨some 64, .bin false .neq (.t 62) (.t 63), none, []⟩ (.tak 3 ⟨some 65, .mov (.t 64), none, []⟩ (.alt 4 ⟨some 66, .ld true 2 (.t 5), some (65, false), []⟩ (.alt 5 ⟨some 67, .call 20 [.t 66], some (65, false), []⟩ (.alt 6 ⟨some 68, .ld true 2 (.t 6), some (65, false), []⟩ (.alt 7 ⟨some 69, .call 19 [.t 67, .t 68], some (65, false), []⟩ (.tak 8 ⟨some 70, .un .not (.t 69), some (65, false), []⟩ (.tak 9 ⟨some 71, .pick (.t 65) (.c (.bool true)) (.t 70), none, []⟩ (.tak 10 ⟨some 72, .mov (.t 71), none, []⟩ (.tak 11 ⟨some 73, .ld true 16 (.t 12), some (72, false), []⟩ (.tak 12 ⟨some 74, .ld true 16 (.t 14), some (72, false), []⟩ (.tak 13 ⟨some 75, .eqs true [.i, .i, .i, .i, .i, .i, .i, .i, .i, .i, .i, .i, .i, .i, .i, .i] (.t 73) (.t 74), some (72, false), []⟩ (.tak 14 ⟨some 76, .pick (.t 72) (.c (.bool true)) (.t 75), none, []⟩ (.tak 15 ⟨some 77, .mov (.t 76), none, []⟩ (.tak 16 ⟨some 78, .mov (.t 13), some (77, false), []⟩ (.tak 17 ⟨some 79, .mov (.t 15), some (77, false), []⟩ (.tak 18 ⟨some 80, .bin true .neq (.t 78) (.t 79), some (77, false), []⟩ (.tak 19 ⟨some 81, .pick (.t 77) (.c (.bool true)) (.t 80), none, []⟩ .done)))))))))))) .stop) .stop) (.alt 6 ⟨some 68, .ld true 2 (.t 6), some (65, false), []⟩ (.alt 5 ⟨some 67, .call 20 [.t 66], some (65, false), []⟩ (.alt 7 ⟨some 69, .call 19 [.t 67, .t 68], some (65, false), []⟩ (.tak 8 ⟨some 70, .un .not (.t 69), some (65, false), []⟩ (.tak 9 ⟨some 71, .pick (.t 65) (.c (.bool true)) (.t 70), none, []⟩ (.tak 10 ⟨some 72, .mov (.t 71), none, []⟩ (.tak 11 ⟨some 73, .ld true 16 (.t 12), some (72, false), []⟩ (.tak 12 ⟨some 74, .ld true 16 (.t 14), some (72, false), []⟩ (.tak 13 ⟨some 75, .eqs true [.i, .i, .i, .i, .i, .i, .i, .i, .i, .i, .i, .i, .i, .i, .i, .i] (.t 73) (.t 74), some (72, false), []⟩ (.tak 14 ⟨some 76, .pick (.t 72) (.c (.bool true)) (.t 75), none, []⟩ (.tak 15 ⟨some 77, .mov (.t 76), none, []⟩ (.tak 16 ⟨some 78, .mov (.t 13), some (77, false), []⟩ (.tak 17 ⟨some 79, .mov (.t 15), some (77, false), []⟩ (.tak 18 ⟨some 80, .bin true .neq (.t 78) (.t 79), some (77, false), []⟩ (.tak 19 ⟨some 81, .pick (.t 77) (.c (.bool true)) (.t 80), none, []⟩ .done)))))))))))) .stop) .stop) .stop)) (.alt 6 ⟨some 68, .ld true 2 (.t 6), some (65, false), []⟩ (.alt 4 ⟨some 66, .ld true 2 (.t 5), some (65, false), []⟩ (.alt 5 ⟨some 67, .call 20 [.t 66], some (65, false), []⟩ (.alt 7 ⟨some 69, .call 19 [.t 67, .t 68], some (65, false), []⟩ (.tak 8 ⟨some 70, .un .not (.t 69), some (65, false), []⟩ (.tak 9 ⟨some 71, .pick (.t 65) (.c (.bool true)) (.t 70), none, []⟩ (.tak 10 ⟨some 72, .mov (.t 71), none, []⟩ (.tak 11 ⟨some 73, .ld true 16 (.t 12), some (72, false), []⟩ (.tak 12 ⟨some 74, .ld true 16 (.t 14), some (72, false), []⟩ (.tak 13 ⟨some 75, .eqs true [.i, .i, .i, .i, .i, .i, .i, .i, .i, .i, .i, .i, .i, .i, .i, .i] (.t 73) (.t 74), some (72, false), []⟩ (.tak 14 ⟨some 76, .pick (.t 72) (.c (.bool true)) (.t 75), none, []⟩ (.tak 15 ⟨some 77, .mov (.t 76), none, []⟩ (.tak 16 ⟨some 78, .mov (.t 13), some (77, false), []⟩ (.tak 17 ⟨some 79, .mov (.t 15), some (77, false), []⟩ (.tak 18 ⟨some 80, .bin true .neq (.t 78) (.t 79), some (77, false), []⟩ (.tak 19 ⟨some 81, .pick (.t 77) (.c (.bool true)) (.t 80), none, []⟩ .done)))))))))))) .stop) .stop) .stop) .stop)))))) [[], [], [0, 1], [2], [3], [4, 3, 3], [3], [5, 6, 5, 3], [7, 3], [3, 8], [9, 7], [10], [10], [11, 12, 10], [10, 13], [14, 10], [15], [15], [16, 17, 15], [15, 18]] [⟨some 62, .mov (.t 9), none, []⟩, ⟨some 63, .mov (.t 11), none, []⟩, ⟨some 64, .bin false .neq (.t 62) (.t 63), none, []⟩, ⟨some 65, .mov (.t 64), none, []⟩, ⟨some 66, .ld true 2 (.t 5), some (65, false), []⟩, ⟨some 67, .call 20 [.t 66], some (65, false), []⟩, ⟨some 68, .ld true 2 (.t 6), some (65, false), []⟩, ⟨some 69, .call 19 [.t 67, .t 68], some (65, false), []⟩, ⟨some 70, .un .not (.t 69), some (65, false), []⟩, ⟨some 71, .pick (.t 65) (.c (.bool true)) (.t 70), none, []⟩, ⟨some 72, .mov (.t 71), none, []⟩, ⟨some 73, .ld true 16 (.t 12), some (72, false), []⟩, ⟨some 74, .ld true 16 (.t 14), some (72, false), []⟩, ⟨some 75, .eqs true [.i, .i, .i, .i, .i, .i, .i, .i, .i, .i, .i, .i, .i, .i, .i, .i] (.t 73) (.t 74), some (72, false), []⟩, ⟨some 76, .pick (.t 72) (.c (.bool true)) (.t 75), none, []⟩, ⟨some 77, .mov (.t 76), none, []⟩, ⟨some 78, .mov (.t 13), some (77, false), []⟩, ⟨some 79, .mov (.t 15), some (77, false), []⟩, ⟨some 80, .bin true .neq (.t 78) (.t 79), some (77, false), []⟩, ⟨some 81, .pick (.t 77) (.c (.bool true)) (.t 80), none, []⟩])
            (.drop [9, 11, 12, 13, 14, 15, 62, 63, 64, 65, 66, 67, 68, 69, 70, 71, 72, 73, 74, 75, 76, 77, 78, 79, 80]
             (.cond (.t 81)
               (.drop [1, 5, 6, 7, 81]
                (.seq
                 (.region false [] [⟨some 4, .mov (.c (.bool false)), none, []⟩])
                .ret))
               (.drop [81]
                .skip)))))))))))))))))
    (.region false [] [⟨some 30, .mov (.t 7), none, [7]⟩, ⟨some 31, .bin false .add (.t 30) (.c (.int .i64 1)), none, [30]⟩, ⟨some 7, .mov (.t 31), none, [31]⟩]))))))
 (.seq
  (.region false [] [⟨some 4, .mov (.c (.bool true)), none, []⟩])
 .ret))))))
def rs_4 : List ARes := [.tmp 4]
theorem g_4 : Good Try.prog 4 ac_4 rs_4 := ⟨Try.f4, Try.f4.body.getD .skip, by kernel_rfl, by kernel_rfl, by kernel_rfl, ⟨by kernel_rfl, by kernel_rfl⟩, by kernel_rfl, by kernel_rfl⟩
theorem ok_4 {Γ : Env} (hΓ : EnvOk Try.prog Γ) (sp : Spec) (h : WB Γ ac_4 rs_4 sp) : CallOk Try.prog 4 sp := g_4.ok hΓ mix_ok sp h

/-- chantry/chantrylaw13.FlushAny -/
def ac_5 : ACode :=
 (.seq
  (.region false [] [⟨some 6, .mov (.c (.bool false)), none, []⟩])
 (.seq
  (.seq
   (.region false [] [⟨some 23, .call 13 [], none, []⟩, ⟨some 24, .un .not (.t 23), none, [23]⟩])
  (.cond (.t 24)
    (.drop [0, 1, 2, 24]
     (.seq
      (.region false [] [⟨some 6, .mov (.c (.bool false)), none, []⟩])
     .ret))
    (.drop [24]
     .skip)))
 (.seq
  (.region false [] [⟨some 25, .mov (.t 0), none, []⟩, ⟨some 26, .bld [.int .u16 0, .slice none 0 0] [(0, 1, .t 25)], none, [25]⟩, ⟨some 27, .mov (.t 0), none, [0]⟩, ⟨some 28, .bld [.int .u16 0, .slice none 0 0] [(0, 1, .t 27)], none, [27]⟩, ⟨some 7, .alloc [.int .u16 0, .slice none 0 0], none, []⟩, ⟨some 8, .alloc [.int .u16 0, .slice none 0 0], none, []⟩, ⟨none, .st 2 (.t 7) (.t 26), none, [26]⟩, ⟨none, .st 2 (.t 8) (.t 28), none, [28]⟩])
 (.seq
  (.seq
   (.region false [] [⟨some 29, .mov (.t 1), none, []⟩, ⟨some 30, .len false (.t 29), none, [29]⟩, ⟨some 31, .bin false .gtr (.t 30) (.c (.int .i64 40)), none, [30]⟩])
  (.cond (.t 31)
    (.drop [1, 2, 7, 8, 31]
     (.seq
      (.region false [] [⟨some 6, .mov (.c (.bool true)), none, []⟩])
     .ret))
    (.drop [31]
     .skip)))
 (.seq
  (.region false [] [⟨some 9, .mov (.c (.slice none 0 0)), none, []⟩])
 (.seq
  (.seq
   (.region false [] [⟨some 32, .mov (.t 1), none, [1]⟩, ⟨some 33, .len false (.t 32), none, []⟩, ⟨some 34, .mov (.c (.int .i64 0)), none, []⟩])
  (.block 0
   (.loop [2, 7, 8, 9, 32, 33, 34]
    (.seq
     (.region false [] [⟨some 35, .bin false .lss (.t 34) (.t 33), none, []⟩])
    (.seq
     (.cond (.t 35)
       (.drop [35]
        .skip)
       (.drop [32, 33, 34, 35]
        (.exit 0)))
    (.seq
     (.block 1
      (.seq
       (.region false [] [⟨some 36, .iax 17 (.t 32) (.t 34), none, []⟩, ⟨some 37, .ld true 17 (.t 36), none, [36]⟩, ⟨some 11, .alloc [.int .u8 0, .int .u16 0, .int .u16 0, .int .u16 0, .int .u16 0, .int .u16 0, .int .u16 0, .int .u16 0, .int .u16 0, .int .u16 0, .int .u16 0, .int .u16 0, .int .u16 0, .int .u16 0, .int .u16 0, .int .u16 0, .int .u16 0], none, []⟩, ⟨none, .st 17 (.t 11) (.t 37), none, [37]⟩])
      (.seal_ 11
       (.seq
        (.region false [] [⟨some 39, .ld true 2 (.t 7), none, []⟩, ⟨some 40, .ld true 17 (.t 11), none, []⟩, ⟨some 41, .call 14 [.t 39, .t 40], none, [39, 40]⟩, ⟨some 38, .mov (.t 41), none, [41]⟩, ⟨some 42, .ext 0 (.t 38), none, []⟩, ⟨some 43, .ext 1 (.t 38), none, [38]⟩, ⟨some 12, .alloc [.int .u16 0, .slice none 0 0], none, []⟩, ⟨none, .st 2 (.t 12) (.t 42), none, [42]⟩, ⟨some 13, .mov (.t 43), none, [43]⟩])
       (.seal_ 12
        (.seq
         (.seq
          (.region false [] [⟨some 44, .mov (.t 13), none, [13]⟩, ⟨some 45, .bin false .eql (.t 44) (.c (.int .i64 0)), none, [44]⟩])
         (.cond (.t 45)
           (.drop [45]
            (.region false [] [⟨some 46, .mov (.t 9), none, [9]⟩, ⟨some 47, .ld true 17 (.t 11), none, [11]⟩, ⟨some 48, .bsl 39 17 [.t 47], none, [47]⟩, ⟨some 49, .app 39 17 34 (.t 46) (.t 48), none, [46, 48]⟩, ⟨some 9, .mov (.t 49), none, [49]⟩]))
           (.drop [11, 45]
            .skip)))
        (.region false [] [⟨some 50, .ld true 2 (.t 12), none, [12]⟩, ⟨none, .st 2 (.t 7) (.t 50), none, [50]⟩])))))))
    (.region false [] [⟨some 51, .bin false .add (.t 34) (.c (.int .i64 1)), none, [34]⟩, ⟨some 34, .mov (.t 51), none, [51]⟩])))))))
 (.seq
  (.seal_ 9
   (.seq
    (.region false [] [⟨some 52, .mov (.t 9), none, []⟩, ⟨some 53, .len false (.t 52), none, [52]⟩, ⟨some 54, .mov (.c (.int .i64 0)), none, []⟩])
   (.block 2
    (.loop [2, 7, 8, 9, 53, 54]
     (.seq
      (.region false [] [⟨some 55, .bin false .lss (.t 54) (.t 53), none, []⟩])
     (.seq
      (.cond (.t 55)
        (.drop [55]
         .skip)
        (.drop [2, 53, 54, 55]
         (.exit 2)))
     (.seq
      (.block 3
       (.seq
        (.region false [] [⟨some 56, .mov (.t 54), none, []⟩, ⟨some 14, .mov (.t 56), none, [56]⟩])
       (.seq
        (.draws (.tak 1 ⟨some 59, .mov (.t 9), none, []⟩ (.tak 2 ⟨some 60, .mov (.t 14), none, []⟩ (.tak 3 ⟨some 61, .mov (.t 2), none, []⟩ (.tak 4 ⟨some 62, .cvt .i64 (.t 61), none, []⟩ (.tak 5 ⟨some 63, .bin false .add (.t 60) (.t 62), none, []⟩ (.tak 6 ⟨some 64, .mov (.t 9), none, []⟩ (.tak 7 ⟨some 65, .len false (.t 64), none, []⟩ (.tak 8 ⟨some 66, .bin false .rem (.t 63) (.t 65), none, []⟩ (.tak 9 ⟨some 67, .iax 17 (.t 59) (.t 66), none, []⟩ (.tak 10 ⟨some 68, .ld true 17 (.t 67), none, []⟩ (.alt 0 ⟨some 58, .ld true 2 (.t 8), none, []⟩ (.alt 11 ⟨some 69, .call 14 [.t 58, .t 68], none, []⟩ (.tak 12 ⟨some 57, .mov (.t 69), none, []⟩ (.tak 13 ⟨some 70, .ext 0 (.t 57), none, []⟩ (.tak 14 ⟨some 71, .ext 1 (.t 57), none, []⟩ (.alt 15 ⟨some 15, .alloc [.int .u16 0, .slice none 0 0], none, []⟩ (.alt 16 ⟨none, .st 2 (.t 15) (.t 70), none, []⟩ (.tak 17 ⟨some 16, .mov (.t 71), none, []⟩ .done) .stop) .stop)))) (.alt 15 ⟨some 15, .alloc [.int .u16 0, .slice none 0 0], none, []⟩ (.alt 11 ⟨some 69, .call 14 [.t 58, .t 68], none, []⟩ (.tak 12 ⟨some 57, .mov (.t 69), none, []⟩ (.tak 13 ⟨some 70, .ext 0 (.t 57), none, []⟩ (.tak 14 ⟨some 71, .ext 1 (.t 57), none, []⟩ (.alt 16 ⟨none, .st 2 (.t 15) (.t 70), none, []⟩ (.tak 17 ⟨some 16, .mov (.t 71), none, []⟩ .done) .stop)))) .stop) .stop)) (.alt 15 ⟨some 15, .alloc [.int .u16 0, .slice none 0 0], none, []⟩ (.alt 0 ⟨some 58, .ld true 2 (.t 8), none, []⟩ (.alt 11 ⟨some 69, .call 14 [.t 58, .t 68], none, []⟩ (.tak 12 ⟨some 57, .mov (.t 69), none, []⟩ (.tak 13 ⟨some 70, .ext 0 (.t 57), none, []⟩ (.tak 14 ⟨some 71, .ext 1 (.t 57), none, []⟩ (.alt 16 ⟨none, .st 2 (.t 15) (.t 70), none, []⟩ (.tak 17 ⟨some 16, .mov (.t 71), none, []⟩ .done) .stop)))) .stop) .stop) .stop)))))))))))) [[], [], [], [], [3], [2, 4], [], [6], [5, 7], [1, 8], [9], [0, 10], [11], [12], [12], [], [15, 13, 11, 0, 1, 2, 3, 4, 5, 6, 7, 8, 9, 10, 11, 12, 13, 15], [14, 16, 0, 1, 2, 3, 4, 5, 6, 7, 8, 9, 10, 11, 12, 13, 14, 15, 16]] [⟨some 58, .ld true 2 (.t 8), none, []⟩, ⟨some 59, .mov (.t 9), none, []⟩, ⟨some 60, .mov (.t 14), none, []⟩, ⟨some 61, .mov (.t 2), none, []⟩, ⟨some 62, .cvt .i64 (.t 61), none, []⟩, ⟨some 63, .bin false .add (.t 60) (.t 62), none, []⟩, ⟨some 64, .mov (.t 9), none, []⟩, ⟨some 65, .len false (.t 64), none, []⟩, ⟨some 66, .bin false .rem (.t 63) (.t 65), none, []⟩, ⟨some 67, .iax 17 (.t 59) (.t 66), none, []⟩, ⟨some 68, .ld true 17 (.t 67), none, []⟩, ⟨some 69, .call 14 [.t 58, .t 68], none, []⟩, ⟨some 57, .mov (.t 69), none, []⟩, ⟨some 70, .ext 0 (.t 57), none, []⟩, ⟨some 71, .ext 1 (.t 57), none, []⟩, ⟨some 15, .alloc [.int .u16 0, .slice none 0 0], none, []⟩, ⟨none, .st 2 (.t 15) (.t 70), none, []⟩, ⟨some 16, .mov (.t 71), none, []⟩])
       (.drop [14, 57, 58, 59, 60, 61, 62, 63, 64, 65, 66, 67, 68, 69, 70, 71]
        (.seq
         (.seq
          (.region false [] [⟨some 72, .mov (.t 16), none, [16]⟩, ⟨some 73, .bin false .neq (.t 72) (.c (.int .i64 0)), none, [72]⟩])
         (.cond (.t 73)
           (.drop [2, 7, 8, 9, 15, 53, 54, 73]
            (.seq
             (.region false [] [⟨some 6, .mov (.c (.bool false)), none, []⟩])
            .ret))
           (.drop [73]
            .skip)))
        (.seal_ 15
         (.region false [] [⟨some 74, .ld true 2 (.t 15), none, [15]⟩, ⟨none, .st 2 (.t 8) (.t 74), none, [74]⟩])))))))
     (.region false [] [⟨some 75, .bin false .add (.t 54) (.c (.int .i64 1)), none, [54]⟩, ⟨some 54, .mov (.t 75), none, [75]⟩]))))))))
 (.seq
  (.region false [] [⟨some 77, .ld true 2 (.t 7), none, []⟩, ⟨some 78, .call 17 [.t 77], none, [77]⟩, ⟨some 76, .mov (.t 78), none, [78]⟩, ⟨some 79, .ext 0 (.t 76), none, []⟩, ⟨some 80, .ext 1 (.t 76), none, [76]⟩, ⟨some 17, .alloc [.int .u16 0, .int .u16 0, .int .u16 0, .int .u16 0, .int .u16 0, .int .u16 0, .int .u16 0, .int .u16 0, .int .u16 0, .int .u16 0, .int .u16 0, .int .u16 0, .int .u16 0, .int .u16 0, .int .u16 0, .int .u16 0], none, []⟩, ⟨none, .st 16 (.t 17) (.t 79), none, [79]⟩, ⟨some 18, .mov (.t 80), none, [80]⟩])
 (.seal_ 17
  (.seq
   (.region false [] [⟨some 82, .ld true 2 (.t 8), none, []⟩, ⟨some 83, .call 17 [.t 82], none, [82]⟩, ⟨some 81, .mov (.t 83), none, [83]⟩, ⟨some 84, .ext 0 (.t 81), none, []⟩, ⟨some 85, .ext 1 (.t 81), none, [81]⟩, ⟨some 19, .alloc [.int .u16 0, .int .u16 0, .int .u16 0, .int .u16 0, .int .u16 0, .int .u16 0, .int .u16 0, .int .u16 0, .int .u16 0, .int .u16 0, .int .u16 0, .int .u16 0, .int .u16 0, .int .u16 0, .int .u16 0, .int .u16 0], none, []⟩, ⟨none, .st 16 (.t 19) (.t 84), none, [84]⟩, ⟨some 20, .mov (.t 85), none, [85]⟩])
  (.seal_ 19
   (.seq
    (.seq
     (.draws (.tak 0 ⟨some 86, .mov (.t 18), none, []⟩ (.tak 1 ⟨some 87, .mov (.t 20), none, []⟩ (.tak 2 ⟨some 88, .bin true .neq (.t 86) (.t 87), none, []⟩ (.tak 3 ⟨some 89, .mov (.t 88), none, []⟩ (.tak 4 ⟨some 90, .ld true 16 (.t 17), some (89, false), []⟩ (.tak 5 ⟨some 91, .ld true 16 (.t 19), some (89, false), []⟩ (.tak 6 ⟨some 92, .eqs true [.i, .i, .i, .i, .i, .i, .i, .i, .i, .i, .i, .i, .i, .i, .i, .i] (.t 90) (.t 91), some (89, false), []⟩ (.tak 7 ⟨some 93, .pick (.t 89) (.c (.bool true)) (.t 92), none, []⟩ (.tak 8 ⟨some 94, .mov (.t 93), none, []⟩ (.alt 9 ⟨some 95, .ld true 2 (.t 7), some (94, false), []⟩ (.alt 10 ⟨some 96, .call 20 [.t 95], some (94, false), []⟩ (.alt 11 ⟨some 97, .ld true 2 (.t 8), some (94, false), []⟩ (.alt 12 ⟨some 98, .call 20 [.t 97], some (94, false), []⟩ (.alt 13 ⟨some 99, .call 19 [.t 96, .t 98], some (94, false), []⟩ (.tak 14 ⟨some 100, .un .not (.t 99), some (94, false), []⟩ (.tak 15 ⟨some 101, .pick (.t 94) (.c (.bool true)) (.t 100), none, []⟩ .done)) .stop) .stop) .stop) (.alt 11 ⟨some 97, .ld true 2 (.t 8), some (94, false), []⟩ (.alt 10 ⟨some 96, .call 20 [.t 95], some (94, false), []⟩ (.alt 12 ⟨some 98, .call 20 [.t 97], some (94, false), []⟩ (.alt 13 ⟨some 99, .call 19 [.t 96, .t 98], some (94, false), []⟩ (.tak 14 ⟨some 100, .un .not (.t 99), some (94, false), []⟩ (.tak 15 ⟨some 101, .pick (.t 94) (.c (.bool true)) (.t 100), none, []⟩ .done)) .stop) .stop) .stop) .stop)) (.alt 11 ⟨some 97, .ld true 2 (.t 8), some (94, false), []⟩ (.alt 9 ⟨some 95, .ld true 2 (.t 7), some (94, false), []⟩ (.alt 10 ⟨some 96, .call 20 [.t 95], some (94, false), []⟩ (.alt 12 ⟨some 98, .call 20 [.t 97], some (94, false), []⟩ (.alt 13 ⟨some 99, .call 19 [.t 96, .t 98], some (94, false), []⟩ (.tak 14 ⟨some 100, .un .not (.t 99), some (94, false), []⟩ (.tak 15 ⟨some 101, .pick (.t 94) (.c (.bool true)) (.t 100), none, []⟩ .done)) .stop) .stop) .stop) .stop) .stop))))))))))) [[], [], [0, 1], [2], [3], [3], [4, 5, 3], [3, 6], [7, 3], [8], [9, 8, 8], [8], [11, 10, 8], [10, 12, 12, 8], [13, 8], [8, 14]] [⟨some 86, .mov (.t 18), none, []⟩, ⟨some 87, .mov (.t 20), none, []⟩, ⟨some 88, .bin true .neq (.t 86) (.t 87), none, []⟩, ⟨some 89, .mov (.t 88), none, []⟩, ⟨some 90, .ld true 16 (.t 17), some (89, false), []⟩, ⟨some 91, .ld true 16 (.t 19), some (89, false), []⟩, ⟨some 92, .eqs true [.i, .i, .i, .i, .i, .i, .i, .i, .i, .i, .i, .i, .i, .i, .i, .i] (.t 90) (.t 91), some (89, false), []⟩, ⟨some 93, .pick (.t 89) (.c (.bool true)) (.t 92), none, []⟩, ⟨some 94, .mov (.t 93), none, []⟩, ⟨some 95, .ld true 2 (.t 7), some (94, false), []⟩, ⟨some 96, .call 20 [.t 95], some (94, false), []⟩, ⟨some 97, .ld true 2 (.t 8), some (94, false), []⟩, ⟨some 98, .call 20 [.t 97], some (94, false), []⟩, ⟨some 99, .call 19 [.t 96, .t 98], some (94, false), []⟩, ⟨some 100, .un .not (.t 99), some (94, false), []⟩, ⟨some 101, .pick (.t 94) (.c (.bool true)) (.t 100), none, []⟩])
    (.drop [8, 19, 20, 86, 87, 88, 89, 90, 91, 92, 93, 94, 95, 96, 97, 98, 99, 100]
     (.cond (.t 101)
       (.drop [7, 9, 17, 18, 101]
        (.seq
         (.region false [] [⟨some 6, .mov (.c (.bool false)), none, []⟩])
        .ret))
       (.drop [101]
        .skip))))
   (.seq
    (.seq
     (.region false [] [⟨some 102, .mov (.t 9), none, [9]⟩, ⟨some 103, .len false (.t 102), none, []⟩, ⟨some 104, .mov (.c (.int .i64 0)), none, []⟩])
    (.block 4
     (.loop [7, 17, 18, 102, 103, 104]
      (.seq
       (.region false [] [⟨some 105, .bin false .lss (.t 104) (.t 103), none, []⟩])
      (.seq
       (.cond (.t 105)
         (.drop [105]
          .skip)
         (.drop [102, 103, 104, 105]
          (.exit 4)))
      (.seq
       (.block 5
        (.seq
         (.region false [] [⟨some 106, .iax 17 (.t 102) (.t 104), none, []⟩, ⟨some 107, .ld true 17 (.t 106), none, [106]⟩, ⟨some 22, .alloc [.int .u8 0, .int .u16 0, .int .u16 0, .int .u16 0, .int .u16 0, .int .u16 0, .int .u16 0, .int .u16 0, .int .u16 0, .int .u16 0, .int .u16 0, .int .u16 0, .int .u16 0, .int .u16 0, .int .u16 0, .int .u16 0, .int .u16 0], none, []⟩, ⟨none, .st 17 (.t 22) (.t 107), none, [107]⟩])
        (.seal_ 22
         (.seq
          (.draws (.tak 0 ⟨some 108, .mov (.t 18), none, []⟩ (.tak 1 ⟨some 109, .mov (.t 108), none, []⟩ (.tak 2 ⟨some 110, .fad 1 (.t 22), some (109, true), []⟩ (.tak 3 ⟨some 111, .ld true 16 (.t 110), some (109, true), []⟩ (.tak 4 ⟨some 112, .ld true 16 (.t 17), some (109, true), []⟩ (.alt 5 ⟨some 113, .call 23 [.t 111, .t 112], some (109, true), []⟩ (.tak 6 ⟨some 114, .un .not (.t 113), some (109, true), []⟩ (.tak 7 ⟨some 115, .mov (.t 114), some (109, true), []⟩ (.tak 8 ⟨some 116, .fad 0 (.t 22), some (115, false), []⟩ (.tak 9 ⟨some 117, .ld false 1 (.t 116), some (115, false), []⟩ (.tak 10 ⟨some 118, .bin false .rem (.t 117) (.c (.int .u8 16)), some (115, false), []⟩ (.tak 11 ⟨some 119, .iaa 16 1 (.t 17) (.t 118), some (115, false), []⟩ (.tak 12 ⟨some 120, .ld false 1 (.t 119), some (115, false), []⟩ (.tak 13 ⟨some 121, .fad 0 (.t 22), some (115, false), []⟩ (.tak 14 ⟨some 122, .ld false 1 (.t 121), some (115, false), []⟩ (.tak 15 ⟨some 123, .bin false .rem (.t 122) (.c (.int .u8 16)), some (115, false), []⟩ (.tak 16 ⟨some 124, .fad 1 (.t 22), some (115, false), []⟩ (.tak 17 ⟨some 125, .iaa 16 1 (.t 124) (.t 123), some (115, false), []⟩ (.tak 18 ⟨some 126, .ld false 1 (.t 125), some (115, false), []⟩ (.tak 19 ⟨some 127, .bin false .leq (.t 120) (.t 126), some (115, false), []⟩ (.tak 20 ⟨some 128, .pick (.t 115) (.c (.bool true)) (.t 127), some (109, true), []⟩ (.tak 21 ⟨some 129, .pick (.t 109) (.t 128) (.c (.bool false)), none, []⟩ .done)))))))))))))))) .stop)))))) [[], [0], [1], [2, 1], [1], [3, 4, 1, 1], [5, 1], [6, 5, 1], [7], [8, 7], [9, 7], [10, 7], [11, 7], [7], [13, 7], [14, 7], [7], [16, 15, 7], [17, 7], [12, 18, 7], [7, 19, 1], [1, 20]] [⟨some 108, .mov (.t 18), none, []⟩, ⟨some 109, .mov (.t 108), none, []⟩, ⟨some 110, .fad 1 (.t 22), some (109, true), []⟩, ⟨some 111, .ld true 16 (.t 110), some (109, true), []⟩, ⟨some 112, .ld true 16 (.t 17), some (109, true), []⟩, ⟨some 113, .call 23 [.t 111, .t 112], some (109, true), []⟩, ⟨some 114, .un .not (.t 113), some (109, true), []⟩, ⟨some 115, .mov (.t 114), some (109, true), []⟩, ⟨some 116, .fad 0 (.t 22), some (115, false), []⟩, ⟨some 117, .ld false 1 (.t 116), some (115, false), []⟩, ⟨some 118, .bin false .rem (.t 117) (.c (.int .u8 16)), some (115, false), []⟩, ⟨some 119, .iaa 16 1 (.t 17) (.t 118), some (115, false), []⟩, ⟨some 120, .ld false 1 (.t 119), some (115, false), []⟩, ⟨some 121, .fad 0 (.t 22), some (115, false), []⟩, ⟨some 122, .ld false 1 (.t 121), some (115, false), []⟩, ⟨some 123, .bin false .rem (.t 122) (.c (.int .u8 16)), some (115, false), []⟩, ⟨some 124, .fad 1 (.t 22), some (115, false), []⟩, ⟨some 125, .iaa 16 1 (.t 124) (.t 123), some (115, false), []⟩, ⟨some 126, .ld false 1 (.t 125), some (115, false), []⟩, ⟨some 127, .bin false .leq (.t 120) (.t 126), some (115, false), []⟩, ⟨some 128, .pick (.t 115) (.c (.bool true)) (.t 127), some (109, true), []⟩, ⟨some 129, .pick (.t 109) (.t 128) (.c (.bool false)), none, []⟩])
         (.drop [22, 108, 109, 110, 111, 112, 113, 114, 115, 116, 117, 118, 119, 120, 121, 122, 123, 124, 125, 126, 127, 128]
          (.cond (.t 129)
            (.drop [7, 17, 18, 102, 103, 104, 129]
             (.seq
              (.region false [] [⟨some 6, .mov (.c (.bool false)), none, []⟩])
             .ret))
            (.drop [129]
             .skip)))))))
      (.region false [] [⟨some 130, .bin false .add (.t 104) (.c (.int .i64 1)), none, [104]⟩, ⟨some 104, .mov (.t 130), none, [130]⟩])))))))
   (.seq
    (.region false [] [⟨some 131, .mov (.t 18), none, []⟩, ⟨some 132, .un .not (.t 131), none, [131]⟩, ⟨some 133, .mov (.t 132), none, [132]⟩, ⟨some 134, .ld true 2 (.t 7), some (133, false), [7]⟩, ⟨some 135, .ld true 16 (.t 17), some (133, false), []⟩, ⟨some 136, .call 21 [.t 134, .t 135], some (133, false), [134, 135]⟩, ⟨some 137, .pick (.t 133) (.c (.bool true)) (.t 136), none, [133, 136]⟩, ⟨some 138, .mov (.t 137), none, [137]⟩, ⟨some 139, .mov (.t 18), some (138, true), [18]⟩, ⟨some 140, .mov (.t 139), some (138, true), [139]⟩, ⟨some 141, .ld true 16 (.t 17), some (140, false), [17]⟩, ⟨some 142, .bld [.int .u16 0, .int .u16 0, .int .u16 0, .int .u16 0, .int .u16 0, .int .u16 0, .int .u16 0, .int .u16 0, .int .u16 0, .int .u16 0, .int .u16 0, .int .u16 0, .int .u16 0, .int .u16 0, .int .u16 0, .int .u16 0] [], some (140, false), []⟩, ⟨some 143, .eqs false [.i, .i, .i, .i, .i, .i, .i, .i, .i, .i, .i, .i, .i, .i, .i, .i] (.t 141) (.t 142), some (140, false), [141, 142]⟩, ⟨some 144, .pick (.t 140) (.c (.bool true)) (.t 143), some (138, true), [140, 143]⟩, ⟨some 145, .pick (.t 138) (.t 144) (.c (.bool false)), none, [138, 144]⟩, ⟨some 6, .mov (.t 145), none, [145]⟩])
   .ret))))))))))))))
def rs_5 : List ARes := [.tmp 6]
theorem g_5 : Good Try.prog 5 ac_5 rs_5 := ⟨Try.f5, Try.f5.body.getD .skip, by kernel_rfl, by kernel_rfl, by kernel_rfl, ⟨by kernel_rfl, by kernel_rfl⟩, by kernel_rfl, by kernel_rfl⟩
theorem ok_5 {Γ : Env} (hΓ : EnvOk Try.prog Γ) (sp : Spec) (h : WB Γ ac_5 rs_5 sp) : CallOk Try.prog 5 sp := g_5.ok hΓ mix_ok sp h

/-- chantry/chantrylaw13.FlushLate -/
def ac_6 : ACode :=
 (.seq
  (.region false [] [⟨some 5, .box (.t 2), none, [2]⟩, ⟨some 6, .mov (.c (.bool false)), none, []⟩])
 (.seal_ 5
  (.seq
   (.seq
    (.region false [] [⟨some 14, .call 13 [], none, []⟩, ⟨some 15, .un .not (.t 14), none, [14]⟩])
   (.cond (.t 15)
     (.drop [0, 1, 5, 15]
      (.seq
       (.region false [] [⟨some 6, .mov (.c (.bool false)), none, []⟩])
      .ret))
     (.drop [15]
      .skip)))
  (.seq
   (.region false [] [⟨some 16, .mov (.t 0), none, []⟩, ⟨some 17, .bld [.int .u16 0, .slice none 0 0] [(0, 1, .t 16)], none, [16]⟩, ⟨some 7, .alloc [.int .u16 0, .slice none 0 0], none, []⟩, ⟨none, .st 2 (.t 7) (.t 17), none, [17]⟩])
  (.seq
   (.region false [] [⟨some 8, .mov (.c (.int .u16 0)), none, []⟩])
  (.seq
   (.seq
    (.region false [] [⟨some 9, .mov (.c (.int .i64 0)), none, []⟩])
   (.block 0
    (.loop [0, 1, 5, 7, 8, 9]
     (.seq
      (.seq
       (.region false [] [⟨some 18, .mov (.t 9), none, []⟩, ⟨some 19, .mov (.t 1), none, []⟩, ⟨some 20, .len false (.t 19), none, [19]⟩, ⟨some 21, .bin false .lss (.t 18) (.t 20), none, [18, 20]⟩, ⟨some 22, .mov (.t 21), none, [21]⟩, ⟨some 23, .mov (.t 9), some (22, true), []⟩, ⟨some 24, .bin false .lss (.t 23) (.c (.int .i64 40)), some (22, true), [23]⟩, ⟨some 25, .pick (.t 22) (.t 24) (.c (.bool false)), none, [22, 24]⟩])
      (.cond (.t 25)
        (.drop [25]
         .skip)
        (.drop [0, 1, 5, 7, 8, 9, 25]
         (.exit 0))))
     (.seq
      (.block 1
       (.seq
        (.draws (.tak 1 ⟨some 30, .mov (.t 1), none, []⟩ (.tak 2 ⟨some 31, .mov (.t 9), none, []⟩ (.tak 3 ⟨some 32, .iax 17 (.t 30) (.t 31), none, []⟩ (.tak 4 ⟨some 33, .ld true 17 (.t 32), none, []⟩ (.alt 0 ⟨some 29, .ld true 2 (.t 7), none, []⟩ (.alt 5 ⟨some 34, .call 14 [.t 29, .t 33], none, []⟩ (.tak 6 ⟨some 28, .mov (.t 34), none, []⟩ (.tak 7 ⟨some 35, .ext 0 (.t 28), none, []⟩ (.tak 8 ⟨some 36, .ext 1 (.t 28), none, []⟩ (.alt 9 ⟨some 10, .alloc [.int .u16 0, .slice none 0 0], none, []⟩ (.alt 10 ⟨none, .st 2 (.t 10) (.t 35), none, []⟩ (.tak 11 ⟨some 11, .mov (.t 36), none, []⟩ .done) .stop) .stop)))) (.alt 9 ⟨some 10, .alloc [.int .u16 0, .slice none 0 0], none, []⟩ (.alt 5 ⟨some 34, .call 14 [.t 29, .t 33], none, []⟩ (.tak 6 ⟨some 28, .mov (.t 34), none, []⟩ (.tak 7 ⟨some 35, .ext 0 (.t 28), none, []⟩ (.tak 8 ⟨some 36, .ext 1 (.t 28), none, []⟩ (.alt 10 ⟨none, .st 2 (.t 10) (.t 35), none, []⟩ (.tak 11 ⟨some 11, .mov (.t 36), none, []⟩ .done) .stop)))) .stop) .stop)) (.alt 9 ⟨some 10, .alloc [.int .u16 0, .slice none 0 0], none, []⟩ (.alt 0 ⟨some 29, .ld true 2 (.t 7), none, []⟩ (.alt 5 ⟨some 34, .call 14 [.t 29, .t 33], none, []⟩ (.tak 6 ⟨some 28, .mov (.t 34), none, []⟩ (.tak 7 ⟨some 35, .ext 0 (.t 28), none, []⟩ (.tak 8 ⟨some 36, .ext 1 (.t 28), none, []⟩ (.alt 10 ⟨none, .st 2 (.t 10) (.t 35), none, []⟩ (.tak 11 ⟨some 11, .mov (.t 36), none, []⟩ .done) .stop)))) .stop) .stop) .stop)))))) [[], [], [], [1, 2], [3], [0, 4], [5], [6], [6], [], [9, 7, 5, 0, 1, 2, 3, 4, 5, 6, 7, 9], [8, 10, 0, 1, 2, 3, 4, 5, 6, 7, 8, 9, 10]] [⟨some 29, .ld true 2 (.t 7), none, []⟩, ⟨some 30, .mov (.t 1), none, []⟩, ⟨some 31, .mov (.t 9), none, []⟩, ⟨some 32, .iax 17 (.t 30) (.t 31), none, []⟩, ⟨some 33, .ld true 17 (.t 32), none, []⟩, ⟨some 34, .call 14 [.t 29, .t 33], none, []⟩, ⟨some 28, .mov (.t 34), none, []⟩, ⟨some 35, .ext 0 (.t 28), none, []⟩, ⟨some 36, .ext 1 (.t 28), none, []⟩, ⟨some 10, .alloc [.int .u16 0, .slice none 0 0], none, []⟩, ⟨none, .st 2 (.t 10) (.t 35), none, []⟩, ⟨some 11, .mov (.t 36), none, []⟩])
       (.drop [28, 29, 30, 31, 32, 33, 34, 35, 36]
        (.seq
         (.seq
          (.region false [] [⟨some 37, .mov (.t 11), none, [11]⟩, ⟨some 38, .bin false .eql (.t 37) (.c (.int .i64 0)), none, [37]⟩])
         (.cond (.t 38)
           (.drop [38]
            (.region false [] [⟨some 39, .mov (.t 8), none, [8]⟩, ⟨some 40, .mov (.t 1), none, []⟩, ⟨some 41, .mov (.t 9), none, []⟩, ⟨some 42, .iax 17 (.t 40) (.t 41), none, [40, 41]⟩, ⟨some 43, .fad 0 (.t 42), none, [42]⟩, ⟨some 44, .ld false 1 (.t 43), none, [43]⟩, ⟨some 45, .bin false .shl (.c (.int .u16 1)) (.t 44), none, [44]⟩, ⟨some 46, .bin false .or (.t 39) (.t 45), none, [39, 45]⟩, ⟨some 8, .mov (.t 46), none, [46]⟩]))
           (.drop [38]
            .skip)))
        (.seal_ 10
         (.seq
          (.region false [] [⟨some 47, .ld true 2 (.t 10), none, [10]⟩, ⟨none, .st 2 (.t 7) (.t 47), none, [47]⟩])
         (.seq
          (.region false [] [⟨some 49, .ld true 2 (.t 7), none, []⟩, ⟨some 50, .call 17 [.t 49], none, [49]⟩, ⟨some 48, .mov (.t 50), none, [50]⟩, ⟨some 51, .ext 0 (.t 48), none, []⟩, ⟨some 52, .ext 1 (.t 48), none, [48]⟩, ⟨some 12, .alloc [.int .u16 0, .int .u16 0, .int .u16 0, .int .u16 0, .int .u16 0, .int .u16 0, .int .u16 0, .int .u16 0, .int .u16 0, .int .u16 0, .int .u16 0, .int .u16 0, .int .u16 0, .int .u16 0, .int .u16 0, .int .u16 0], none, []⟩, ⟨none, .st 16 (.t 12) (.t 51), none, [51]⟩, ⟨some 13, .mov (.t 52), none, [52]⟩])
         (.seal_ 12
          (.seq
           (.region false [] [⟨some 53, .mov (.t 13), none, []⟩, ⟨some 54, .mov (.t 8), none, []⟩, ⟨some 55, .mov (.t 0), none, []⟩, ⟨some 56, .bin false .eql (.t 54) (.t 55), none, [54, 55]⟩, ⟨some 57, .mov (.t 56), none, [56]⟩, ⟨some 58, .mov (.t 0), some (57, true), []⟩, ⟨some 59, .bin false .neq (.t 58) (.c (.int .u16 0)), some (57, true), [58]⟩, ⟨some 60, .pick (.t 57) (.t 59) (.c (.bool false)), none, [57, 59]⟩, ⟨some 61, .bin true .neq (.t 53) (.t 60), none, [53, 60]⟩, ⟨some 62, .mov (.t 61), none, [61]⟩, ⟨some 63, .ld true 2 (.t 7), some (62, false), []⟩, ⟨some 64, .ld true 16 (.t 5), some (62, false), []⟩, ⟨some 65, .call 21 [.t 63, .t 64], some (62, false), [63, 64]⟩, ⟨some 66, .mov (.t 13), some (62, false), [13]⟩, ⟨some 67, .mov (.t 66), some (62, false), [66]⟩, ⟨some 68, .ld true 16 (.t 5), some (67, true), []⟩, ⟨some 69, .ld true 16 (.t 12), some (67, true), [12]⟩, ⟨some 70, .eqs false [.i, .i, .i, .i, .i, .i, .i, .i, .i, .i, .i, .i, .i, .i, .i, .i] (.t 68) (.t 69), some (67, true), [68, 69]⟩, ⟨some 71, .pick (.t 67) (.t 70) (.c (.bool false)), some (62, false), [67, 70]⟩, ⟨some 72, .bin true .neq (.t 65) (.t 71), some (62, false), [65, 71]⟩, ⟨some 73, .pick (.t 62) (.c (.bool true)) (.t 72), none, [62, 72]⟩])
          (.cond (.t 73)
            (.drop [0, 1, 5, 7, 8, 9, 73]
             (.seq
              (.region false [] [⟨some 6, .mov (.c (.bool false)), none, []⟩])
             .ret))
            (.drop [73]
             .skip)))))))))))
     (.region false [] [⟨some 26, .mov (.t 9), none, [9]⟩, ⟨some 27, .bin false .add (.t 26) (.c (.int .i64 1)), none, [26]⟩, ⟨some 9, .mov (.t 27), none, [27]⟩]))))))
  (.seq
   (.region false [] [⟨some 6, .mov (.c (.bool true)), none, []⟩])
  .ret)))))))
def rs_6 : List ARes := [.tmp 6]
theorem g_6 : Good Try.prog 6 ac_6 rs_6 := ⟨Try.f6, Try.f6.body.getD .skip, by kernel_rfl, by kernel_rfl, by kernel_rfl, ⟨by kernel_rfl, by kernel_rfl⟩, by kernel_rfl, by kernel_rfl⟩
theorem ok_6 {Γ : Env} (hΓ : EnvOk Try.prog Γ) (sp : Spec) (h : WB Γ ac_6 rs_6 sp) : CallOk Try.prog 6 sp := g_6.ok hΓ mix_ok sp h

/-- chantry/chantrylaw13.FlushOnce -/
def ac_7 : ACode :=
 (.seq
  (.region false [] [⟨some 4, .mov (.c (.bool false)), none, []⟩])
 (.seq
  (.seq
   (.region false [] [⟨some 14, .call 13 [], none, []⟩, ⟨some 15, .un .not (.t 14), none, [14]⟩])
  (.cond (.t 15)
    (.drop [0, 1, 15]
     (.seq
      (.region false [] [⟨some 4, .mov (.c (.bool false)), none, []⟩])
     .ret))
    (.drop [15]
     .skip)))
 (.seq
  (.region false [] [⟨some 16, .mov (.t 0), none, [0]⟩, ⟨some 17, .bld [.int .u16 0, .slice none 0 0] [(0, 1, .t 16)], none, [16]⟩, ⟨some 5, .alloc [.int .u16 0, .slice none 0 0], none, []⟩, ⟨none, .st 2 (.t 5) (.t 17), none, [17]⟩])
 (.seq
  (.region false [] [⟨some 6, .alloc [.int .u8 0, .int .u16 0, .int .u16 0, .int .u16 0, .int .u16 0, .int .u16 0, .int .u16 0, .int .u16 0, .int .u16 0, .int .u16 0, .int .u16 0, .int .u16 0, .int .u16 0, .int .u16 0, .int .u16 0, .int .u16 0, .int .u16 0, .int .u8 0, .int .u16 0, .int .u16 0, .int .u16 0, .int .u16 0, .int .u16 0, .int .u16 0, .int .u16 0, .int .u16 0, .int .u16 0, .int .u16 0, .int .u16 0, .int .u16 0, .int .u16 0, .int .u16 0, .int .u16 0, .int .u16 0, .int .u8 0, .int .u16 0, .int .u16 0, .int .u16 0, .int .u16 0, .int .u16 0, .int .u16 0, .int .u16 0, .int .u16 0, .int .u16 0, .int .u16 0, .int .u16 0, .int .u16 0, .int .u16 0, .int .u16 0, .int .u16 0, .int .u16 0, .int .u8 0, .int .u16 0, .int .u16 0, .int .u16 0, .int .u16 0, .int .u16 0, .int .u16 0, .int .u16 0, .int .u16 0, .int .u16 0, .int .u16 0, .int .u16 0, .int .u16 0, .int .u16 0, .int .u16 0, .int .u16 0, .int .u16 0, .int .u8 0, .int .u16 0, .int .u16 0, .int .u16 0, .int .u16 0, .int .u16 0, .int .u16 0, .int .u16 0, .int .u16 0, .int .u16 0, .int .u16 0, .int .u16 0, .int .u16 0, .int .u16 0, .int .u16 0, .int .u16 0, .int .u16 0, .int .u8 0, .int .u16 0, .int .u16 0, .int .u16 0, .int .u16 0, .int .u16 0, .int .u16 0, .int .u16 0, .int .u16 0, .int .u16 0, .int .u16 0, .int .u16 0, .int .u16 0, .int .u16 0, .int .u16 0, .int .u16 0, .int .u16 0, .int .u8 0, .int .u16 0, .int .u16 0, .int .u16 0, .int .u16 0, .int .u16 0, .int .u16 0, .int .u16 0, .int .u16 0, .int .u16 0, .int .u16 0, .int .u16 0, .int .u16 0, .int .u16 0, .int .u16 0, .int .u16 0, .int .u16 0, .int .u8 0, .int .u16 0, .int .u16 0, .int .u16 0, .int .u16 0, .int .u16 0, .int .u16 0, .int .u16 0, .int .u16 0, .int .u16 0, .int .u16 0, .int .u16 0, .int .u16 0, .int .u16 0, .int .u16 0, .int .u16 0, .int .u16 0, .int .u8 0, .int .u16 0, .int .u16 0, .int .u16 0, .int .u16 0, .int .u16 0, .int .u16 0, .int .u16 0, .int .u16 0, .int .u16 0, .int .u16 0, .int .u16 0, .int .u16 0, .int .u16 0, .int .u16 0, .int .u16 0, .int .u16 0, .int .u8 0, .int .u16 0, .int .u16 0, .int .u16 0, .int .u16 0, .int .u16 0, .int .u16 0, .int .u16 0, .int .u16 0, .int .u16 0, .int .u16 0, .int .u16 0, .int .u16 0, .int .u16 0, .int .u16 0, .int .u16 0, .int .u16 0, .int .u8 0, .int .u16 0, .int .u16 0, .int .u16 0, .int .u16 0, .int .u16 0, .int .u16 0, .int .u16 0, .int .u16 0, .int .u16 0, .int .u16 0, .int .u16 0, .int .u16 0, .int .u16 0, .int .u16 0, .int .u16 0, .int .u16 0, .int .u8 0, .int .u16 0, .int .u16 0, .int .u16 0, .int .u16 0, .int .u16 0, .int .u16 0, .int .u16 0, .int .u16 0, .int .u16 0, .int .u16 0, .int .u16 0, .int .u16 0, .int .u16 0, .int .u16 0, .int .u16 0, .int .u16 0, .int .u8 0, .int .u16 0, .int .u16 0, .int .u16 0, .int .u16 0, .int .u16 0, .int .u16 0, .int .u16 0, .int .u16 0, .int .u16 0, .int .u16 0, .int .u16 0, .int .u16 0, .int .u16 0, .int .u16 0, .int .u16 0, .int .u16 0, .int .u8 0, .int .u16 0, .int .u16 0, .int .u16 0, .int .u16 0, .int .u16 0, .int .u16 0, .int .u16 0, .int .u16 0, .int .u16 0, .int .u16 0, .int .u16 0, .int .u16 0, .int .u16 0, .int .u16 0, .int .u16 0, .int .u16 0, .int .u8 0, .int .u16 0, .int .u16 0, .int .u16 0, .int .u16 0, .int .u16 0, .int .u16 0, .int .u16 0, .int .u16 0, .int .u16 0, .int .u16 0, .int .u16 0, .int .u16 0, .int .u16 0, .int .u16 0, .int .u16 0, .int .u16 0, .int .u8 0, .int .u16 0, .int .u16 0, .int .u16 0, .int .u16 0, .int .u16 0, .int .u16 0, .int .u16 0, .int .u16 0, .int .u16 0, .int .u16 0, .int .u16 0, .int .u16 0, .int .u16 0, .int .u16 0, .int .u16 0, .int .u16 0], none, []⟩])
 (.seq
  (.region false [] [⟨some 7, .mov (.c (.int .u16 0)), none, []⟩])
 (.seq
  (.seq
   (.region false [] [⟨some 8, .mov (.c (.int .i64 0)), none, []⟩])
  (.block 0
   (.loop [1, 5, 6, 7, 8]
    (.seq
     (.seq
      (.region false [] [⟨some 18, .mov (.t 8), none, []⟩, ⟨some 19, .mov (.t 1), none, []⟩, ⟨some 20, .len false (.t 19), none, [19]⟩, ⟨some 21, .bin false .lss (.t 18) (.t 20), none, [18, 20]⟩, ⟨some 22, .mov (.t 21), none, [21]⟩, ⟨some 23, .mov (.t 8), some (22, true), []⟩, ⟨some 24, .bin false .lss (.t 23) (.c (.int .i64 40)), some (22, true), [23]⟩, ⟨some 25, .pick (.t 22) (.t 24) (.c (.bool false)), none, [22, 24]⟩])
     (.cond (.t 25)
       (.drop [25]
        .skip)
       (.drop [1, 5, 6, 7, 8, 25]
        (.exit 0))))
    (.seq
     (.block 1
      (.seq
       (.region false [] [⟨some 28, .mov (.t 1), none, []⟩, ⟨some 29, .mov (.t 8), none, []⟩, ⟨some 30, .iax 17 (.t 28) (.t 29), none, [28, 29]⟩, ⟨some 31, .ld true 17 (.t 30), none, [30]⟩, ⟨some 9, .alloc [.int .u8 0, .int .u16 0, .int .u16 0, .int .u16 0, .int .u16 0, .int .u16 0, .int .u16 0, .int .u16 0, .int .u16 0, .int .u16 0, .int .u16 0, .int .u16 0, .int .u16 0, .int .u16 0, .int .u16 0, .int .u16 0, .int .u16 0], none, []⟩, ⟨none, .st 17 (.t 9) (.t 31), none, [31]⟩])
      (.seal_ 9
       (.seq
        (.region false [] [⟨some 33, .ld true 2 (.t 5), none, []⟩, ⟨some 34, .ld true 17 (.t 9), none, []⟩, ⟨some 35, .call 14 [.t 33, .t 34], none, [33, 34]⟩, ⟨some 32, .mov (.t 35), none, [35]⟩, ⟨some 36, .ext 0 (.t 32), none, []⟩, ⟨some 37, .ext 1 (.t 32), none, [32]⟩, ⟨some 10, .alloc [.int .u16 0, .slice none 0 0], none, []⟩, ⟨none, .st 2 (.t 10) (.t 36), none, [36]⟩, ⟨some 11, .mov (.t 37), none, [37]⟩])
       (.seal_ 10
        (.seq
         (.seq
          (.draws (.tak 0 ⟨some 38, .fad 0 (.t 9), none, []⟩ (.tak 1 ⟨some 39, .ld false 1 (.t 38), none, []⟩ (.tak 2 ⟨some 40, .bin false .lss (.t 39) (.c (.int .u8 16)), none, []⟩ (.tak 3 ⟨some 41, .mov (.t 40), none, []⟩ (.tak 4 ⟨some 42, .mov (.t 7), some (41, true), []⟩ (.tak 5 ⟨some 43, .fad 0 (.t 9), some (41, true), []⟩ (.tak 6 ⟨some 44, .ld false 1 (.t 43), some (41, true), []⟩ (.tak 7 ⟨some 45, .bin false .shr (.t 42) (.t 44), some (41, true), []⟩ (.tak 8 ⟨some 46, .bin false .rem (.t 45) (.c (.int .u16 2)), some (41, true), []⟩ (.tak 9 ⟨some 47, .bin false .eql (.t 46) (.c (.int .u16 1)), some (41, true), []⟩ (.tak 10 ⟨some 48, .pick (.t 41) (.t 47) (.c (.bool false)), none, []⟩ (.tak 11 ⟨some 49, .mov (.t 48), none, []⟩ (.tak 12 ⟨some 50, .mov (.t 11), some (49, true), []⟩ (.tak 13 ⟨some 51, .bin false .neq (.t 50) (.c (.int .i64 9)), some (49, true), []⟩ (.tak 14 ⟨some 52, .pick (.t 49) (.t 51) (.c (.bool false)), none, []⟩ (.tak 15 ⟨some 53, .mov (.t 52), none, []⟩ (.tak 16 ⟨some 54, .mov (.t 11), some (53, false), []⟩ (.tak 17 ⟨some 55, .bin false .neq (.t 54) (.c (.int .i64 0)), some (53, false), []⟩ (.tak 18 ⟨some 56, .mov (.t 55), some (53, false), []⟩ (.tak 19 ⟨some 57, .ld true 2 (.t 10), some (56, true), []⟩ (.alt 20 ⟨some 58, .call 20 [.t 57], some (56, true), []⟩ (.alt 21 ⟨some 59, .ld true 2 (.t 5), some (56, true), []⟩ (.alt 22 ⟨some 60, .call 20 [.t 59], some (56, true), []⟩ (.alt 23 ⟨some 61, .call 19 [.t 58, .t 60], some (56, true), []⟩ (.tak 24 ⟨some 62, .un .not (.t 61), some (56, true), []⟩ (.tak 25 ⟨some 63, .pick (.t 56) (.t 62) (.c (.bool false)), some (53, false), []⟩ (.tak 26 ⟨some 64, .pick (.t 53) (.c (.bool true)) (.t 63), none, []⟩ .done))) .stop) .stop) .stop) (.alt 21 ⟨some 59, .ld true 2 (.t 5), some (56, true), []⟩ (.alt 20 ⟨some 58, .call 20 [.t 57], some (56, true), []⟩ (.alt 22 ⟨some 60, .call 20 [.t 59], some (56, true), []⟩ (.alt 23 ⟨some 61, .call 19 [.t 58, .t 60], some (56, true), []⟩ (.tak 24 ⟨some 62, .un .not (.t 61), some (56, true), []⟩ (.tak 25 ⟨some 63, .pick (.t 56) (.t 62) (.c (.bool false)), some (53, false), []⟩ (.tak 26 ⟨some 64, .pick (.t 53) (.c (.bool true)) (.t 63), none, []⟩ .done))) .stop) .stop) .stop) .stop)))))))))))))))))))))) [[], [0], [1], [2], [3], [3], [5, 3], [4, 6, 3], [7, 3], [8, 3], [3, 9], [10, 3], [11], [12, 11], [11, 13], [14, 11], [15], [16, 15], [17, 15, 15], [18], [19, 18, 18], [18], [21, 20, 18], [20, 22, 22, 18], [23, 18], [18, 24, 15], [15, 25]] [⟨some 38, .fad 0 (.t 9), none, []⟩, ⟨some 39, .ld false 1 (.t 38), none, []⟩, ⟨some 40, .bin false .lss (.t 39) (.c (.int .u8 16)), none, []⟩, ⟨some 41, .mov (.t 40), none, []⟩, ⟨some 42, .mov (.t 7), some (41, true), []⟩, ⟨some 43, .fad 0 (.t 9), some (41, true), []⟩, ⟨some 44, .ld false 1 (.t 43), some (41, true), []⟩, ⟨some 45, .bin false .shr (.t 42) (.t 44), some (41, true), []⟩, ⟨some 46, .bin false .rem (.t 45) (.c (.int .u16 2)), some (41, true), []⟩, ⟨some 47, .bin false .eql (.t 46) (.c (.int .u16 1)), some (41, true), []⟩, ⟨some 48, .pick (.t 41) (.t 47) (.c (.bool false)), none, []⟩, ⟨some 49, .mov (.t 48), none, []⟩, ⟨some 50, .mov (.t 11), some (49, true), []⟩, ⟨some 51, .bin false .neq (.t 50) (.c (.int .i64 9)), some (49, true), []⟩, ⟨some 52, .pick (.t 49) (.t 51) (.c (.bool false)), none, []⟩, ⟨some 53, .mov (.t 52), none, []⟩, ⟨some 54, .mov (.t 11), some (53, false), []⟩, ⟨some 55, .bin false .neq (.t 54) (.c (.int .i64 0)), some (53, false), []⟩, ⟨some 56, .mov (.t 55), some (53, false), []⟩, ⟨some 57, .ld true 2 (.t 10), some (56, true), []⟩, ⟨some 58, .call 20 [.t 57], some (56, true), []⟩, ⟨some 59, .ld true 2 (.t 5), some (56, true), []⟩, ⟨some 60, .call 20 [.t 59], some (56, true), []⟩, ⟨some 61, .call 19 [.t 58, .t 60], some (56, true), []⟩, ⟨some 62, .un .not (.t 61), some (56, true), []⟩, ⟨some 63, .pick (.t 56) (.t 62) (.c (.bool false)), some (53, false), []⟩, ⟨some 64, .pick (.t 53) (.c (.bool true)) (.t 63), none, []⟩])
         (.drop [38, 39, 40, 41, 42, 43, 44, 45, 46, 47, 48, 49, 50, 51, 52, 53, 54, 55, 56, 57, 58, 59, 60, 61, 62, 63]
          (.cond (.t 64)
            (.drop [1, 5, 6, 7, 8, 9, 10, 11, 64]
             (.seq
              (.region false [] [⟨some 4, .mov (.c (.bool false)), none, []⟩])
             .ret))
            (.drop [64]
             .skip))))
        (.seq
         (.region false [] [⟨some 65, .ld true 2 (.t 10), none, [10]⟩, ⟨none, .st 2 (.t 5) (.t 65), none, [65]⟩])
        (.seq
         (.seq
          (.region false [] [⟨some 66, .mov (.t 11), none, [11]⟩, ⟨some 67, .bin false .eql (.t 66) (.c (.int .i64 0)), none, [66]⟩])
         (.cond (.t 67)
           (.drop [67]
            (.seq
             (.region false [] [⟨some 68, .fad 0 (.t 9), none, []⟩, ⟨some 69, .ld false 1 (.t 68), none, [68]⟩, ⟨some 70, .bin false .rem (.t 69) (.c (.int .u8 16)), none, [69]⟩, ⟨some 71, .ld true 17 (.t 9), none, []⟩, ⟨some 72, .iaa 16 17 (.t 6) (.t 70), none, [70]⟩, ⟨none, .st 17 (.t 72) (.t 71), none, [71, 72]⟩])
            (.region false [] [⟨some 73, .mov (.t 7), none, [7]⟩, ⟨some 74, .fad 0 (.t 9), none, [9]⟩, ⟨some 75, .ld false 1 (.t 74), none, [74]⟩, ⟨some 76, .bin false .rem (.t 75) (.c (.int .u8 16)), none, [75]⟩, ⟨some 77, .bin false .shl (.c (.int .u16 1)) (.t 76), none, [76]⟩, ⟨some 78, .bin false .or (.t 73) (.t 77), none, [73, 77]⟩, ⟨some 7, .mov (.t 78), none, [78]⟩])))
           (.drop [9, 67]
            .skip)))
        (.seq
         (.region false [] [⟨some 79, .fad 1 (.t 5), none, []⟩, ⟨some 80, .ld false 1 (.t 79), none, [79]⟩, ⟨some 81, .len false (.t 80), none, []⟩, ⟨some 82, .mov (.c (.int .i64 0)), none, []⟩])
        (.block 2
         (.loop [1, 5, 6, 7, 8, 80, 81, 82]
          (.seq
           (.region false [] [⟨some 83, .bin false .lss (.t 82) (.t 81), none, []⟩])
          (.seq
           (.cond (.t 83)
             (.drop [83]
              .skip)
             (.drop [80, 81, 82, 83]
              (.exit 2)))
          (.seq
           (.block 3
            (.seq
             (.region false [] [⟨some 84, .iax 17 (.t 80) (.t 82), none, []⟩, ⟨some 85, .ld true 17 (.t 84), none, [84]⟩, ⟨some 13, .alloc [.int .u8 0, .int .u16 0, .int .u16 0, .int .u16 0, .int .u16 0, .int .u16 0, .int .u16 0, .int .u16 0, .int .u16 0, .int .u16 0, .int .u16 0, .int .u16 0, .int .u16 0, .int .u16 0, .int .u16 0, .int .u16 0, .int .u16 0], none, []⟩, ⟨none, .st 17 (.t 13) (.t 85), none, [85]⟩])
            (.seal_ 13
             (.seq
              (.draws (.tak 0 ⟨some 86, .ld true 17 (.t 13), none, []⟩ (.tak 1 ⟨some 87, .fad 0 (.t 13), none, []⟩ (.tak 2 ⟨some 88, .ld false 1 (.t 87), none, []⟩ (.tak 3 ⟨some 89, .bin false .rem (.t 88) (.c (.int .u8 16)), none, []⟩ (.tak 4 ⟨some 90, .iaa 16 17 (.t 6) (.t 89), none, []⟩ (.alt 5 ⟨some 91, .ld true 17 (.t 90), none, []⟩ (.tak 6 ⟨some 92, .eqs true [.i, .i, .i, .i, .i, .i, .i, .i, .i, .i, .i, .i, .i, .i, .i, .i, .i] (.t 86) (.t 91), none, []⟩ .done) .stop)))))) [[], [], [1], [2], [3], [4], [0, 5]] [⟨some 86, .ld true 17 (.t 13), none, []⟩, ⟨some 87, .fad 0 (.t 13), none, []⟩, ⟨some 88, .ld false 1 (.t 87), none, []⟩, ⟨some 89, .bin false .rem (.t 88) (.c (.int .u8 16)), none, []⟩, ⟨some 90, .iaa 16 17 (.t 6) (.t 89), none, []⟩, ⟨some 91, .ld true 17 (.t 90), none, []⟩, ⟨some 92, .eqs true [.i, .i, .i, .i, .i, .i, .i, .i, .i, .i, .i, .i, .i, .i, .i, .i, .i] (.t 86) (.t 91), none, []⟩])
             (.drop [13, 86, 87, 88, 89, 90, 91]
              (.cond (.t 92)
                (.drop [1, 5, 6, 7, 8, 80, 81, 82, 92]
                 (.seq
                  (.region false [] [⟨some 4, .mov (.c (.bool false)), none, []⟩])
                 .ret))
                (.drop [92]
                 .skip)))))))
          (.region false [] [⟨some 93, .bin false .add (.t 82) (.c (.int .i64 1)), none, [82]⟩, ⟨some 82, .mov (.t 93), none, [93]⟩])))))))))))))))
    (.region false [] [⟨some 26, .mov (.t 8), none, [8]⟩, ⟨some 27, .bin false .add (.t 26) (.c (.int .i64 1)), none, [26]⟩, ⟨some 8, .mov (.t 27), none, [27]⟩]))))))
 (.seq
  (.region false [] [⟨some 4, .mov (.c (.bool true)), none, []⟩])
 .ret)))))))
def rs_7 : List ARes := [.tmp 4]
theorem g_7 : Good Try.prog 7 ac_7 rs_7 := ⟨Try.f7, Try.f7.body.getD .skip, by kernel_rfl, by kernel_rfl, by kernel_rfl, ⟨by kernel_rfl, by kernel_rfl⟩, by kernel_rfl, by kernel_rfl⟩
theorem ok_7 {Γ : Env} (hΓ : EnvOk Try.prog Γ) (sp : Spec) (h : WB Γ ac_7 rs_7 sp) : CallOk Try.prog 7 sp := g_7.ok hΓ mix_ok sp h

end Go.Proofs.Ytbponegjfccgfaa.Am
