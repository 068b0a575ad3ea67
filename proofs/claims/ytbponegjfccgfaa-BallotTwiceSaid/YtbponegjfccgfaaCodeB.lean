/-
  THE FUNCTIONS' ABSTRACT CODE, as Lean's own reduction of compCode printed it, with notes (genac.py); each is held against the translation by the kernel.
-/
import Derived.Test.YtbponegjfccgfaaProg
import Derived.Test.YtbponegjfccgfaaCode
namespace Go.Proofs.Ytbponegjfccgfaa.Am
set_option linter.unusedSimpArgs false
set_option linter.unusedVariables false
open Go Go.Proofs
set_option maxRecDepth 100000


/-- chantry/chantrylaw12.BallotPuts -/
def ac_8 : ACode :=
 (.seq
  (.region false [] [⟨some 2, .box (.t 0), none, [0]⟩, ⟨some 3, .box (.t 1), none, [1]⟩, ⟨some 4, .mov (.c (.bool false)), none, []⟩])
 (.seal_ 3
  (.seal_ 2
   (.seq
    (.seq
     (.region false [] [⟨some 13, .call 24 [], none, []⟩, ⟨some 14, .un .not (.t 13), none, [13]⟩])
    (.cond (.t 14)
      (.drop [2, 3, 14]
       (.seq
        (.region false [] [⟨some 4, .mov (.c (.bool false)), none, []⟩])
       .ret))
      (.drop [14]
       .skip)))
   (.seq
    (.seq
     (.region false [] [⟨some 15, .fad 2 (.t 2), none, []⟩, ⟨some 16, .ld false 1 (.t 15), none, [15]⟩, ⟨some 17, .len false (.t 16), none, [16]⟩, ⟨some 18, .bin false .gtr (.t 17) (.c (.int .i64 60)), none, [17]⟩])
    (.cond (.t 18)
      (.drop [2, 3, 18]
       (.seq
        (.region false [] [⟨some 4, .mov (.c (.bool true)), none, []⟩])
       .ret))
      (.drop [18]
       .skip)))
   (.seq
    (.draws (.tak 0 ⟨some 20, .ld true 3 (.t 2), none, []⟩ (.tak 2 ⟨some 22, .ld true 3 (.t 3), none, []⟩ (.alt 1 ⟨some 21, .call 26 [.t 20], none, []⟩ (.alt 3 ⟨some 23, .call 27 [.t 22], none, []⟩ (.alt 4 ⟨some 24, .call 25 [.t 21, .t 23], none, []⟩ (.tak 5 ⟨some 19, .mov (.t 24), none, []⟩ (.tak 6 ⟨some 25, .ext 0 (.t 19), none, []⟩ (.tak 7 ⟨some 26, .ext 1 (.t 19), none, []⟩ (.alt 8 ⟨some 5, .alloc [.int .i64 0, .int .u16 0, .slice none 0 0], none, []⟩ (.alt 9 ⟨none, .st 3 (.t 5) (.t 25), none, []⟩ (.tak 10 ⟨some 6, .mov (.t 26), none, []⟩ .done) .stop) .stop)))) (.alt 8 ⟨some 5, .alloc [.int .i64 0, .int .u16 0, .slice none 0 0], none, []⟩ (.alt 4 ⟨some 24, .call 25 [.t 21, .t 23], none, []⟩ (.tak 5 ⟨some 19, .mov (.t 24), none, []⟩ (.tak 6 ⟨some 25, .ext 0 (.t 19), none, []⟩ (.tak 7 ⟨some 26, .ext 1 (.t 19), none, []⟩ (.alt 9 ⟨none, .st 3 (.t 5) (.t 25), none, []⟩ (.tak 10 ⟨some 6, .mov (.t 26), none, []⟩ .done) .stop)))) .stop) .stop)) (.alt 8 ⟨some 5, .alloc [.int .i64 0, .int .u16 0, .slice none 0 0], none, []⟩ (.alt 3 ⟨some 23, .call 27 [.t 22], none, []⟩ (.alt 4 ⟨some 24, .call 25 [.t 21, .t 23], none, []⟩ (.tak 5 ⟨some 19, .mov (.t 24), none, []⟩ (.tak 6 ⟨some 25, .ext 0 (.t 19), none, []⟩ (.tak 7 ⟨some 26, .ext 1 (.t 19), none, []⟩ (.alt 9 ⟨none, .st 3 (.t 5) (.t 25), none, []⟩ (.tak 10 ⟨some 6, .mov (.t 26), none, []⟩ .done) .stop)))) .stop) .stop) .stop)) (.alt 8 ⟨some 5, .alloc [.int .i64 0, .int .u16 0, .slice none 0 0], none, []⟩ (.alt 1 ⟨some 21, .call 26 [.t 20], none, []⟩ (.alt 3 ⟨some 23, .call 27 [.t 22], none, []⟩ (.alt 4 ⟨some 24, .call 25 [.t 21, .t 23], none, []⟩ (.tak 5 ⟨some 19, .mov (.t 24), none, []⟩ (.tak 6 ⟨some 25, .ext 0 (.t 19), none, []⟩ (.tak 7 ⟨some 26, .ext 1 (.t 19), none, []⟩ (.alt 9 ⟨none, .st 3 (.t 5) (.t 25), none, []⟩ (.tak 10 ⟨some 6, .mov (.t 26), none, []⟩ .done) .stop)))) .stop) .stop) .stop) .stop)))) [[], [0], [], [2, 1], [1, 3, 3], [4], [5], [5], [], [8, 6, 4, 0, 1, 2, 3, 4, 5, 6, 8], [7, 9, 0, 1, 2, 3, 4, 5, 6, 7, 8, 9]] [⟨some 20, .ld true 3 (.t 2), none, []⟩, ⟨some 21, .call 26 [.t 20], none, []⟩, ⟨some 22, .ld true 3 (.t 3), none, []⟩, ⟨some 23, .call 27 [.t 22], none, []⟩, ⟨some 24, .call 25 [.t 21, .t 23], none, []⟩, ⟨some 19, .mov (.t 24), none, []⟩, ⟨some 25, .ext 0 (.t 19), none, []⟩, ⟨some 26, .ext 1 (.t 19), none, []⟩, ⟨some 5, .alloc [.int .i64 0, .int .u16 0, .slice none 0 0], none, []⟩, ⟨none, .st 3 (.t 5) (.t 25), none, []⟩, ⟨some 6, .mov (.t 26), none, []⟩])
   (.drop [19, 20, 21, 22, 23, 24, 25, 26]
    (.seq
     (.region false [] [⟨some 28, .ld true 3 (.t 2), none, []⟩, ⟨some 29, .ld true 3 (.t 3), none, []⟩, ⟨some 30, .call 28 [.t 28, .t 29], none, [28, 29]⟩, ⟨some 27, .mov (.t 30), none, [30]⟩, ⟨some 31, .ext 0 (.t 27), none, []⟩, ⟨some 32, .ext 1 (.t 27), none, [27]⟩, ⟨some 7, .alloc [.int .i64 0, .int .u16 0, .slice none 0 0], none, []⟩, ⟨none, .st 3 (.t 7) (.t 31), none, [31]⟩, ⟨some 8, .mov (.t 32), none, [32]⟩])
    (.seal_ 7
     (.seq
      (.region false [] [⟨some 34, .ld true 3 (.t 2), none, []⟩, ⟨some 35, .call 26 [.t 34], none, [34]⟩, ⟨some 36, .call 29 [.t 35], none, [35]⟩, ⟨some 33, .mov (.t 36), none, [36]⟩, ⟨some 37, .ext 0 (.t 33), none, []⟩, ⟨some 38, .ext 1 (.t 33), none, [33]⟩, ⟨some 9, .alloc [.bool false, .int .u8 0], none, []⟩, ⟨none, .st 2 (.t 9) (.t 37), none, [37]⟩, ⟨some 10, .mov (.t 38), none, [38]⟩])
     (.seal_ 9
      (.seq
       (.region false [] [⟨some 40, .ld true 3 (.t 2), none, []⟩, ⟨some 41, .call 30 [.t 40], none, [40]⟩, ⟨some 39, .mov (.t 41), none, [41]⟩, ⟨some 42, .ext 0 (.t 39), none, []⟩, ⟨some 43, .ext 1 (.t 39), none, [39]⟩, ⟨some 11, .alloc [.bool false, .int .u8 0], none, []⟩, ⟨none, .st 2 (.t 11) (.t 42), none, [42]⟩, ⟨some 12, .mov (.t 43), none, [43]⟩])
      (.seal_ 11
       (.seq
        (.draws (.tak 2 ⟨some 46, .ld true 3 (.t 7), none, []⟩ (.alt 0 ⟨some 44, .ld true 3 (.t 5), none, []⟩ (.alt 1 ⟨some 45, .call 32 [.t 44], none, []⟩ (.alt 3 ⟨some 47, .call 31 [.t 45, .t 46], none, []⟩ (.tak 4 ⟨some 48, .mov (.t 47), none, []⟩ (.tak 5 ⟨some 49, .mov (.t 6), some (48, true), []⟩ (.tak 6 ⟨some 50, .mov (.t 8), some (48, true), []⟩ (.tak 7 ⟨some 51, .bin false .eql (.t 49) (.t 50), some (48, true), []⟩ (.tak 8 ⟨some 52, .pick (.t 48) (.t 51) (.c (.bool false)), none, []⟩ (.tak 9 ⟨some 53, .mov (.t 52), none, []⟩ (.tak 10 ⟨some 54, .ld true 3 (.t 2), some (53, true), []⟩ (.tak 12 ⟨some 56, .fad 1 (.t 3), some (53, true), []⟩ (.tak 13 ⟨some 57, .ld true 2 (.t 56), some (53, true), []⟩ (.tak 15 ⟨some 59, .ld true 3 (.t 2), some (53, true), []⟩ (.tak 16 ⟨some 60, .fad 1 (.t 3), some (53, true), []⟩ (.tak 17 ⟨some 61, .ld true 2 (.t 60), some (53, true), []⟩ (.alt 11 ⟨some 55, .call 26 [.t 54], some (53, true), []⟩ (.alt 14 ⟨some 58, .call 33 [.t 55, .t 57], some (53, true), []⟩ (.alt 18 ⟨some 62, .call 34 [.t 59, .t 61], some (53, true), []⟩ (.tak 19 ⟨some 63, .bin false .eql (.t 58) (.t 62), some (53, true), []⟩ (.tak 20 ⟨some 64, .pick (.t 53) (.t 63) (.c (.bool false)), none, []⟩ (.tak 21 ⟨some 65, .mov (.t 64), none, []⟩ (.tak 22 ⟨some 66, .ld true 2 (.t 9), some (65, true), []⟩ (.tak 23 ⟨some 67, .ld true 2 (.t 11), some (65, true), []⟩ (.tak 24 ⟨some 68, .eqs false [.b, .i] (.t 66) (.t 67), some (65, true), []⟩ (.tak 25 ⟨some 69, .pick (.t 65) (.t 68) (.c (.bool false)), none, []⟩ (.tak 26 ⟨some 70, .mov (.t 69), none, []⟩ (.tak 27 ⟨some 71, .mov (.t 10), some (70, true), []⟩ (.tak 28 ⟨some 72, .mov (.t 12), some (70, true), []⟩ (.tak 29 ⟨some 73, .bin true .eql (.t 71) (.t 72), some (70, true), []⟩ (.tak 30 ⟨some 74, .pick (.t 70) (.t 73) (.c (.bool false)), none, []⟩ (.tak 31 ⟨some 4, .mov (.t 74), none, []⟩ .done))))))))))))) .stop) .stop) .stop))))))))))))) .stop) .stop) .stop)) [[], [0], [], [1, 2, 1], [3, 3], [4], [4], [5, 6, 4], [4, 7], [8, 4], [9], [10, 9, 9], [9], [12, 9], [11, 13, 11, 9], [9], [9], [16, 9], [15, 17, 14, 9], [14, 18, 9], [9, 19], [20, 18], [21], [21], [22, 23, 21], [21, 24], [25, 21], [26], [26], [27, 28, 26], [26, 29], [30, 26, 0, 1, 2, 3, 4, 5, 6, 7, 8, 9, 10, 11, 12, 13, 14, 15, 16, 17, 18, 19, 20, 21, 22, 23, 24, 25, 26, 27, 28, 29, 30]] [⟨some 44, .ld true 3 (.t 5), none, []⟩, ⟨some 45, .call 32 [.t 44], none, []⟩, ⟨some 46, .ld true 3 (.t 7), none, []⟩, ⟨some 47, .call 31 [.t 45, .t 46], none, []⟩, ⟨some 48, .mov (.t 47), none, []⟩, ⟨some 49, .mov (.t 6), some (48, true), []⟩, ⟨some 50, .mov (.t 8), some (48, true), []⟩, ⟨some 51, .bin false .eql (.t 49) (.t 50), some (48, true), []⟩, ⟨some 52, .pick (.t 48) (.t 51) (.c (.bool false)), none, []⟩, ⟨some 53, .mov (.t 52), none, []⟩, ⟨some 54, .ld true 3 (.t 2), some (53, true), []⟩, ⟨some 55, .call 26 [.t 54], some (53, true), []⟩, ⟨some 56, .fad 1 (.t 3), some (53, true), []⟩, ⟨some 57, .ld true 2 (.t 56), some (53, true), []⟩, ⟨some 58, .call 33 [.t 55, .t 57], some (53, true), []⟩, ⟨some 59, .ld true 3 (.t 2), some (53, true), []⟩, ⟨some 60, .fad 1 (.t 3), some (53, true), []⟩, ⟨some 61, .ld true 2 (.t 60), some (53, true), []⟩, ⟨some 62, .call 34 [.t 59, .t 61], some (53, true), []⟩, ⟨some 63, .bin false .eql (.t 58) (.t 62), some (53, true), []⟩, ⟨some 64, .pick (.t 53) (.t 63) (.c (.bool false)), none, []⟩, ⟨some 65, .mov (.t 64), none, []⟩, ⟨some 66, .ld true 2 (.t 9), some (65, true), []⟩, ⟨some 67, .ld true 2 (.t 11), some (65, true), []⟩, ⟨some 68, .eqs false [.b, .i] (.t 66) (.t 67), some (65, true), []⟩, ⟨some 69, .pick (.t 65) (.t 68) (.c (.bool false)), none, []⟩, ⟨some 70, .mov (.t 69), none, []⟩, ⟨some 71, .mov (.t 10), some (70, true), []⟩, ⟨some 72, .mov (.t 12), some (70, true), []⟩, ⟨some 73, .bin true .eql (.t 71) (.t 72), some (70, true), []⟩, ⟨some 74, .pick (.t 70) (.t 73) (.c (.bool false)), none, []⟩, ⟨some 4, .mov (.t 74), none, []⟩])
       (.drop [2, 3, 5, 6, 7, 8, 9, 10, 11, 12, 44, 45, 46, 47, 48, 49, 50, 51, 52, 53, 54, 55, 56, 57, 58, 59, 60, 61, 62, 63, 64, 65, 66, 67, 68, 69, 70, 71, 72, 73, 74]
        .ret)))))))))))))))
def rs_8 : List ARes := [.tmp 4]
theorem g_8 : Good Try.prog 8 ac_8 rs_8 := ⟨Try.f8, Try.f8.body.getD .skip, by kernel_rfl, by kernel_rfl, by kernel_rfl, ⟨by kernel_rfl, by kernel_rfl⟩, by kernel_rfl, by kernel_rfl⟩
theorem ok_8 {Γ : Env} (hΓ : EnvOk Try.prog Γ) (sp : Spec) (h : WB Γ ac_8 rs_8 sp) : CallOk Try.prog 8 sp := g_8.ok hΓ mix_ok sp h

end Go.Proofs.Ytbponegjfccgfaa.Am
