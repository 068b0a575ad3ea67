/-
  THE FUNCTIONS' ABSTRACT CODE, as Lean's own reduction of compCode printed it, with notes (genac.py); each is held against the translation by the kernel.
-/
import Derived.Test.YtjmgnodeohmboaaDoorProg
import Derived.Test.YtjmgnodeohmboaaDoorCode
namespace Go.Proofs.YtjmgnodeohmboaaDoor.Am
set_option linter.unusedSimpArgs false
set_option linter.unusedVariables false
open Go Go.Proofs
set_option maxRecDepth 100000


/-- chantry/chantrylaw11.RollTexts -/
def ac_4 : ACode :=
 (.seq
  (.region false [] [⟨some 2, .box (.t 0), none, [0]⟩, ⟨some 4, .mov (.c (.bool false)), none, []⟩])
 (.seal_ 2
  (.seq
   (.seq
    (.region false [] [⟨some 11, .call 9 [], none, []⟩, ⟨some 12, .un .not (.t 11), none, [11]⟩])
   (.cond (.t 12)
     (.drop [1, 2, 12]
      (.seq
       (.region false [] [⟨some 4, .mov (.c (.bool false)), none, []⟩])
      .ret))
     (.drop [12]
      .skip)))
  (.seq
   (.seq
    (.region false [] [⟨some 13, .mov (.t 1), none, []⟩, ⟨some 14, .len true (.t 13), none, [13]⟩, ⟨some 15, .bin false .gtr (.t 14) (.c (.int .i64 100)), none, [14]⟩])
   (.cond (.t 15)
     (.drop [1, 2, 15]
      (.seq
       (.region false [] [⟨some 4, .mov (.c (.bool true)), none, []⟩])
      .ret))
     (.drop [15]
      .skip)))
  (.seq
   (.region false [] [⟨some 17, .mov (.t 1), none, []⟩, ⟨some 18, .call 14 [.t 17], none, [17]⟩, ⟨some 16, .mov (.t 18), none, [18]⟩, ⟨some 19, .ext 0 (.t 16), none, []⟩, ⟨some 20, .ext 1 (.t 16), none, [16]⟩, ⟨some 5, .alloc [.bool false, .int .u8 0], none, []⟩, ⟨none, .st 2 (.t 5) (.t 19), none, [19]⟩, ⟨some 6, .mov (.t 20), none, [20]⟩])
  (.seal_ 5
   (.seq
    (.region false [] [⟨some 22, .mov (.t 1), none, []⟩, ⟨some 23, .call 15 [.t 22], none, [22]⟩, ⟨some 21, .mov (.t 23), none, [23]⟩, ⟨some 24, .ext 0 (.t 21), none, []⟩, ⟨some 25, .ext 1 (.t 21), none, [21]⟩, ⟨some 7, .alloc [.bool false, .int .u8 0], none, []⟩, ⟨none, .st 2 (.t 7) (.t 24), none, [24]⟩, ⟨some 8, .mov (.t 25), none, [25]⟩])
   (.seal_ 7
    (.seq
     (.region false [] [⟨some 27, .ld true 2 (.t 2), none, []⟩, ⟨some 28, .call 16 [.t 27], none, [27]⟩, ⟨some 29, .call 14 [.t 28], none, [28]⟩, ⟨some 26, .mov (.t 29), none, [29]⟩, ⟨some 30, .ext 0 (.t 26), none, []⟩, ⟨some 31, .ext 1 (.t 26), none, [26]⟩, ⟨some 9, .alloc [.bool false, .int .u8 0], none, []⟩, ⟨none, .st 2 (.t 9) (.t 30), none, [30]⟩, ⟨some 10, .mov (.t 31), none, [31]⟩])
    (.seal_ 9
     (.seq
      (.draws (.tak 0 ⟨some 32, .ld true 2 (.t 2), none, []⟩ (.tak 2 ⟨some 34, .ld true 2 (.t 2), none, []⟩ (.alt 1 ⟨some 33, .call 16 [.t 32], none, []⟩ (.alt 3 ⟨some 35, .call 17 [.t 34], none, []⟩ (.tak 4 ⟨some 36, .bin false .eql (.t 33) (.t 35), none, []⟩ (.tak 5 ⟨some 37, .mov (.t 36), none, []⟩ (.tak 6 ⟨some 38, .ld true 2 (.t 5), some (37, true), []⟩ (.tak 7 ⟨some 39, .ld true 2 (.t 7), some (37, true), []⟩ (.tak 8 ⟨some 40, .eqs false [.b, .i] (.t 38) (.t 39), some (37, true), []⟩ (.tak 9 ⟨some 41, .pick (.t 37) (.t 40) (.c (.bool false)), none, []⟩ (.tak 10 ⟨some 42, .mov (.t 41), none, []⟩ (.tak 11 ⟨some 43, .mov (.t 6), some (42, true), []⟩ (.tak 12 ⟨some 44, .mov (.t 8), some (42, true), []⟩ (.tak 13 ⟨some 45, .bin false .eql (.t 43) (.t 44), some (42, true), []⟩ (.tak 14 ⟨some 46, .pick (.t 42) (.t 45) (.c (.bool false)), none, []⟩ (.tak 15 ⟨some 47, .mov (.t 46), none, []⟩ (.tak 16 ⟨some 48, .mov (.t 10), some (47, true), []⟩ (.tak 17 ⟨some 49, .bin false .eql (.t 48) (.c (.int .i64 0)), some (47, true), []⟩ (.tak 18 ⟨some 50, .fad 1 (.t 2), some (47, true), []⟩ (.tak 19 ⟨some 51, .ld false 1 (.t 50), some (47, true), []⟩ (.tak 20 ⟨some 52, .bin false .lss (.t 51) (.c (.int .u8 16)), some (47, true), []⟩ (.tak 21 ⟨some 53, .bin true .eql (.t 49) (.t 52), some (47, true), []⟩ (.tak 22 ⟨some 54, .pick (.t 47) (.t 53) (.c (.bool false)), none, []⟩ (.tak 23 ⟨some 55, .mov (.t 54), none, []⟩ (.tak 24 ⟨some 56, .mov (.t 10), some (55, true), []⟩ (.tak 25 ⟨some 57, .bin false .neq (.t 56) (.c (.int .i64 0)), some (55, true), []⟩ (.tak 26 ⟨some 58, .mov (.t 57), some (55, true), []⟩ (.tak 27 ⟨some 59, .ld true 2 (.t 9), some (58, false), []⟩ (.tak 28 ⟨some 60, .ld true 2 (.t 2), some (58, false), []⟩ (.tak 29 ⟨some 61, .eqs false [.b, .i] (.t 59) (.t 60), some (58, false), []⟩ (.tak 30 ⟨some 62, .pick (.t 58) (.c (.bool true)) (.t 61), some (55, true), []⟩ (.tak 31 ⟨some 63, .pick (.t 55) (.t 62) (.c (.bool false)), none, []⟩ (.tak 32 ⟨some 64, .mov (.t 63), none, []⟩ (.tak 33 ⟨some 65, .mov (.t 6), some (64, true), []⟩ (.tak 34 ⟨some 66, .bin false .neq (.t 65) (.c (.int .i64 0)), some (64, true), []⟩ (.tak 35 ⟨some 67, .mov (.t 66), some (64, true), []⟩ (.tak 36 ⟨some 68, .ld true 2 (.t 5), some (67, false), []⟩ (.tak 38 ⟨some 70, .mov (.t 1), some (67, false), []⟩ (.alt 37 ⟨some 69, .call 16 [.t 68], some (67, false), []⟩ (.tak 39 ⟨some 71, .bin false .eql (.t 69) (.t 70), some (67, false), []⟩ (.tak 40 ⟨some 72, .pick (.t 67) (.c (.bool true)) (.t 71), some (64, true), []⟩ (.tak 41 ⟨some 73, .pick (.t 64) (.t 72) (.c (.bool false)), none, []⟩ (.tak 42 ⟨some 4, .mov (.t 73), none, []⟩ .done)))) .stop))))))))))))))))))))))))))))))))))) .stop) .stop))) [[], [0], [], [2, 1], [1, 3], [4, 3], [5], [5], [6, 7, 5], [5, 8], [9, 5], [10], [10], [11, 12, 10], [10, 13], [14, 10], [15], [16, 15], [15], [18, 15], [19, 15], [17, 20, 15], [15, 21], [22, 15], [23], [24, 23], [25, 23, 23], [26], [26], [27, 28, 26], [26, 29, 23], [23, 30], [31, 26], [32], [33, 32], [34, 32, 32], [35], [36, 35, 35], [35], [37, 38, 35], [35, 39, 32], [32, 40], [41, 37, 0, 1, 2, 3, 4, 5, 6, 7, 8, 9, 10, 11, 12, 13, 14, 15, 16, 17, 18, 19, 20, 21, 22, 23, 24, 25, 26, 27, 28, 29, 30, 31, 32, 33, 34, 35, 36, 37, 38, 39, 40, 41]] [⟨some 32, .ld true 2 (.t 2), none, []⟩, ⟨some 33, .call 16 [.t 32], none, []⟩, ⟨some 34, .ld true 2 (.t 2), none, []⟩, ⟨some 35, .call 17 [.t 34], none, []⟩, ⟨some 36, .bin false .eql (.t 33) (.t 35), none, []⟩, ⟨some 37, .mov (.t 36), none, []⟩, ⟨some 38, .ld true 2 (.t 5), some (37, true), []⟩, ⟨some 39, .ld true 2 (.t 7), some (37, true), []⟩, ⟨some 40, .eqs false [.b, .i] (.t 38) (.t 39), some (37, true), []⟩, ⟨some 41, .pick (.t 37) (.t 40) (.c (.bool false)), none, []⟩, ⟨some 42, .mov (.t 41), none, []⟩, ⟨some 43, .mov (.t 6), some (42, true), []⟩, ⟨some 44, .mov (.t 8), some (42, true), []⟩, ⟨some 45, .bin false .eql (.t 43) (.t 44), some (42, true), []⟩, ⟨some 46, .pick (.t 42) (.t 45) (.c (.bool false)), none, []⟩, ⟨some 47, .mov (.t 46), none, []⟩, ⟨some 48, .mov (.t 10), some (47, true), []⟩, ⟨some 49, .bin false .eql (.t 48) (.c (.int .i64 0)), some (47, true), []⟩, ⟨some 50, .fad 1 (.t 2), some (47, true), []⟩, ⟨some 51, .ld false 1 (.t 50), some (47, true), []⟩, ⟨some 52, .bin false .lss (.t 51) (.c (.int .u8 16)), some (47, true), []⟩, ⟨some 53, .bin true .eql (.t 49) (.t 52), some (47, true), []⟩, ⟨some 54, .pick (.t 47) (.t 53) (.c (.bool false)), none, []⟩, ⟨some 55, .mov (.t 54), none, []⟩, ⟨some 56, .mov (.t 10), some (55, true), []⟩, ⟨some 57, .bin false .neq (.t 56) (.c (.int .i64 0)), some (55, true), []⟩, ⟨some 58, .mov (.t 57), some (55, true), []⟩, ⟨some 59, .ld true 2 (.t 9), some (58, false), []⟩, ⟨some 60, .ld true 2 (.t 2), some (58, false), []⟩, ⟨some 61, .eqs false [.b, .i] (.t 59) (.t 60), some (58, false), []⟩, ⟨some 62, .pick (.t 58) (.c (.bool true)) (.t 61), some (55, true), []⟩, ⟨some 63, .pick (.t 55) (.t 62) (.c (.bool false)), none, []⟩, ⟨some 64, .mov (.t 63), none, []⟩, ⟨some 65, .mov (.t 6), some (64, true), []⟩, ⟨some 66, .bin false .neq (.t 65) (.c (.int .i64 0)), some (64, true), []⟩, ⟨some 67, .mov (.t 66), some (64, true), []⟩, ⟨some 68, .ld true 2 (.t 5), some (67, false), []⟩, ⟨some 69, .call 16 [.t 68], some (67, false), []⟩, ⟨some 70, .mov (.t 1), some (67, false), []⟩, ⟨some 71, .bin false .eql (.t 69) (.t 70), some (67, false), []⟩, ⟨some 72, .pick (.t 67) (.c (.bool true)) (.t 71), some (64, true), []⟩, ⟨some 73, .pick (.t 64) (.t 72) (.c (.bool false)), none, []⟩, ⟨some 4, .mov (.t 73), none, []⟩])
     (.drop [1, 2, 5, 6, 7, 8, 9, 10, 32, 33, 34, 35, 36, 37, 38, 39, 40, 41, 42, 43, 44, 45, 46, 47, 48, 49, 50, 51, 52, 53, 54, 55, 56, 57, 58, 59, 60, 61, 62, 63, 64, 65, 66, 67, 68, 69, 70, 71, 72, 73]
      .ret))))))))))))
def rs_4 : List ARes := [.tmp 4]
theorem g_4 : Good Tryd.prog 4 ac_4 rs_4 := ⟨Tryd.f4, Tryd.f4.body.getD .skip, by kernel_rfl, by kernel_rfl, by kernel_rfl, ⟨by kernel_rfl, by kernel_rfl⟩, by kernel_rfl, by kernel_rfl⟩
theorem ok_4 {Γ : Env} (hΓ : EnvOk Tryd.prog Γ) (sp : Spec) (h : WB Γ ac_4 rs_4 sp) : CallOk Tryd.prog 4 sp := g_4.ok hΓ mix_ok sp h

end Go.Proofs.YtjmgnodeohmboaaDoor.Am
