/-
  THE FUNCTIONS' ABSTRACT CODE, as Lean's own reduction of compCode printed it, with notes (genac.py); each is held against the translation by the kernel.
-/
import Derived.Test.YtkbgndebfcjojaaProg
import Derived.Test.YtkbgndebfcjojaaZCode
namespace Go.Proofs.Ytkbgndebfcjojaa.Am
set_option linter.unusedSimpArgs false
set_option linter.unusedVariables false
open Go Go.Proofs
set_option maxRecDepth 100000


/-- chantry/table.Take -/
def ac_12 : ACode :=
 (.seq
  (.region false [] [⟨some 5, .box (.t 0), none, [0]⟩, ⟨some 6, .box (.t 1), none, [1]⟩, ⟨some 10, .alloc [.int .i64 0, .int .u16 0, .int .u16 0, .int .u16 0, .int .u16 0, .int .u16 0, .int .u16 0, .int .u16 0, .int .u16 0, .int .u16 0, .int .u16 0, .int .u16 0, .int .u16 0, .int .u16 0, .int .u16 0, .int .u16 0, .int .u16 0, .int .u16 0, .slice none 0 0], none, []⟩, ⟨some 11, .mov (.c (.slice none 0 0)), none, []⟩, ⟨some 12, .mov (.c (.string ⟨#[]⟩)), none, [11]⟩, ⟨some 13, .mov (.c (.bool false)), none, [12]⟩, ⟨some 14, .mov (.c (.int .i64 0)), none, [13]⟩])
 (.seal_ 6
  (.seq
   (.region false [] [⟨some 24, .ld true 19 (.t 5), none, []⟩, ⟨some 25, .call 22 [.t 24], none, [24]⟩, ⟨none, .st 19 (.t 5) (.t 25), none, [25]⟩])
  (.seq
   (.seq
    (.region false [] [⟨some 26, .ld true 19 (.t 5), none, []⟩, ⟨some 27, .ld true 3 (.t 6), none, []⟩, ⟨some 28, .call 23 [.t 26, .t 27], none, [26, 27]⟩, ⟨some 15, .mov (.t 28), none, [28]⟩])
   (.seq
    (.region false [] [⟨some 29, .mov (.t 15), none, []⟩, ⟨some 30, .bin false .neq (.t 29) (.c (.int .i64 0)), none, [29]⟩])
   (.cond (.t 30)
     (.drop [2, 3, 4, 6, 30]
      (.seq
       (.region false [] [⟨some 31, .ld true 19 (.t 5), none, [5]⟩, ⟨some 32, .mov (.t 15), none, [15]⟩, ⟨none, .st 19 (.t 10) (.t 31), none, [31]⟩, ⟨some 11, .mov (.c (.slice none 0 0)), none, []⟩, ⟨some 12, .mov (.c (.string ⟨#[]⟩)), none, []⟩, ⟨some 13, .mov (.c (.bool false)), none, []⟩, ⟨some 14, .mov (.t 32), none, [32]⟩])
      .ret))
     (.drop [15, 30]
      .skip))))
  (.seq
   (.region false [] [⟨some 33, .fad 1 (.t 6), none, []⟩, ⟨some 34, .ld false 1 (.t 33), none, [33]⟩, ⟨some 35, .fad 2 (.t 6), none, []⟩, ⟨some 36, .ld false 1 (.t 35), none, [35]⟩, ⟨some 37, .bld [.int .u8 0, .int .i64 0, .bool false, .bool false, .bool false, .slice none 0 0, .slice none 0 0] [(0, 1, .t 34), (1, 1, .t 36)], none, [34, 36]⟩, ⟨some 16, .alloc [.int .u8 0, .int .i64 0, .bool false, .bool false, .bool false, .slice none 0 0, .slice none 0 0], none, []⟩, ⟨none, .st 7 (.t 16) (.t 37), none, [37]⟩])
  (.seq
   (.region false [] [⟨some 39, .fad 18 (.t 5), none, []⟩, ⟨some 40, .ld false 1 (.t 39), none, [39]⟩, ⟨some 41, .ld true 7 (.t 16), none, []⟩, ⟨some 42, .call 24 [.t 40, .t 41, .c (.func (.func 25) #[] #[])], none, [40, 41]⟩, ⟨some 38, .mov (.t 42), none, [42]⟩, ⟨some 43, .ext 0 (.t 38), none, []⟩, ⟨some 44, .ext 1 (.t 38), none, [38]⟩, ⟨some 17, .mov (.t 43), none, [43]⟩, ⟨some 18, .mov (.t 44), none, [44]⟩])
  (.seq
   (.seq
    (.region false [] [⟨some 45, .mov (.t 18), none, []⟩])
   (.cond (.t 45)
     (.drop [45]
      (.region false [] [⟨some 46, .fad 18 (.t 5), none, []⟩, ⟨some 47, .ld false 1 (.t 46), none, [46]⟩, ⟨some 48, .mov (.t 17), none, []⟩, ⟨some 49, .iax 7 (.t 47) (.t 48), none, [47, 48]⟩, ⟨some 50, .ld true 7 (.t 49), none, [49]⟩, ⟨none, .st 7 (.t 16) (.t 50), none, [50]⟩]))
     (.drop [45]
      .skip)))
  (.seq
   (.region false [] [⟨some 52, .fad 2 (.t 16), none, []⟩, ⟨some 53, .ld true 5 (.t 52), none, [52]⟩, ⟨some 54, .fad 1 (.t 5), none, []⟩, ⟨some 55, .ld false 1 (.t 54), none, [54]⟩, ⟨some 56, .fad 1 (.t 6), none, []⟩, ⟨some 57, .ld false 1 (.t 56), none, [56]⟩, ⟨some 58, .mov (.t 2), none, [2]⟩, ⟨some 59, .mov (.t 3), none, [3]⟩, ⟨some 60, .mov (.t 4), none, [4]⟩, ⟨some 61, .call 21 [.t 53, .t 55, .t 57, .t 58, .t 59, .t 60], none, [53, 55, 57, 58, 59, 60]⟩, ⟨some 51, .mov (.t 61), none, [61]⟩, ⟨some 62, .ext 0 (.t 51), none, []⟩, ⟨some 63, .ext 1 (.t 51), none, []⟩, ⟨some 64, .ext 2 (.t 51), none, []⟩, ⟨some 65, .ext 3 (.t 51), none, []⟩, ⟨some 66, .ext 4 (.t 51), none, [51]⟩, ⟨some 19, .alloc [.bool false, .bool false, .bool false, .slice none 0 0, .slice none 0 0], none, []⟩, ⟨none, .st 5 (.t 19) (.t 62), none, [62]⟩, ⟨some 20, .mov (.t 63), none, [63]⟩, ⟨some 21, .mov (.t 64), none, [64]⟩, ⟨some 22, .mov (.t 65), none, [65]⟩, ⟨some 23, .mov (.t 66), none, [66]⟩])
  (.seal_ 19
   (.seq
    (.seq
     (.region false [] [⟨some 67, .mov (.t 23), none, []⟩, ⟨some 68, .bin false .neq (.t 67) (.c (.int .i64 0)), none, [67]⟩])
    (.cond (.t 68)
      (.drop [6, 16, 17, 18, 19, 20, 21, 22, 68]
       (.seq
        (.region false [] [⟨some 69, .ld true 19 (.t 5), none, [5]⟩, ⟨some 70, .mov (.t 23), none, [23]⟩, ⟨none, .st 19 (.t 10) (.t 69), none, [69]⟩, ⟨some 11, .mov (.c (.slice none 0 0)), none, []⟩, ⟨some 12, .mov (.c (.string ⟨#[]⟩)), none, []⟩, ⟨some 13, .mov (.c (.bool false)), none, []⟩, ⟨some 14, .mov (.t 70), none, [70]⟩])
       .ret))
      (.drop [23, 68]
       .skip)))
   (.seq
    (.region false [] [⟨some 71, .ld true 5 (.t 19), none, [19]⟩, ⟨some 72, .fad 2 (.t 16), none, []⟩, ⟨none, .st 5 (.t 72) (.t 71), none, [71, 72]⟩])
   (.seq
    (.seq
     (.region false [] [⟨some 73, .mov (.t 18), none, [18]⟩])
    (.cond (.t 73)
      (.drop [73]
       (.region false [] [⟨some 74, .fad 18 (.t 5), none, []⟩, ⟨some 75, .ld false 1 (.t 74), none, [74]⟩, ⟨some 76, .mov (.t 17), none, [17]⟩, ⟨some 77, .ld true 7 (.t 16), none, [16]⟩, ⟨some 78, .iax 7 (.t 75) (.t 76), none, [75, 76]⟩, ⟨none, .st 7 (.t 78) (.t 77), none, [77, 78]⟩]))
      (.drop [73]
       (.region false [] [⟨some 79, .fad 18 (.t 5), none, []⟩, ⟨some 80, .ld false 1 (.t 79), none, [79]⟩, ⟨some 81, .mov (.t 17), none, [17]⟩, ⟨some 82, .ld true 7 (.t 16), none, [16]⟩, ⟨some 83, .bsl 60 7 [.t 82], none, [82]⟩, ⟨some 84, .call 26 [.t 80, .t 81, .t 83], none, [80, 81, 83]⟩, ⟨some 85, .fad 18 (.t 5), none, []⟩, ⟨none, .st 1 (.t 85) (.t 84), none, [84, 85]⟩]))))
   (.seq
    (.region false [] [⟨some 86, .fad 1 (.t 6), none, [6]⟩, ⟨some 87, .ld false 1 (.t 86), none, [86]⟩, ⟨some 88, .call 27 [.t 5, .t 87], none, [87]⟩])
   (.seq
    (.region false [] [⟨some 89, .ld true 19 (.t 5), none, [5]⟩, ⟨some 90, .mov (.t 20), none, [20]⟩, ⟨some 91, .mov (.t 21), none, [21]⟩, ⟨some 92, .mov (.t 22), none, [22]⟩, ⟨none, .st 19 (.t 10) (.t 89), none, [89]⟩, ⟨some 11, .mov (.t 90), none, [90]⟩, ⟨some 12, .mov (.t 91), none, [91]⟩, ⟨some 13, .mov (.t 92), none, [92]⟩, ⟨some 14, .mov (.c (.int .i64 0)), none, []⟩])
   .ret))))))))))))))
def rs_12 : List ARes := [.cell 10 true 19, .tmp 11, .tmp 12, .tmp 13, .tmp 14]
theorem g_12 : Good Try.prog 12 ac_12 rs_12 := ⟨Try.f12, Try.f12.body.getD .skip, by kernel_rfl, by kernel_rfl, by kernel_rfl, ⟨by kernel_rfl, by kernel_rfl⟩, by kernel_rfl, by kernel_rfl⟩
theorem ok_12 {Γ : Env} (hΓ : EnvOk Try.prog Γ) (sp : Spec) (h : WB Γ ac_12 rs_12 sp) : CallOk Try.prog 12 sp := g_12.ok hΓ mix_ok sp h

/-- chantry/chantryref08.Take -/
def ac_14 : ACode :=
 (.seq
  (.region false [] [⟨some 5, .box (.t 0), none, [0]⟩, ⟨some 6, .box (.t 1), none, [1]⟩, ⟨some 10, .alloc [.int .i64 0, .int .u16 0, .int .u16 0, .int .u16 0, .int .u16 0, .int .u16 0, .int .u16 0, .int .u16 0, .int .u16 0, .int .u16 0, .int .u16 0, .int .u16 0, .int .u16 0, .int .u16 0, .int .u16 0, .int .u16 0, .int .u16 0, .int .u16 0, .slice none 0 0, .slice none 0 0, .string ⟨#[]⟩, .bool false, .int .i64 0], none, []⟩])
 (.seal_ 6
  (.seq
   (.region false [] [⟨some 14, .ld true 19 (.t 5), none, []⟩, ⟨some 15, .ld true 3 (.t 6), none, []⟩, ⟨some 16, .call 29 [.t 14, .t 15], none, [14, 15]⟩, ⟨some 11, .mov (.t 16), none, [16]⟩])
  (.seq
   (.seq
    (.region false [] [⟨some 17, .mov (.t 11), none, []⟩, ⟨some 18, .bin false .neq (.t 17) (.c (.int .i64 0)), none, [17]⟩])
   (.cond (.t 18)
     (.drop [2, 3, 4, 6, 18]
      (.seq
       (.region false [] [⟨some 19, .ld true 19 (.t 5), none, [5]⟩, ⟨some 20, .mov (.t 11), none, [11]⟩, ⟨some 21, .bld [.int .i64 0, .int .u16 0, .int .u16 0, .int .u16 0, .int .u16 0, .int .u16 0, .int .u16 0, .int .u16 0, .int .u16 0, .int .u16 0, .int .u16 0, .int .u16 0, .int .u16 0, .int .u16 0, .int .u16 0, .int .u16 0, .int .u16 0, .int .u16 0, .slice none 0 0, .slice none 0 0, .string ⟨#[]⟩, .bool false, .int .i64 0] [(0, 19, .t 19), (22, 1, .t 20)], none, [19, 20]⟩, ⟨none, .st 23 (.t 10) (.t 21), none, [21]⟩])
      .ret))
     (.drop [11, 18]
      .skip)))
  (.seq
   (.draws (.tak 1 ⟨some 23, .fad 1 (.t 6), none, []⟩ (.tak 2 ⟨some 24, .ld false 1 (.t 23), none, []⟩ (.tak 3 ⟨some 25, .fad 2 (.t 6), none, []⟩ (.tak 4 ⟨some 26, .ld false 1 (.t 25), none, []⟩ (.tak 6 ⟨some 28, .fad 1 (.t 5), none, []⟩ (.tak 8 ⟨some 30, .fad 1 (.t 6), none, []⟩ (.tak 9 ⟨some 31, .ld false 1 (.t 30), none, []⟩ (.tak 10 ⟨some 32, .mov (.t 2), none, []⟩ (.tak 11 ⟨some 33, .mov (.t 3), none, []⟩ (.tak 12 ⟨some 34, .mov (.t 4), none, []⟩ (.alt 0 ⟨some 22, .ld true 19 (.t 5), none, []⟩ (.alt 5 ⟨some 27, .call 31 [.t 22, .t 24, .t 26], none, []⟩ (.alt 7 ⟨some 29, .ld false 1 (.t 28), none, []⟩ (.alt 13 ⟨some 35, .call 30 [.t 27, .t 29, .t 31, .t 32, .t 33, .t 34], none, []⟩ (.alt 14 ⟨some 12, .alloc [.bool false, .bool false, .bool false, .slice none 0 0, .slice none 0 0, .slice none 0 0, .string ⟨#[]⟩, .bool false, .int .i64 0], none, []⟩ (.alt 15 ⟨none, .st 9 (.t 12) (.t 35), none, []⟩ .done .stop) .stop) (.alt 14 ⟨some 12, .alloc [.bool false, .bool false, .bool false, .slice none 0 0, .slice none 0 0, .slice none 0 0, .string ⟨#[]⟩, .bool false, .int .i64 0], none, []⟩ (.alt 13 ⟨some 35, .call 30 [.t 27, .t 29, .t 31, .t 32, .t 33, .t 34], none, []⟩ (.alt 15 ⟨none, .st 9 (.t 12) (.t 35), none, []⟩ .done .stop) .stop) .stop)) (.alt 14 ⟨some 12, .alloc [.bool false, .bool false, .bool false, .slice none 0 0, .slice none 0 0, .slice none 0 0, .string ⟨#[]⟩, .bool false, .int .i64 0], none, []⟩ (.alt 7 ⟨some 29, .ld false 1 (.t 28), none, []⟩ (.alt 13 ⟨some 35, .call 30 [.t 27, .t 29, .t 31, .t 32, .t 33, .t 34], none, []⟩ (.alt 15 ⟨none, .st 9 (.t 12) (.t 35), none, []⟩ .done .stop) .stop) .stop) .stop)) (.alt 7 ⟨some 29, .ld false 1 (.t 28), none, []⟩ (.alt 5 ⟨some 27, .call 31 [.t 22, .t 24, .t 26], none, []⟩ (.alt 13 ⟨some 35, .call 30 [.t 27, .t 29, .t 31, .t 32, .t 33, .t 34], none, []⟩ (.alt 14 ⟨some 12, .alloc [.bool false, .bool false, .bool false, .slice none 0 0, .slice none 0 0, .slice none 0 0, .string ⟨#[]⟩, .bool false, .int .i64 0], none, []⟩ (.alt 15 ⟨none, .st 9 (.t 12) (.t 35), none, []⟩ .done .stop) .stop) (.alt 14 ⟨some 12, .alloc [.bool false, .bool false, .bool false, .slice none 0 0, .slice none 0 0, .slice none 0 0, .string ⟨#[]⟩, .bool false, .int .i64 0], none, []⟩ (.alt 13 ⟨some 35, .call 30 [.t 27, .t 29, .t 31, .t 32, .t 33, .t 34], none, []⟩ (.alt 15 ⟨none, .st 9 (.t 12) (.t 35), none, []⟩ .done .stop) .stop) .stop)) (.alt 14 ⟨some 12, .alloc [.bool false, .bool false, .bool false, .slice none 0 0, .slice none 0 0, .slice none 0 0, .string ⟨#[]⟩, .bool false, .int .i64 0], none, []⟩ (.alt 5 ⟨some 27, .call 31 [.t 22, .t 24, .t 26], none, []⟩ (.alt 13 ⟨some 35, .call 30 [.t 27, .t 29, .t 31, .t 32, .t 33, .t 34], none, []⟩ (.alt 15 ⟨none, .st 9 (.t 12) (.t 35), none, []⟩ .done .stop) .stop) .stop) .stop)) (.alt 14 ⟨some 12, .alloc [.bool false, .bool false, .bool false, .slice none 0 0, .slice none 0 0, .slice none 0 0, .string ⟨#[]⟩, .bool false, .int .i64 0], none, []⟩ (.alt 5 ⟨some 27, .call 31 [.t 22, .t 24, .t 26], none, []⟩ (.alt 7 ⟨some 29, .ld false 1 (.t 28), none, []⟩ (.alt 13 ⟨some 35, .call 30 [.t 27, .t 29, .t 31, .t 32, .t 33, .t 34], none, []⟩ (.alt 15 ⟨none, .st 9 (.t 12) (.t 35), none, []⟩ .done .stop) .stop) .stop) (.alt 7 ⟨some 29, .ld false 1 (.t 28), none, []⟩ (.alt 5 ⟨some 27, .call 31 [.t 22, .t 24, .t 26], none, []⟩ (.alt 13 ⟨some 35, .call 30 [.t 27, .t 29, .t 31, .t 32, .t 33, .t 34], none, []⟩ (.alt 15 ⟨none, .st 9 (.t 12) (.t 35), none, []⟩ .done .stop) .stop) .stop) .stop)) .stop))) (.alt 7 ⟨some 29, .ld false 1 (.t 28), none, []⟩ (.alt 0 ⟨some 22, .ld true 19 (.t 5), none, []⟩ (.alt 5 ⟨some 27, .call 31 [.t 22, .t 24, .t 26], none, []⟩ (.alt 13 ⟨some 35, .call 30 [.t 27, .t 29, .t 31, .t 32, .t 33, .t 34], none, []⟩ (.alt 14 ⟨some 12, .alloc [.bool false, .bool false, .bool false, .slice none 0 0, .slice none 0 0, .slice none 0 0, .string ⟨#[]⟩, .bool false, .int .i64 0], none, []⟩ (.alt 15 ⟨none, .st 9 (.t 12) (.t 35), none, []⟩ .done .stop) .stop) (.alt 14 ⟨some 12, .alloc [.bool false, .bool false, .bool false, .slice none 0 0, .slice none 0 0, .slice none 0 0, .string ⟨#[]⟩, .bool false, .int .i64 0], none, []⟩ (.alt 13 ⟨some 35, .call 30 [.t 27, .t 29, .t 31, .t 32, .t 33, .t 34], none, []⟩ (.alt 15 ⟨none, .st 9 (.t 12) (.t 35), none, []⟩ .done .stop) .stop) .stop)) (.alt 14 ⟨some 12, .alloc [.bool false, .bool false, .bool false, .slice none 0 0, .slice none 0 0, .slice none 0 0, .string ⟨#[]⟩, .bool false, .int .i64 0], none, []⟩ (.alt 5 ⟨some 27, .call 31 [.t 22, .t 24, .t 26], none, []⟩ (.alt 13 ⟨some 35, .call 30 [.t 27, .t 29, .t 31, .t 32, .t 33, .t 34], none, []⟩ (.alt 15 ⟨none, .st 9 (.t 12) (.t 35), none, []⟩ .done .stop) .stop) .stop) .stop)) (.alt 14 ⟨some 12, .alloc [.bool false, .bool false, .bool false, .slice none 0 0, .slice none 0 0, .slice none 0 0, .string ⟨#[]⟩, .bool false, .int .i64 0], none, []⟩ (.alt 0 ⟨some 22, .ld true 19 (.t 5), none, []⟩ (.alt 5 ⟨some 27, .call 31 [.t 22, .t 24, .t 26], none, []⟩ (.alt 13 ⟨some 35, .call 30 [.t 27, .t 29, .t 31, .t 32, .t 33, .t 34], none, []⟩ (.alt 15 ⟨none, .st 9 (.t 12) (.t 35), none, []⟩ .done .stop) .stop) .stop) .stop) .stop)) (.alt 14 ⟨some 12, .alloc [.bool false, .bool false, .bool false, .slice none 0 0, .slice none 0 0, .slice none 0 0, .string ⟨#[]⟩, .bool false, .int .i64 0], none, []⟩ (.alt 0 ⟨some 22, .ld true 19 (.t 5), none, []⟩ (.alt 5 ⟨some 27, .call 31 [.t 22, .t 24, .t 26], none, []⟩ (.alt 7 ⟨some 29, .ld false 1 (.t 28), none, []⟩ (.alt 13 ⟨some 35, .call 30 [.t 27, .t 29, .t 31, .t 32, .t 33, .t 34], none, []⟩ (.alt 15 ⟨none, .st 9 (.t 12) (.t 35), none, []⟩ .done .stop) .stop) .stop) (.alt 7 ⟨some 29, .ld false 1 (.t 28), none, []⟩ (.alt 5 ⟨some 27, .call 31 [.t 22, .t 24, .t 26], none, []⟩ (.alt 13 ⟨some 35, .call 30 [.t 27, .t 29, .t 31, .t 32, .t 33, .t 34], none, []⟩ (.alt 15 ⟨none, .st 9 (.t 12) (.t 35), none, []⟩ .done .stop) .stop) .stop) .stop)) (.alt 7 ⟨some 29, .ld false 1 (.t 28), none, []⟩ (.alt 0 ⟨some 22, .ld true 19 (.t 5), none, []⟩ (.alt 5 ⟨some 27, .call 31 [.t 22, .t 24, .t 26], none, []⟩ (.alt 13 ⟨some 35, .call 30 [.t 27, .t 29, .t 31, .t 32, .t 33, .t 34], none, []⟩ (.alt 15 ⟨none, .st 9 (.t 12) (.t 35), none, []⟩ .done .stop) .stop) .stop) .stop) .stop)) .stop))))))))))))) [[], [], [1], [], [3], [0, 2, 4], [], [6], [], [8], [], [], [], [5, 7, 9, 10, 11, 12, 5], [], [14, 13, 13, 0, 1, 2, 3, 4, 5, 6, 7, 8, 9, 10, 11, 12, 13, 14]] [⟨some 22, .ld true 19 (.t 5), none, []⟩, ⟨some 23, .fad 1 (.t 6), none, []⟩, ⟨some 24, .ld false 1 (.t 23), none, []⟩, ⟨some 25, .fad 2 (.t 6), none, []⟩, ⟨some 26, .ld false 1 (.t 25), none, []⟩, ⟨some 27, .call 31 [.t 22, .t 24, .t 26], none, []⟩, ⟨some 28, .fad 1 (.t 5), none, []⟩, ⟨some 29, .ld false 1 (.t 28), none, []⟩, ⟨some 30, .fad 1 (.t 6), none, []⟩, ⟨some 31, .ld false 1 (.t 30), none, []⟩, ⟨some 32, .mov (.t 2), none, []⟩, ⟨some 33, .mov (.t 3), none, []⟩, ⟨some 34, .mov (.t 4), none, []⟩, ⟨some 35, .call 30 [.t 27, .t 29, .t 31, .t 32, .t 33, .t 34], none, []⟩, ⟨some 12, .alloc [.bool false, .bool false, .bool false, .slice none 0 0, .slice none 0 0, .slice none 0 0, .string ⟨#[]⟩, .bool false, .int .i64 0], none, []⟩, ⟨none, .st 9 (.t 12) (.t 35), none, []⟩])
  (.drop [2, 3, 4, 22, 23, 24, 25, 26, 27, 28, 29, 30, 31, 32, 33, 34, 35]
   (.pack [5, 6, 10, 12]
    (.seq
     (.seq
      (.region false [] [⟨some 36, .fad 8 (.t 12), none, []⟩, ⟨some 37, .ld false 1 (.t 36), none, [36]⟩, ⟨some 38, .bin false .neq (.t 37) (.c (.int .i64 0)), none, [37]⟩])
     (.cond (.t 38)
       (.drop [6, 38]
        (.seq
         (.region false [] [⟨some 39, .ld true 19 (.t 5), none, [5]⟩, ⟨some 40, .fad 8 (.t 12), none, [12]⟩, ⟨some 41, .ld false 1 (.t 40), none, [40]⟩, ⟨some 42, .bld [.int .i64 0, .int .u16 0, .int .u16 0, .int .u16 0, .int .u16 0, .int .u16 0, .int .u16 0, .int .u16 0, .int .u16 0, .int .u16 0, .int .u16 0, .int .u16 0, .int .u16 0, .int .u16 0, .int .u16 0, .int .u16 0, .int .u16 0, .int .u16 0, .slice none 0 0, .slice none 0 0, .string ⟨#[]⟩, .bool false, .int .i64 0] [(0, 19, .t 39), (22, 1, .t 41)], none, [39, 41]⟩, ⟨none, .st 23 (.t 10) (.t 42), none, [42]⟩])
        .ret))
       (.drop [38]
        .skip)))
    (.seq
     (.region false [] [⟨some 43, .fad 18 (.t 5), none, []⟩, ⟨some 44, .ld false 1 (.t 43), none, [43]⟩, ⟨some 45, .fad 1 (.t 6), none, []⟩, ⟨some 46, .ld false 1 (.t 45), none, [45]⟩, ⟨some 47, .fad 2 (.t 6), none, []⟩, ⟨some 48, .ld false 1 (.t 47), none, [47]⟩, ⟨some 49, .fad 0 (.t 12), none, []⟩, ⟨some 50, .ld true 5 (.t 49), none, [49]⟩, ⟨some 51, .bld [.int .u8 0, .int .i64 0, .bool false, .bool false, .bool false, .slice none 0 0, .slice none 0 0] [(0, 1, .t 46), (1, 1, .t 48), (2, 5, .t 50)], none, [46, 48, 50]⟩, ⟨some 52, .call 32 [.t 44, .t 51, .c (.bool false)], none, [44, 51]⟩, ⟨some 53, .fad 18 (.t 5), none, []⟩, ⟨none, .st 1 (.t 53) (.t 52), none, [52, 53]⟩])
    (.seq
     (.region false [] [⟨some 54, .fad 2 (.t 5), none, []⟩, ⟨some 55, .ld true 16 (.t 54), none, [54]⟩, ⟨some 13, .alloc [.int .u16 0, .int .u16 0, .int .u16 0, .int .u16 0, .int .u16 0, .int .u16 0, .int .u16 0, .int .u16 0, .int .u16 0, .int .u16 0, .int .u16 0, .int .u16 0, .int .u16 0, .int .u16 0, .int .u16 0, .int .u16 0], none, []⟩, ⟨none, .st 16 (.t 13) (.t 55), none, [55]⟩])
    (.seq
     (.block 0
      (.loop [5, 6, 10, 12, 13]
       (.seq
        (.seq
         (.draws (.tak 1 ⟨some 57, .fad 1 (.t 6), none, []⟩ (.tak 2 ⟨some 58, .ld false 1 (.t 57), none, []⟩ (.tak 3 ⟨some 59, .fad 1 (.t 6), none, []⟩ (.tak 4 ⟨some 60, .ld false 1 (.t 59), none, []⟩ (.tak 5 ⟨some 61, .iaa 16 1 (.t 13) (.t 60), none, []⟩ (.alt 0 ⟨some 56, .ld true 19 (.t 5), none, []⟩ (.alt 6 ⟨some 62, .ld false 1 (.t 61), none, []⟩ (.tak 7 ⟨some 63, .cvt .i64 (.t 62), none, []⟩ (.alt 8 ⟨some 64, .call 31 [.t 56, .t 58, .t 63], none, []⟩ (.tak 9 ⟨some 65, .fld false 2 1 (.t 64), none, []⟩ .done) .stop)) .stop) (.alt 6 ⟨some 62, .ld false 1 (.t 61), none, []⟩ (.tak 7 ⟨some 63, .cvt .i64 (.t 62), none, []⟩ (.alt 0 ⟨some 56, .ld true 19 (.t 5), none, []⟩ (.alt 8 ⟨some 64, .call 31 [.t 56, .t 58, .t 63], none, []⟩ (.tak 9 ⟨some 65, .fld false 2 1 (.t 64), none, []⟩ .done) .stop) .stop)) .stop))))))) [[], [], [1], [], [3], [4], [5], [6], [0, 2, 7], [8]] [⟨some 56, .ld true 19 (.t 5), none, []⟩, ⟨some 57, .fad 1 (.t 6), none, []⟩, ⟨some 58, .ld false 1 (.t 57), none, []⟩, ⟨some 59, .fad 1 (.t 6), none, []⟩, ⟨some 60, .ld false 1 (.t 59), none, []⟩, ⟨some 61, .iaa 16 1 (.t 13) (.t 60), none, []⟩, ⟨some 62, .ld false 1 (.t 61), none, []⟩, ⟨some 63, .cvt .i64 (.t 62), none, []⟩, ⟨some 64, .call 31 [.t 56, .t 58, .t 63], none, []⟩, ⟨some 65, .fld false 2 1 (.t 64), none, []⟩])
        (.drop [56, 57, 58, 59, 60, 61, 62, 63, 64]
         (.pack [5, 6, 10, 12, 13, 65]
          (.cond (.t 65)
            (.drop [65]
             .skip)
            (.drop [6, 65]
             (.exit 0))))))
       (.block 1
        (.seq
         (.draws (.tak 0 ⟨some 66, .fad 18 (.t 5), none, []⟩ (.tak 2 ⟨some 68, .fad 1 (.t 6), none, []⟩ (.tak 3 ⟨some 69, .ld false 1 (.t 68), none, []⟩ (.tak 4 ⟨some 70, .fad 1 (.t 6), none, []⟩ (.tak 5 ⟨some 71, .ld false 1 (.t 70), none, []⟩ (.tak 6 ⟨some 72, .iaa 16 1 (.t 13) (.t 71), none, []⟩ (.alt 1 ⟨some 67, .ld false 1 (.t 66), none, []⟩ (.alt 7 ⟨some 73, .ld false 1 (.t 72), none, []⟩ (.tak 8 ⟨some 74, .cvt .i64 (.t 73), none, []⟩ (.tak 9 ⟨some 75, .bld [.int .u8 0, .int .i64 0, .bool false, .bool false, .bool false, .slice none 0 0, .slice none 0 0] [(0, 1, .t 69), (1, 1, .t 74)], none, []⟩ (.alt 10 ⟨some 76, .call 32 [.t 67, .t 75, .c (.bool true)], none, []⟩ (.tak 11 ⟨some 77, .fad 18 (.t 5), none, []⟩ (.alt 12 ⟨none, .st 1 (.t 77) (.t 76), none, []⟩ .done .stop)) .stop))) .stop) (.alt 7 ⟨some 73, .ld false 1 (.t 72), none, []⟩ (.tak 8 ⟨some 74, .cvt .i64 (.t 73), none, []⟩ (.tak 9 ⟨some 75, .bld [.int .u8 0, .int .i64 0, .bool false, .bool false, .bool false, .slice none 0 0, .slice none 0 0] [(0, 1, .t 69), (1, 1, .t 74)], none, []⟩ (.alt 1 ⟨some 67, .ld false 1 (.t 66), none, []⟩ (.alt 10 ⟨some 76, .call 32 [.t 67, .t 75, .c (.bool true)], none, []⟩ (.tak 11 ⟨some 77, .fad 18 (.t 5), none, []⟩ (.alt 12 ⟨none, .st 1 (.t 77) (.t 76), none, []⟩ .done .stop)) .stop) .stop))) .stop)))))))) [[], [0], [], [2], [], [4], [5], [6], [7], [3, 8], [1, 9], [0, 1, 2, 3, 4, 5, 6, 7, 8, 9, 10], [11, 10, 10, 0, 1, 2, 3, 4, 5, 6, 7, 8, 9, 10]] [⟨some 66, .fad 18 (.t 5), none, []⟩, ⟨some 67, .ld false 1 (.t 66), none, []⟩, ⟨some 68, .fad 1 (.t 6), none, []⟩, ⟨some 69, .ld false 1 (.t 68), none, []⟩, ⟨some 70, .fad 1 (.t 6), none, []⟩, ⟨some 71, .ld false 1 (.t 70), none, []⟩, ⟨some 72, .iaa 16 1 (.t 13) (.t 71), none, []⟩, ⟨some 73, .ld false 1 (.t 72), none, []⟩, ⟨some 74, .cvt .i64 (.t 73), none, []⟩, ⟨some 75, .bld [.int .u8 0, .int .i64 0, .bool false, .bool false, .bool false, .slice none 0 0, .slice none 0 0] [(0, 1, .t 69), (1, 1, .t 74)], none, []⟩, ⟨some 76, .call 32 [.t 67, .t 75, .c (.bool true)], none, []⟩, ⟨some 77, .fad 18 (.t 5), none, []⟩, ⟨none, .st 1 (.t 77) (.t 76), none, []⟩])
        (.drop [66, 67, 68, 69, 70, 71, 72, 73, 74, 75, 76, 77]
         (.pack [5, 6, 10, 12, 13]
          (.draws (.tak 0 ⟨some 78, .fad 1 (.t 6), none, []⟩ (.tak 1 ⟨some 79, .ld false 1 (.t 78), none, []⟩ (.tak 2 ⟨some 80, .fad 1 (.t 6), none, []⟩ (.tak 3 ⟨some 81, .ld false 1 (.t 80), none, []⟩ (.tak 4 ⟨some 82, .iaa 16 1 (.t 13) (.t 81), none, []⟩ (.alt 5 ⟨some 83, .ld false 1 (.t 82), none, []⟩ (.tak 6 ⟨some 84, .bin false .add (.t 83) (.c (.int .u16 1)), none, []⟩ (.tak 7 ⟨some 85, .iaa 16 1 (.t 13) (.t 79), none, []⟩ (.alt 8 ⟨none, .st 1 (.t 85) (.t 84), none, []⟩ .done .stop))) .stop)))))) [[], [0], [], [2], [3], [4], [5], [1, 0, 1, 2, 3, 4, 5, 6], [7, 6, 0, 1, 2, 3, 4, 5, 6]] [⟨some 78, .fad 1 (.t 6), none, []⟩, ⟨some 79, .ld false 1 (.t 78), none, []⟩, ⟨some 80, .fad 1 (.t 6), none, []⟩, ⟨some 81, .ld false 1 (.t 80), none, []⟩, ⟨some 82, .iaa 16 1 (.t 13) (.t 81), none, []⟩, ⟨some 83, .ld false 1 (.t 82), none, []⟩, ⟨some 84, .bin false .add (.t 83) (.c (.int .u16 1)), none, []⟩, ⟨some 85, .iaa 16 1 (.t 13) (.t 79), none, []⟩, ⟨none, .st 1 (.t 85) (.t 84), none, []⟩]))))))))
    (.seq
     (.region false [] [⟨some 86, .ld true 16 (.t 13), none, [13]⟩, ⟨some 87, .fad 2 (.t 5), none, []⟩, ⟨none, .st 16 (.t 87) (.t 86), none, [86, 87]⟩])
    (.seq
     (.region false [] [⟨some 88, .ld true 19 (.t 5), none, [5]⟩, ⟨some 89, .fad 5 (.t 12), none, []⟩, ⟨some 90, .ld false 1 (.t 89), none, [89]⟩, ⟨some 91, .fad 6 (.t 12), none, []⟩, ⟨some 92, .ld false 1 (.t 91), none, [91]⟩, ⟨some 93, .fad 7 (.t 12), none, [12]⟩, ⟨some 94, .ld false 1 (.t 93), none, [93]⟩, ⟨some 95, .bld [.int .i64 0, .int .u16 0, .int .u16 0, .int .u16 0, .int .u16 0, .int .u16 0, .int .u16 0, .int .u16 0, .int .u16 0, .int .u16 0, .int .u16 0, .int .u16 0, .int .u16 0, .int .u16 0, .int .u16 0, .int .u16 0, .int .u16 0, .int .u16 0, .slice none 0 0, .slice none 0 0, .string ⟨#[]⟩, .bool false, .int .i64 0] [(0, 19, .t 88), (19, 1, .t 90), (20, 1, .t 92), (21, 1, .t 94)], none, [88, 90, 92, 94]⟩, ⟨none, .st 23 (.t 10) (.t 95), none, [95]⟩])
    .ret)))))))))))))
def rs_14 : List ARes := [.cell 10 true 23]
theorem g_14 : Good Try.prog 14 ac_14 rs_14 := ⟨Try.f14, Try.f14.body.getD .skip, by kernel_rfl, by kernel_rfl, by kernel_rfl, ⟨by kernel_rfl, by kernel_rfl⟩, by kernel_rfl, by kernel_rfl⟩
theorem ok_14 {Γ : Env} (hΓ : EnvOk Try.prog Γ) (sp : Spec) (h : WB Γ ac_14 rs_14 sp) : CallOk Try.prog 14 sp := g_14.ok hΓ mix_ok sp h

/-- chantry/table.Right -/
def ac_15 : ACode :=
 (.seq
  (.region false [] [⟨some 1, .box (.t 0), none, [0]⟩, ⟨some 2, .mov (.c (.bool false)), none, []⟩])
 (.seal_ 1
  (.seq
   (.seq
    (.region false [] [⟨some 7, .fad 0 (.t 1), none, []⟩, ⟨some 8, .ld false 1 (.t 7), none, [7]⟩, ⟨some 9, .bin false .lss (.t 8) (.c (.int .i64 0)), none, [8]⟩, ⟨some 10, .mov (.t 9), none, [9]⟩, ⟨some 11, .fad 0 (.t 1), some (10, false), []⟩, ⟨some 12, .ld false 1 (.t 11), some (10, false), [11]⟩, ⟨some 13, .bin false .gtr (.t 12) (.c (.int .i64 1000)), some (10, false), [12]⟩, ⟨some 14, .pick (.t 10) (.c (.bool true)) (.t 13), none, [10, 13]⟩])
   (.cond (.t 14)
     (.drop [1, 14]
      (.seq
       (.region false [] [⟨some 2, .mov (.c (.bool false)), none, []⟩])
      .ret))
     (.drop [14]
      .skip)))
  (.seq
   (.seq
    (.region false [] [⟨some 15, .fad 2 (.t 1), none, []⟩, ⟨some 16, .ld true 16 (.t 15), none, [15]⟩, ⟨some 17, .mov (.c (.int .i64 0)), none, []⟩])
   (.block 0
    (.loop [1, 16, 17]
     (.seq
      (.region false [] [⟨some 18, .bin false .lss (.t 17) (.c (.int .i64 16)), none, []⟩])
     (.seq
      (.cond (.t 18)
        (.drop [18]
         .skip)
        (.drop [16, 17, 18]
         (.exit 0)))
     (.seq
      (.block 1
       (.seq
        (.region false [] [⟨some 19, .mov (.t 17), none, []⟩, ⟨some 20, .ixa 16 1 false (.t 16) (.t 17), none, []⟩, ⟨some 3, .mov (.t 19), none, [19]⟩, ⟨some 4, .mov (.t 20), none, [20]⟩])
       (.seq
        (.region false [] [⟨some 21, .mov (.t 4), none, []⟩, ⟨some 22, .bin false .gtr (.t 21) (.c (.int .u16 1000)), none, [21]⟩, ⟨some 23, .mov (.t 22), none, [22]⟩, ⟨some 24, .mov (.t 4), some (23, false), [4]⟩, ⟨some 25, .bin false .gtr (.t 24) (.c (.int .u16 0)), some (23, false), [24]⟩, ⟨some 26, .mov (.t 25), some (23, false), [25]⟩, ⟨some 27, .fad 1 (.t 1), some (26, true), []⟩, ⟨some 28, .ld false 1 (.t 27), some (26, true), [27]⟩, ⟨some 29, .mov (.t 3), some (26, true), [3]⟩, ⟨some 30, .cvt .u8 (.t 29), some (26, true), [29]⟩, ⟨some 31, .call 33 [.t 28, .t 30], some (26, true), [28, 30]⟩, ⟨some 32, .un .not (.t 31), some (26, true), [31]⟩, ⟨some 33, .pick (.t 26) (.t 32) (.c (.bool false)), some (23, false), [26, 32]⟩, ⟨some 34, .pick (.t 23) (.c (.bool true)) (.t 33), none, [23, 33]⟩])
       (.cond (.t 34)
         (.drop [1, 16, 17, 34]
          (.seq
           (.region false [] [⟨some 2, .mov (.c (.bool false)), none, []⟩])
          .ret))
         (.drop [34]
          .skip)))))
     (.region false [] [⟨some 35, .bin false .add (.t 17) (.c (.int .i64 1)), none, [17]⟩, ⟨some 17, .mov (.t 35), none, [35]⟩])))))))
  (.seq
   (.seq
    (.region false [] [⟨some 36, .fad 18 (.t 1), none, []⟩, ⟨some 37, .ld false 1 (.t 36), none, [36]⟩, ⟨some 38, .len false (.t 37), none, []⟩, ⟨some 39, .mov (.c (.int .i64 0)), none, []⟩])
   (.block 2
    (.loop [1, 37, 38, 39]
     (.seq
      (.region false [] [⟨some 40, .bin false .lss (.t 39) (.t 38), none, []⟩])
     (.seq
      (.cond (.t 40)
        (.drop [40]
         .skip)
        (.drop [1, 37, 38, 39, 40]
         (.exit 2)))
     (.seq
      (.block 3
       (.seq
        (.region false [] [⟨some 41, .mov (.t 39), none, []⟩, ⟨some 42, .iax 7 (.t 37) (.t 39), none, []⟩, ⟨some 43, .ld true 7 (.t 42), none, [42]⟩, ⟨some 6, .alloc [.int .u8 0, .int .i64 0, .bool false, .bool false, .bool false, .slice none 0 0, .slice none 0 0], none, []⟩, ⟨some 5, .mov (.t 41), none, [41]⟩, ⟨none, .st 7 (.t 6) (.t 43), none, [43]⟩])
       (.seal_ 6
        (.seq
         (.draws (.tak 0 ⟨some 44, .ld true 19 (.t 1), none, []⟩ (.tak 1 ⟨some 45, .ld true 7 (.t 6), none, []⟩ (.alt 2 ⟨some 46, .call 34 [.t 44, .t 45], none, []⟩ (.tak 3 ⟨some 47, .un .not (.t 46), none, []⟩ (.tak 4 ⟨some 48, .mov (.t 47), none, []⟩ (.tak 5 ⟨some 49, .mov (.t 5), some (48, false), []⟩ (.tak 6 ⟨some 50, .bin false .gtr (.t 49) (.c (.int .i64 0)), some (48, false), []⟩ (.tak 7 ⟨some 51, .mov (.t 50), some (48, false), []⟩ (.tak 8 ⟨some 52, .fad 18 (.t 1), some (51, true), []⟩ (.tak 9 ⟨some 53, .ld false 1 (.t 52), some (51, true), []⟩ (.tak 10 ⟨some 54, .mov (.t 5), some (51, true), []⟩ (.tak 11 ⟨some 55, .bin false .sub (.t 54) (.c (.int .i64 1)), some (51, true), []⟩ (.tak 12 ⟨some 56, .iax 7 (.t 53) (.t 55), some (51, true), []⟩ (.tak 13 ⟨some 57, .ld true 7 (.t 56), some (51, true), []⟩ (.tak 14 ⟨some 58, .ld true 7 (.t 6), some (51, true), []⟩ (.alt 15 ⟨some 59, .call 25 [.t 57, .t 58], some (51, true), []⟩ (.tak 16 ⟨some 60, .bin false .geq (.t 59) (.c (.int .i64 0)), some (51, true), []⟩ (.tak 17 ⟨some 61, .pick (.t 51) (.t 60) (.c (.bool false)), some (48, false), []⟩ (.tak 18 ⟨some 62, .pick (.t 48) (.c (.bool true)) (.t 61), none, []⟩ .done))) .stop))))))))))))) .stop))) [[], [], [0, 1], [2], [3, 2], [4], [5, 4], [6, 4, 4], [7], [8, 7], [7], [10, 7], [9, 11, 7], [12, 7], [7], [13, 14, 7, 7], [15, 7], [7, 16, 4], [4, 17]] [⟨some 44, .ld true 19 (.t 1), none, []⟩, ⟨some 45, .ld true 7 (.t 6), none, []⟩, ⟨some 46, .call 34 [.t 44, .t 45], none, []⟩, ⟨some 47, .un .not (.t 46), none, []⟩, ⟨some 48, .mov (.t 47), none, []⟩, ⟨some 49, .mov (.t 5), some (48, false), []⟩, ⟨some 50, .bin false .gtr (.t 49) (.c (.int .i64 0)), some (48, false), []⟩, ⟨some 51, .mov (.t 50), some (48, false), []⟩, ⟨some 52, .fad 18 (.t 1), some (51, true), []⟩, ⟨some 53, .ld false 1 (.t 52), some (51, true), []⟩, ⟨some 54, .mov (.t 5), some (51, true), []⟩, ⟨some 55, .bin false .sub (.t 54) (.c (.int .i64 1)), some (51, true), []⟩, ⟨some 56, .iax 7 (.t 53) (.t 55), some (51, true), []⟩, ⟨some 57, .ld true 7 (.t 56), some (51, true), []⟩, ⟨some 58, .ld true 7 (.t 6), some (51, true), []⟩, ⟨some 59, .call 25 [.t 57, .t 58], some (51, true), []⟩, ⟨some 60, .bin false .geq (.t 59) (.c (.int .i64 0)), some (51, true), []⟩, ⟨some 61, .pick (.t 51) (.t 60) (.c (.bool false)), some (48, false), []⟩, ⟨some 62, .pick (.t 48) (.c (.bool true)) (.t 61), none, []⟩])
        (.drop [5, 6, 44, 45, 46, 47, 48, 49, 50, 51, 52, 53, 54, 55, 56, 57, 58, 59, 60, 61]
         (.pack [1, 37, 38, 39, 62]
          (.cond (.t 62)
            (.drop [1, 37, 38, 39, 62]
             (.seq
              (.region false [] [⟨some 2, .mov (.c (.bool false)), none, []⟩])
             .ret))
            (.drop [62]
             .skip))))))))
     (.region false [] [⟨some 63, .bin false .add (.t 39) (.c (.int .i64 1)), none, [39]⟩, ⟨some 39, .mov (.t 63), none, [63]⟩])))))))
  (.seq
   (.region false [] [⟨some 2, .mov (.c (.bool true)), none, []⟩])
  .ret))))))
def rs_15 : List ARes := [.tmp 2]
theorem g_15 : Good Try.prog 15 ac_15 rs_15 := ⟨Try.f15, Try.f15.body.getD .skip, by kernel_rfl, by kernel_rfl, by kernel_rfl, ⟨by kernel_rfl, by kernel_rfl⟩, by kernel_rfl, by kernel_rfl⟩
theorem ok_15 {Γ : Env} (hΓ : EnvOk Try.prog Γ) (sp : Spec) (h : WB Γ ac_15 rs_15 sp) : CallOk Try.prog 15 sp := g_15.ok hΓ mix_ok sp h

/-- chantry/chantryref08.Right -/
def ac_16 : ACode :=
 (.seq
  (.region false [] [⟨some 1, .box (.t 0), none, [0]⟩, ⟨some 2, .mov (.c (.bool false)), none, []⟩])
 (.seal_ 1
  (.seq
   (.seq
    (.region false [] [⟨some 3, .mov (.c (.int .i64 0)), none, []⟩])
   (.block 0
    (.loop [1, 3]
     (.seq
      (.seq
       (.region false [] [⟨some 6, .mov (.t 3), none, []⟩, ⟨some 7, .bin false .lss (.t 6) (.c (.int .i64 16)), none, [6]⟩])
      (.cond (.t 7)
        (.drop [7]
         .skip)
        (.drop [3, 7]
         (.exit 0))))
     (.seq
      (.block 1
       (.seq
        (.region false [] [⟨some 10, .mov (.t 3), none, []⟩, ⟨some 11, .fad 2 (.t 1), none, []⟩, ⟨some 12, .iaa 16 1 (.t 11) (.t 10), none, [10, 11]⟩, ⟨some 13, .ld false 1 (.t 12), none, [12]⟩, ⟨some 14, .bin false .gtr (.t 13) (.c (.int .u16 1000)), none, [13]⟩, ⟨some 15, .mov (.t 14), none, [14]⟩, ⟨some 16, .mov (.t 3), some (15, false), []⟩, ⟨some 17, .fad 2 (.t 1), some (15, false), []⟩, ⟨some 18, .iaa 16 1 (.t 17) (.t 16), some (15, false), [16, 17]⟩, ⟨some 19, .ld false 1 (.t 18), some (15, false), [18]⟩, ⟨some 20, .bin false .gtr (.t 19) (.c (.int .u16 0)), some (15, false), [19]⟩, ⟨some 21, .mov (.t 20), some (15, false), [20]⟩, ⟨some 22, .fad 1 (.t 1), some (21, true), []⟩, ⟨some 23, .ld false 1 (.t 22), some (21, true), [22]⟩, ⟨some 24, .mov (.t 3), some (21, true), []⟩, ⟨some 25, .cvt .u8 (.t 24), some (21, true), [24]⟩, ⟨some 26, .call 35 [.t 23, .t 25], some (21, true), [23, 25]⟩, ⟨some 27, .un .not (.t 26), some (21, true), [26]⟩, ⟨some 28, .pick (.t 21) (.t 27) (.c (.bool false)), some (15, false), [21, 27]⟩, ⟨some 29, .pick (.t 15) (.c (.bool true)) (.t 28), none, [15, 28]⟩])
       (.cond (.t 29)
         (.drop [1, 3, 29]
          (.seq
           (.region false [] [⟨some 2, .mov (.c (.bool false)), none, []⟩])
          .ret))
         (.drop [29]
          .skip))))
     (.region false [] [⟨some 8, .mov (.t 3), none, [3]⟩, ⟨some 9, .bin false .add (.t 8) (.c (.int .i64 1)), none, [8]⟩, ⟨some 3, .mov (.t 9), none, [9]⟩]))))))
  (.seq
   (.seq
    (.region false [] [⟨some 4, .mov (.c (.int .i64 0)), none, []⟩])
   (.block 2
    (.loop [1, 4]
     (.seq
      (.seq
       (.region false [] [⟨some 30, .mov (.t 4), none, []⟩, ⟨some 31, .fad 18 (.t 1), none, []⟩, ⟨some 32, .ld false 1 (.t 31), none, [31]⟩, ⟨some 33, .len false (.t 32), none, [32]⟩, ⟨some 34, .bin false .lss (.t 30) (.t 33), none, [30, 33]⟩])
      (.cond (.t 34)
        (.drop [34]
         .skip)
        (.drop [4, 34]
         (.exit 2))))
     (.seq
      (.block 3
       (.seq
        (.region false [] [⟨some 37, .fad 18 (.t 1), none, []⟩, ⟨some 38, .ld false 1 (.t 37), none, [37]⟩, ⟨some 39, .mov (.t 4), none, []⟩, ⟨some 40, .iax 7 (.t 38) (.t 39), none, [38, 39]⟩, ⟨some 41, .ld true 7 (.t 40), none, [40]⟩, ⟨some 5, .alloc [.int .u8 0, .int .i64 0, .bool false, .bool false, .bool false, .slice none 0 0, .slice none 0 0], none, []⟩, ⟨none, .st 7 (.t 5) (.t 41), none, [41]⟩])
       (.seal_ 5
        (.seq
         (.seq
          (.region false [] [⟨some 42, .ld true 19 (.t 1), none, []⟩, ⟨some 43, .ld true 7 (.t 5), none, []⟩, ⟨some 44, .call 36 [.t 42, .t 43], none, [42, 43]⟩, ⟨some 45, .un .not (.t 44), none, [44]⟩])
         (.cond (.t 45)
           (.drop [1, 4, 5, 45]
            (.seq
             (.region false [] [⟨some 2, .mov (.c (.bool false)), none, []⟩])
            .ret))
           (.drop [45]
            .skip)))
        (.seq
         (.draws (.tak 0 ⟨some 46, .mov (.t 4), none, []⟩ (.tak 1 ⟨some 47, .bin false .gtr (.t 46) (.c (.int .i64 0)), none, []⟩ (.tak 2 ⟨some 48, .mov (.t 47), none, []⟩ (.tak 3 ⟨some 49, .fad 18 (.t 1), some (48, true), []⟩ (.tak 4 ⟨some 50, .ld false 1 (.t 49), some (48, true), []⟩ (.tak 5 ⟨some 51, .mov (.t 4), some (48, true), []⟩ (.tak 6 ⟨some 52, .bin false .sub (.t 51) (.c (.int .i64 1)), some (48, true), []⟩ (.tak 7 ⟨some 53, .iax 7 (.t 50) (.t 52), some (48, true), []⟩ (.tak 8 ⟨some 54, .fad 0 (.t 53), some (48, true), []⟩ (.tak 9 ⟨some 55, .ld false 1 (.t 54), some (48, true), []⟩ (.tak 10 ⟨some 56, .fad 0 (.t 5), some (48, true), []⟩ (.tak 11 ⟨some 57, .ld false 1 (.t 56), some (48, true), []⟩ (.tak 12 ⟨some 58, .bin false .lss (.t 55) (.t 57), some (48, true), []⟩ (.tak 13 ⟨some 59, .mov (.t 58), some (48, true), []⟩ (.tak 14 ⟨some 60, .fad 18 (.t 1), some (59, false), []⟩ (.tak 15 ⟨some 61, .ld false 1 (.t 60), some (59, false), []⟩ (.tak 16 ⟨some 62, .mov (.t 4), some (59, false), []⟩ (.tak 17 ⟨some 63, .bin false .sub (.t 62) (.c (.int .i64 1)), some (59, false), []⟩ (.tak 18 ⟨some 64, .iax 7 (.t 61) (.t 63), some (59, false), []⟩ (.tak 19 ⟨some 65, .fad 0 (.t 64), some (59, false), []⟩ (.tak 20 ⟨some 66, .ld false 1 (.t 65), some (59, false), []⟩ (.tak 21 ⟨some 67, .fad 0 (.t 5), some (59, false), []⟩ (.tak 22 ⟨some 68, .ld false 1 (.t 67), some (59, false), []⟩ (.tak 23 ⟨some 69, .bin false .eql (.t 66) (.t 68), some (59, false), []⟩ (.tak 24 ⟨some 70, .mov (.t 69), some (59, false), []⟩ (.tak 25 ⟨some 71, .fad 18 (.t 1), some (70, true), []⟩ (.tak 26 ⟨some 72, .ld false 1 (.t 71), some (70, true), []⟩ (.tak 27 ⟨some 73, .mov (.t 4), some (70, true), []⟩ (.tak 28 ⟨some 74, .bin false .sub (.t 73) (.c (.int .i64 1)), some (70, true), []⟩ (.tak 29 ⟨some 75, .iax 7 (.t 72) (.t 74), some (70, true), []⟩ (.tak 30 ⟨some 76, .fad 1 (.t 75), some (70, true), []⟩ (.tak 31 ⟨some 77, .ld false 1 (.t 76), some (70, true), []⟩ (.tak 32 ⟨some 78, .fad 1 (.t 5), some (70, true), []⟩ (.tak 33 ⟨some 79, .ld false 1 (.t 78), some (70, true), []⟩ (.tak 34 ⟨some 80, .bin false .lss (.t 77) (.t 79), some (70, true), []⟩ (.tak 35 ⟨some 81, .pick (.t 70) (.t 80) (.c (.bool false)), some (59, false), []⟩ (.tak 36 ⟨some 82, .pick (.t 59) (.c (.bool true)) (.t 81), some (48, true), []⟩ (.tak 37 ⟨some 83, .un .not (.t 82), some (48, true), []⟩ (.tak 38 ⟨some 84, .pick (.t 48) (.t 83) (.c (.bool false)), none, []⟩ .done))))))))))))))))))))))))))))))))))))))) [[], [0], [1], [2], [3, 2], [2], [5, 2], [4, 6, 2], [7, 2], [8, 2], [2], [10, 2], [9, 11, 2], [12, 2, 2], [13], [14, 13], [13], [16, 13], [15, 17, 13], [18, 13], [19, 13], [13], [21, 13], [20, 22, 13], [23, 13, 13], [24], [25, 24], [24], [27, 24], [26, 28, 24], [29, 24], [30, 24], [24], [32, 24], [31, 33, 24], [24, 34, 13], [13, 35, 2], [36, 2], [2, 37]] [⟨some 46, .mov (.t 4), none, []⟩, ⟨some 47, .bin false .gtr (.t 46) (.c (.int .i64 0)), none, []⟩, ⟨some 48, .mov (.t 47), none, []⟩, ⟨some 49, .fad 18 (.t 1), some (48, true), []⟩, ⟨some 50, .ld false 1 (.t 49), some (48, true), []⟩, ⟨some 51, .mov (.t 4), some (48, true), []⟩, ⟨some 52, .bin false .sub (.t 51) (.c (.int .i64 1)), some (48, true), []⟩, ⟨some 53, .iax 7 (.t 50) (.t 52), some (48, true), []⟩, ⟨some 54, .fad 0 (.t 53), some (48, true), []⟩, ⟨some 55, .ld false 1 (.t 54), some (48, true), []⟩, ⟨some 56, .fad 0 (.t 5), some (48, true), []⟩, ⟨some 57, .ld false 1 (.t 56), some (48, true), []⟩, ⟨some 58, .bin false .lss (.t 55) (.t 57), some (48, true), []⟩, ⟨some 59, .mov (.t 58), some (48, true), []⟩, ⟨some 60, .fad 18 (.t 1), some (59, false), []⟩, ⟨some 61, .ld false 1 (.t 60), some (59, false), []⟩, ⟨some 62, .mov (.t 4), some (59, false), []⟩, ⟨some 63, .bin false .sub (.t 62) (.c (.int .i64 1)), some (59, false), []⟩, ⟨some 64, .iax 7 (.t 61) (.t 63), some (59, false), []⟩, ⟨some 65, .fad 0 (.t 64), some (59, false), []⟩, ⟨some 66, .ld false 1 (.t 65), some (59, false), []⟩, ⟨some 67, .fad 0 (.t 5), some (59, false), []⟩, ⟨some 68, .ld false 1 (.t 67), some (59, false), []⟩, ⟨some 69, .bin false .eql (.t 66) (.t 68), some (59, false), []⟩, ⟨some 70, .mov (.t 69), some (59, false), []⟩, ⟨some 71, .fad 18 (.t 1), some (70, true), []⟩, ⟨some 72, .ld false 1 (.t 71), some (70, true), []⟩, ⟨some 73, .mov (.t 4), some (70, true), []⟩, ⟨some 74, .bin false .sub (.t 73) (.c (.int .i64 1)), some (70, true), []⟩, ⟨some 75, .iax 7 (.t 72) (.t 74), some (70, true), []⟩, ⟨some 76, .fad 1 (.t 75), some (70, true), []⟩, ⟨some 77, .ld false 1 (.t 76), some (70, true), []⟩, ⟨some 78, .fad 1 (.t 5), some (70, true), []⟩, ⟨some 79, .ld false 1 (.t 78), some (70, true), []⟩, ⟨some 80, .bin false .lss (.t 77) (.t 79), some (70, true), []⟩, ⟨some 81, .pick (.t 70) (.t 80) (.c (.bool false)), some (59, false), []⟩, ⟨some 82, .pick (.t 59) (.c (.bool true)) (.t 81), some (48, true), []⟩, ⟨some 83, .un .not (.t 82), some (48, true), []⟩, ⟨some 84, .pick (.t 48) (.t 83) (.c (.bool false)), none, []⟩])
        (.drop [5, 46, 47, 48, 49, 50, 51, 52, 53, 54, 55, 56, 57, 58, 59, 60, 61, 62, 63, 64, 65, 66, 67, 68, 69, 70, 71, 72, 73, 74, 75, 76, 77, 78, 79, 80, 81, 82, 83]
         (.cond (.t 84)
           (.drop [1, 4, 84]
            (.seq
             (.region false [] [⟨some 2, .mov (.c (.bool false)), none, []⟩])
            .ret))
           (.drop [84]
            .skip))))))))
     (.region false [] [⟨some 35, .mov (.t 4), none, [4]⟩, ⟨some 36, .bin false .add (.t 35) (.c (.int .i64 1)), none, [35]⟩, ⟨some 4, .mov (.t 36), none, [36]⟩]))))))
  (.seq
   (.region false [] [⟨some 85, .fad 0 (.t 1), none, []⟩, ⟨some 86, .ld false 1 (.t 85), none, [85]⟩, ⟨some 87, .bin false .geq (.t 86) (.c (.int .i64 0)), none, [86]⟩, ⟨some 88, .mov (.t 87), none, [87]⟩, ⟨some 89, .fad 0 (.t 1), some (88, true), [1]⟩, ⟨some 90, .ld false 1 (.t 89), some (88, true), [89]⟩, ⟨some 91, .bin false .leq (.t 90) (.c (.int .i64 1000)), some (88, true), [90]⟩, ⟨some 92, .pick (.t 88) (.t 91) (.c (.bool false)), none, [88, 91]⟩, ⟨some 2, .mov (.t 92), none, [92]⟩])
  .ret)))))
def rs_16 : List ARes := [.tmp 2]
theorem g_16 : Good Try.prog 16 ac_16 rs_16 := ⟨Try.f16, Try.f16.body.getD .skip, by kernel_rfl, by kernel_rfl, by kernel_rfl, ⟨by kernel_rfl, by kernel_rfl⟩, by kernel_rfl, by kernel_rfl⟩
theorem ok_16 {Γ : Env} (hΓ : EnvOk Try.prog Γ) (sp : Spec) (h : WB Γ ac_16 rs_16 sp) : CallOk Try.prog 16 sp := g_16.ok hΓ mix_ok sp h

/-- chantry/chantryref08.Same -/
def ac_17 : ACode :=
 (.seq
  (.region false [] [⟨some 2, .box (.t 0), none, [0]⟩, ⟨some 3, .box (.t 1), none, [1]⟩, ⟨some 4, .mov (.c (.bool false)), none, []⟩])
 (.seal_ 3
  (.seal_ 2
   (.seq
    (.seq
     (.region false [] [⟨some 8, .fad 0 (.t 2), none, []⟩, ⟨some 9, .ld false 1 (.t 8), none, [8]⟩, ⟨some 10, .fad 0 (.t 3), none, []⟩, ⟨some 11, .ld false 1 (.t 10), none, [10]⟩, ⟨some 12, .bin false .neq (.t 9) (.t 11), none, [9, 11]⟩, ⟨some 13, .mov (.t 12), none, [12]⟩, ⟨some 14, .fad 1 (.t 2), some (13, false), []⟩, ⟨some 15, .ld false 1 (.t 14), some (13, false), [14]⟩, ⟨some 16, .fad 1 (.t 3), some (13, false), []⟩, ⟨some 17, .ld false 1 (.t 16), some (13, false), [16]⟩, ⟨some 18, .bin false .neq (.t 15) (.t 17), some (13, false), [15, 17]⟩, ⟨some 19, .pick (.t 13) (.c (.bool true)) (.t 18), none, [13, 18]⟩, ⟨some 20, .mov (.t 19), none, [19]⟩, ⟨some 21, .fad 2 (.t 2), some (20, false), []⟩, ⟨some 22, .ld true 16 (.t 21), some (20, false), [21]⟩, ⟨some 23, .fad 2 (.t 3), some (20, false), []⟩, ⟨some 24, .ld true 16 (.t 23), some (20, false), [23]⟩, ⟨some 25, .eqs true [.i, .i, .i, .i, .i, .i, .i, .i, .i, .i, .i, .i, .i, .i, .i, .i] (.t 22) (.t 24), some (20, false), [22, 24]⟩, ⟨some 26, .pick (.t 20) (.c (.bool true)) (.t 25), none, [20, 25]⟩, ⟨some 27, .mov (.t 26), none, [26]⟩, ⟨some 28, .fad 18 (.t 2), some (27, false), []⟩, ⟨some 29, .ld false 1 (.t 28), some (27, false), [28]⟩, ⟨some 30, .len false (.t 29), some (27, false), [29]⟩, ⟨some 31, .fad 18 (.t 3), some (27, false), []⟩, ⟨some 32, .ld false 1 (.t 31), some (27, false), [31]⟩, ⟨some 33, .len false (.t 32), some (27, false), [32]⟩, ⟨some 34, .bin false .neq (.t 30) (.t 33), some (27, false), [30, 33]⟩, ⟨some 35, .pick (.t 27) (.c (.bool true)) (.t 34), none, [27, 34]⟩])
    (.cond (.t 35)
      (.drop [2, 3, 35]
       (.seq
        (.region false [] [⟨some 4, .mov (.c (.bool false)), none, []⟩])
       .ret))
      (.drop [35]
       .skip)))
   (.seq
    (.seq
     (.region false [] [⟨some 5, .mov (.c (.int .i64 0)), none, []⟩])
    (.block 0
     (.loop [2, 3, 5]
      (.seq
       (.seq
        (.region false [] [⟨some 36, .mov (.t 5), none, []⟩, ⟨some 37, .fad 18 (.t 2), none, []⟩, ⟨some 38, .ld false 1 (.t 37), none, [37]⟩, ⟨some 39, .len false (.t 38), none, [38]⟩, ⟨some 40, .bin false .lss (.t 36) (.t 39), none, [36, 39]⟩])
       (.cond (.t 40)
         (.drop [40]
          .skip)
         (.drop [2, 3, 5, 40]
          (.exit 0))))
      (.seq
       (.block 1
        (.seq
         (.draws (.tak 0 ⟨some 43, .fad 18 (.t 2), none, []⟩ (.tak 1 ⟨some 44, .ld false 1 (.t 43), none, []⟩ (.tak 2 ⟨some 45, .mov (.t 5), none, []⟩ (.tak 3 ⟨some 46, .iax 7 (.t 44) (.t 45), none, []⟩ (.tak 4 ⟨some 47, .ld true 7 (.t 46), none, []⟩ (.tak 5 ⟨some 48, .fad 18 (.t 3), none, []⟩ (.tak 6 ⟨some 49, .ld false 1 (.t 48), none, []⟩ (.tak 7 ⟨some 50, .mov (.t 5), none, []⟩ (.tak 8 ⟨some 51, .iax 7 (.t 49) (.t 50), none, []⟩ (.tak 9 ⟨some 52, .ld true 7 (.t 51), none, []⟩ (.alt 10 ⟨some 6, .alloc [.int .u8 0, .int .i64 0, .bool false, .bool false, .bool false, .slice none 0 0, .slice none 0 0], none, []⟩ (.alt 11 ⟨some 7, .alloc [.int .u8 0, .int .i64 0, .bool false, .bool false, .bool false, .slice none 0 0, .slice none 0 0], none, []⟩ (.alt 12 ⟨none, .st 7 (.t 6) (.t 47), none, []⟩ (.alt 13 ⟨none, .st 7 (.t 7) (.t 52), none, []⟩ .done .stop) .stop) .stop) (.alt 11 ⟨some 7, .alloc [.int .u8 0, .int .i64 0, .bool false, .bool false, .bool false, .slice none 0 0, .slice none 0 0], none, []⟩ (.alt 10 ⟨some 6, .alloc [.int .u8 0, .int .i64 0, .bool false, .bool false, .bool false, .slice none 0 0, .slice none 0 0], none, []⟩ (.alt 12 ⟨none, .st 7 (.t 6) (.t 47), none, []⟩ (.alt 13 ⟨none, .st 7 (.t 7) (.t 52), none, []⟩ .done .stop) .stop) .stop) .stop)))))))))))) [[], [0], [], [1, 2], [3], [], [5], [], [6, 7], [8], [], [], [10, 4, 0, 1, 2, 3, 4, 10, 11], [11, 9, 12, 0, 1, 2, 3, 4, 5, 6, 7, 8, 9, 10, 11, 12]] [⟨some 43, .fad 18 (.t 2), none, []⟩, ⟨some 44, .ld false 1 (.t 43), none, []⟩, ⟨some 45, .mov (.t 5), none, []⟩, ⟨some 46, .iax 7 (.t 44) (.t 45), none, []⟩, ⟨some 47, .ld true 7 (.t 46), none, []⟩, ⟨some 48, .fad 18 (.t 3), none, []⟩, ⟨some 49, .ld false 1 (.t 48), none, []⟩, ⟨some 50, .mov (.t 5), none, []⟩, ⟨some 51, .iax 7 (.t 49) (.t 50), none, []⟩, ⟨some 52, .ld true 7 (.t 51), none, []⟩, ⟨some 6, .alloc [.int .u8 0, .int .i64 0, .bool false, .bool false, .bool false, .slice none 0 0, .slice none 0 0], none, []⟩, ⟨some 7, .alloc [.int .u8 0, .int .i64 0, .bool false, .bool false, .bool false, .slice none 0 0, .slice none 0 0], none, []⟩, ⟨none, .st 7 (.t 6) (.t 47), none, []⟩, ⟨none, .st 7 (.t 7) (.t 52), none, []⟩])
        (.drop [43, 44, 45, 46, 47, 48, 49, 50, 51, 52]
         (.pack [2, 3, 5, 6, 7]
          (.seq
           (.region false [] [⟨some 53, .fad 0 (.t 6), none, []⟩, ⟨some 54, .ld false 1 (.t 53), none, [53]⟩, ⟨some 55, .fad 0 (.t 7), none, []⟩, ⟨some 56, .ld false 1 (.t 55), none, [55]⟩, ⟨some 57, .bin false .neq (.t 54) (.t 56), none, [54, 56]⟩, ⟨some 58, .mov (.t 57), none, [57]⟩, ⟨some 59, .fad 1 (.t 6), some (58, false), []⟩, ⟨some 60, .ld false 1 (.t 59), some (58, false), [59]⟩, ⟨some 61, .fad 1 (.t 7), some (58, false), []⟩, ⟨some 62, .ld false 1 (.t 61), some (58, false), [61]⟩, ⟨some 63, .bin false .neq (.t 60) (.t 62), some (58, false), [60, 62]⟩, ⟨some 64, .pick (.t 58) (.c (.bool true)) (.t 63), none, [58, 63]⟩, ⟨some 65, .mov (.t 64), none, [64]⟩, ⟨some 66, .fad 2 (.t 6), some (65, false), [6]⟩, ⟨some 67, .ld true 5 (.t 66), some (65, false), [66]⟩, ⟨some 68, .fad 2 (.t 7), some (65, false), [7]⟩, ⟨some 69, .ld true 5 (.t 68), some (65, false), [68]⟩, ⟨some 70, .call 37 [.t 67, .t 69], some (65, false), [67, 69]⟩, ⟨some 71, .un .not (.t 70), some (65, false), [70]⟩, ⟨some 72, .pick (.t 65) (.c (.bool true)) (.t 71), none, [65, 71]⟩])
          (.cond (.t 72)
            (.drop [2, 3, 5, 72]
             (.seq
              (.region false [] [⟨some 4, .mov (.c (.bool false)), none, []⟩])
             .ret))
            (.drop [72]
             .skip)))))))
      (.region false [] [⟨some 41, .mov (.t 5), none, [5]⟩, ⟨some 42, .bin false .add (.t 41) (.c (.int .i64 1)), none, [41]⟩, ⟨some 5, .mov (.t 42), none, [42]⟩]))))))
   (.seq
    (.region false [] [⟨some 4, .mov (.c (.bool true)), none, []⟩])
   .ret))))))
def rs_17 : List ARes := [.tmp 4]
theorem g_17 : Good Try.prog 17 ac_17 rs_17 := ⟨Try.f17, Try.f17.body.getD .skip, by kernel_rfl, by kernel_rfl, by kernel_rfl, ⟨by kernel_rfl, by kernel_rfl⟩, by kernel_rfl, by kernel_rfl⟩
theorem ok_17 {Γ : Env} (hΓ : EnvOk Try.prog Γ) (sp : Spec) (h : WB Γ ac_17 rs_17 sp) : CallOk Try.prog 17 sp := g_17.ok hΓ mix_ok sp h

/-- (chantry/table.Table).own -/
def ac_22 : ACode :=
 (.seq
  (.region false [] [⟨some 1, .box (.t 0), none, [0]⟩, ⟨some 2, .alloc [.int .i64 0, .int .u16 0, .int .u16 0, .int .u16 0, .int .u16 0, .int .u16 0, .int .u16 0, .int .u16 0, .int .u16 0, .int .u16 0, .int .u16 0, .int .u16 0, .int .u16 0, .int .u16 0, .int .u16 0, .int .u16 0, .int .u16 0, .int .u16 0, .slice none 0 0], none, []⟩])
 (.seq
  (.region false [] [⟨some 5, .fad 18 (.t 1), none, []⟩, ⟨some 6, .ld false 1 (.t 5), none, [5]⟩, ⟨some 7, .call 47 [.t 6], none, [6]⟩, ⟨some 8, .fad 18 (.t 1), none, []⟩, ⟨none, .st 1 (.t 8) (.t 7), none, [7, 8]⟩])
 (.seq
  (.seq
   (.region false [] [⟨some 9, .fad 18 (.t 1), none, []⟩, ⟨some 10, .ld false 1 (.t 9), none, [9]⟩, ⟨some 11, .len false (.t 10), none, []⟩, ⟨some 12, .mov (.c (.int .i64 0)), none, []⟩])
  (.block 0
   (.loop [1, 2, 10, 11, 12]
    (.seq
     (.region false [] [⟨some 13, .bin false .lss (.t 12) (.t 11), none, []⟩])
    (.seq
     (.cond (.t 13)
       (.drop [13]
        .skip)
       (.drop [10, 11, 12, 13]
        (.exit 0)))
    (.seq
     (.block 1
      (.seq
       (.region false [] [⟨some 14, .mov (.t 12), none, []⟩, ⟨some 15, .iax 7 (.t 10) (.t 12), none, []⟩, ⟨some 16, .ld true 7 (.t 15), none, [15]⟩, ⟨some 4, .alloc [.int .u8 0, .int .i64 0, .bool false, .bool false, .bool false, .slice none 0 0, .slice none 0 0], none, []⟩, ⟨some 3, .mov (.t 14), none, [14]⟩, ⟨none, .st 7 (.t 4) (.t 16), none, [16]⟩])
      (.seq
       (.draws (.tak 0 ⟨some 17, .fad 2 (.t 4), none, []⟩ (.tak 1 ⟨some 18, .fad 3 (.t 17), none, []⟩ (.tak 4 ⟨some 21, .fad 2 (.t 4), none, []⟩ (.tak 5 ⟨some 22, .fad 4 (.t 21), none, []⟩ (.alt 2 ⟨some 19, .ld false 1 (.t 18), none, []⟩ (.alt 3 ⟨some 20, .call 48 [.t 19], none, []⟩ (.alt 6 ⟨some 23, .ld false 1 (.t 22), none, []⟩ (.tak 8 ⟨some 25, .fad 2 (.t 4), none, []⟩ (.tak 9 ⟨some 26, .fad 3 (.t 25), none, []⟩ (.alt 7 ⟨some 24, .call 48 [.t 23], none, []⟩ (.alt 10 ⟨none, .st 1 (.t 26) (.t 20), none, []⟩ (.tak 11 ⟨some 27, .fad 2 (.t 4), none, []⟩ (.tak 12 ⟨some 28, .fad 4 (.t 27), none, []⟩ (.alt 13 ⟨none, .st 1 (.t 28) (.t 24), none, []⟩ .done .stop))) .stop) .stop))) .stop) (.alt 6 ⟨some 23, .ld false 1 (.t 22), none, []⟩ (.alt 3 ⟨some 20, .call 48 [.t 19], none, []⟩ (.tak 8 ⟨some 25, .fad 2 (.t 4), none, []⟩ (.tak 9 ⟨some 26, .fad 3 (.t 25), none, []⟩ (.alt 7 ⟨some 24, .call 48 [.t 23], none, []⟩ (.alt 10 ⟨none, .st 1 (.t 26) (.t 20), none, []⟩ (.tak 11 ⟨some 27, .fad 2 (.t 4), none, []⟩ (.tak 12 ⟨some 28, .fad 4 (.t 27), none, []⟩ (.alt 13 ⟨none, .st 1 (.t 28) (.t 24), none, []⟩ .done .stop))) .stop) .stop))) .stop) .stop)) (.alt 6 ⟨some 23, .ld false 1 (.t 22), none, []⟩ (.alt 2 ⟨some 19, .ld false 1 (.t 18), none, []⟩ (.alt 3 ⟨some 20, .call 48 [.t 19], none, []⟩ (.tak 8 ⟨some 25, .fad 2 (.t 4), none, []⟩ (.tak 9 ⟨some 26, .fad 3 (.t 25), none, []⟩ (.alt 7 ⟨some 24, .call 48 [.t 23], none, []⟩ (.alt 10 ⟨none, .st 1 (.t 26) (.t 20), none, []⟩ (.tak 11 ⟨some 27, .fad 2 (.t 4), none, []⟩ (.tak 12 ⟨some 28, .fad 4 (.t 27), none, []⟩ (.alt 13 ⟨none, .st 1 (.t 28) (.t 24), none, []⟩ .done .stop))) .stop) .stop))) .stop) .stop) .stop)))))) [[], [0], [1], [2], [], [4], [5], [6, 3], [0, 1, 2, 3, 4, 5, 6], [8, 0, 1, 2, 3, 4, 5, 6], [9, 3, 7, 0, 1, 2, 3, 4, 5, 6], [0, 1, 2, 3, 4, 5, 6, 7, 8, 9, 10], [11, 0, 1, 2, 3, 4, 5, 6, 7, 8, 9, 10], [12, 7, 10, 0, 1, 2, 3, 4, 5, 6, 7, 8, 9, 10]] [⟨some 17, .fad 2 (.t 4), none, []⟩, ⟨some 18, .fad 3 (.t 17), none, []⟩, ⟨some 19, .ld false 1 (.t 18), none, []⟩, ⟨some 20, .call 48 [.t 19], none, []⟩, ⟨some 21, .fad 2 (.t 4), none, []⟩, ⟨some 22, .fad 4 (.t 21), none, []⟩, ⟨some 23, .ld false 1 (.t 22), none, []⟩, ⟨some 24, .call 48 [.t 23], none, []⟩, ⟨some 25, .fad 2 (.t 4), none, []⟩, ⟨some 26, .fad 3 (.t 25), none, []⟩, ⟨none, .st 1 (.t 26) (.t 20), none, []⟩, ⟨some 27, .fad 2 (.t 4), none, []⟩, ⟨some 28, .fad 4 (.t 27), none, []⟩, ⟨none, .st 1 (.t 28) (.t 24), none, []⟩])
      (.drop [17, 18, 19, 20, 21, 22, 23, 24, 25, 26, 27, 28]
       (.pack [1, 2, 3, 4, 10, 11, 12]
        (.region false [] [⟨some 29, .fad 18 (.t 1), none, []⟩, ⟨some 30, .ld false 1 (.t 29), none, [29]⟩, ⟨some 31, .mov (.t 3), none, [3]⟩, ⟨some 32, .ld true 7 (.t 4), none, [4]⟩, ⟨some 33, .iax 7 (.t 30) (.t 31), none, [30, 31]⟩, ⟨none, .st 7 (.t 33) (.t 32), none, [32, 33]⟩]))))))
    (.region false [] [⟨some 34, .bin false .add (.t 12) (.c (.int .i64 1)), none, [12]⟩, ⟨some 12, .mov (.t 34), none, [34]⟩])))))))
 (.seq
  (.region false [] [⟨some 35, .ld true 19 (.t 1), none, [1]⟩, ⟨none, .st 19 (.t 2) (.t 35), none, [35]⟩])
 .ret))))
def rs_22 : List ARes := [.cell 2 true 19]
theorem g_22 : Good Try.prog 22 ac_22 rs_22 := ⟨Try.f22, Try.f22.body.getD .skip, by kernel_rfl, by kernel_rfl, by kernel_rfl, ⟨by kernel_rfl, by kernel_rfl⟩, by kernel_rfl, by kernel_rfl⟩
theorem ok_22 {Γ : Env} (hΓ : EnvOk Try.prog Γ) (sp : Spec) (h : WB Γ ac_22 rs_22 sp) : CallOk Try.prog 22 sp := g_22.ok hΓ mix_ok sp h

/-- (chantry/table.Table).may -/
def ac_23 : ACode :=
 (.seq
  (.region false [] [⟨some 2, .box (.t 0), none, [0]⟩, ⟨some 3, .box (.t 1), none, [1]⟩, ⟨some 4, .mov (.c (.int .i64 0)), none, []⟩])
 (.seal_ 3
  (.seal_ 2
   (.seq
    (.block 0
     (.seq
      (.region false [] [⟨some 7, .ld true 19 (.t 2), none, []⟩, ⟨some 8, .call 15 [.t 7], none, [7]⟩, ⟨some 9, .un .not (.t 8), none, [8]⟩, ⟨some 6, .mov (.t 9), none, [9]⟩])
     (.cond (.t 6)
       (.drop [2, 3, 6]
        (.seq
         (.region false [] [⟨some 4, .mov (.c (.int .i64 2)), none, []⟩])
        .ret))
       (.drop [6]
        (.seq
         (.region false [] [⟨some 11, .fad 0 (.t 3), none, []⟩, ⟨some 12, .ld false 1 (.t 11), none, [11]⟩, ⟨some 13, .fad 0 (.t 2), none, []⟩, ⟨some 14, .ld false 1 (.t 13), none, [13]⟩, ⟨some 15, .bin false .neq (.t 12) (.t 14), none, [12, 14]⟩, ⟨some 10, .mov (.t 15), none, [15]⟩])
        (.cond (.t 10)
          (.drop [2, 3, 10]
           (.seq
            (.region false [] [⟨some 4, .mov (.c (.int .i64 11)), none, []⟩])
           .ret))
          (.drop [10]
           (.seq
            (.region false [] [⟨some 17, .fad 1 (.t 2), none, []⟩, ⟨some 18, .ld false 1 (.t 17), none, [17]⟩, ⟨some 19, .fad 1 (.t 3), none, []⟩, ⟨some 20, .ld false 1 (.t 19), none, [19]⟩, ⟨some 21, .call 33 [.t 18, .t 20], none, [18, 20]⟩, ⟨some 22, .un .not (.t 21), none, [21]⟩, ⟨some 16, .mov (.t 22), none, [22]⟩])
           (.cond (.t 16)
             (.drop [2, 3, 16]
              (.seq
               (.region false [] [⟨some 4, .mov (.c (.int .i64 10)), none, []⟩])
              .ret))
             (.drop [16]
              (.seq
               (.region false [] [⟨some 24, .fad 2 (.t 3), none, []⟩, ⟨some 25, .ld false 1 (.t 24), none, [24]⟩, ⟨some 26, .bin false .lss (.t 25) (.c (.int .i64 0)), none, [25]⟩, ⟨some 27, .mov (.t 26), none, [26]⟩, ⟨some 28, .fad 2 (.t 3), some (27, false), []⟩, ⟨some 29, .ld false 1 (.t 28), some (27, false), [28]⟩, ⟨some 30, .bin false .geq (.t 29) (.c (.int .i64 1000)), some (27, false), [29]⟩, ⟨some 31, .pick (.t 27) (.c (.bool true)) (.t 30), none, [27, 30]⟩, ⟨some 23, .mov (.t 31), none, [31]⟩])
              (.cond (.t 23)
                (.drop [2, 3, 23]
                 (.seq
                  (.region false [] [⟨some 4, .mov (.c (.int .i64 2)), none, []⟩])
                 .ret))
                (.drop [23]
                 .skip)))))))))))))
   (.seq
    (.seq
     (.draws (.tak 0 ⟨some 32, .fad 2 (.t 3), none, []⟩ (.tak 1 ⟨some 33, .ld false 1 (.t 32), none, []⟩ (.tak 2 ⟨some 34, .fad 1 (.t 3), none, []⟩ (.tak 3 ⟨some 35, .ld false 1 (.t 34), none, []⟩ (.tak 4 ⟨some 36, .fad 2 (.t 2), none, []⟩ (.tak 5 ⟨some 37, .iaa 16 1 (.t 36) (.t 35), none, []⟩ (.tak 6 ⟨some 38, .ld false 1 (.t 37), none, []⟩ (.tak 7 ⟨some 39, .cvt .i64 (.t 38), none, []⟩ (.tak 8 ⟨some 40, .bin false .sub (.t 33) (.t 39), none, []⟩ (.tak 9 ⟨some 5, .mov (.t 40), none, []⟩ .done)))))))))) [[], [0], [], [2], [], [4, 3], [5], [6], [1, 7], [8, 0, 1, 2, 3, 4, 5, 6, 7, 8]] [⟨some 32, .fad 2 (.t 3), none, []⟩, ⟨some 33, .ld false 1 (.t 32), none, []⟩, ⟨some 34, .fad 1 (.t 3), none, []⟩, ⟨some 35, .ld false 1 (.t 34), none, []⟩, ⟨some 36, .fad 2 (.t 2), none, []⟩, ⟨some 37, .iaa 16 1 (.t 36) (.t 35), none, []⟩, ⟨some 38, .ld false 1 (.t 37), none, []⟩, ⟨some 39, .cvt .i64 (.t 38), none, []⟩, ⟨some 40, .bin false .sub (.t 33) (.t 39), none, []⟩, ⟨some 5, .mov (.t 40), none, []⟩])
    (.drop [2, 3, 32, 33, 34, 35, 36, 37, 38, 39, 40]
     (.block 1
      (.seq
       (.region false [] [⟨some 42, .mov (.t 5), none, []⟩, ⟨some 43, .bin false .lss (.t 42) (.c (.int .i64 0)), none, [42]⟩, ⟨some 41, .mov (.t 43), none, [43]⟩])
      (.cond (.t 41)
        (.drop [5, 41]
         (.seq
          (.region false [] [⟨some 4, .mov (.c (.int .i64 6)), none, []⟩])
         .ret))
        (.drop [41]
         (.seq
          (.region false [] [⟨some 45, .mov (.t 5), none, [5]⟩, ⟨some 46, .bin false .geq (.t 45) (.c (.int .i64 8)), none, [45]⟩, ⟨some 44, .mov (.t 46), none, [46]⟩])
         (.cond (.t 44)
           (.drop [44]
            (.seq
             (.region false [] [⟨some 4, .mov (.c (.int .i64 7)), none, []⟩])
            .ret))
           (.drop [44]
            .skip)))))))))
   (.seq
    (.region false [] [⟨some 4, .mov (.c (.int .i64 0)), none, []⟩])
   .ret))))))
def rs_23 : List ARes := [.tmp 4]
theorem g_23 : Good Try.prog 23 ac_23 rs_23 := ⟨Try.f23, Try.f23.body.getD .skip, by kernel_rfl, by kernel_rfl, by kernel_rfl, ⟨by kernel_rfl, by kernel_rfl⟩, by kernel_rfl, by kernel_rfl⟩
theorem ok_23 {Γ : Env} (hΓ : EnvOk Try.prog Γ) (sp : Spec) (h : WB Γ ac_23 rs_23 sp) : CallOk Try.prog 23 sp := g_23.ok hΓ mix_ok sp h

/-- slices.BinarySearchFunc[[]chantry/table.Open,chantry/table.Open,chantry/table.Open] -/
def ac_24 : ACode :=
 (.seq
  (.region false [] [⟨some 4, .box (.t 1), none, [1]⟩, ⟨some 6, .mov (.c (.int .i64 0)), none, []⟩, ⟨some 7, .mov (.c (.bool false)), none, [6]⟩])
 (.seal_ 4
  (.seq
   (.region false [] [⟨some 12, .mov (.t 0), none, []⟩, ⟨some 13, .len false (.t 12), none, [12]⟩, ⟨some 8, .mov (.t 13), none, [13]⟩])
  (.seq
   (.region false [] [⟨some 14, .mov (.t 8), none, []⟩, ⟨some 9, .mov (.c (.int .i64 0)), none, []⟩, ⟨some 10, .mov (.t 14), none, [14]⟩])
  (.seq
   (.block 0
    (.loop [0, 2, 4, 8, 9, 10]
     (.seq
      (.seq
       (.region false [] [⟨some 15, .mov (.t 9), none, []⟩, ⟨some 16, .mov (.t 10), none, []⟩, ⟨some 17, .bin false .lss (.t 15) (.t 16), none, [15, 16]⟩])
      (.cond (.t 17)
        (.drop [17]
         .skip)
        (.drop [10, 17]
         (.exit 0))))
     (.block 1
      (.seq
       (.region false [] [⟨some 18, .mov (.t 9), none, []⟩, ⟨some 19, .mov (.t 10), none, []⟩, ⟨some 20, .bin false .add (.t 18) (.t 19), none, [18, 19]⟩, ⟨some 21, .cvt .u64 (.t 20), none, [20]⟩, ⟨some 22, .bin false .shr (.t 21) (.c (.int .u64 1)), none, [21]⟩, ⟨some 23, .cvt .i64 (.t 22), none, [22]⟩, ⟨some 11, .mov (.t 23), none, [23]⟩])
      (.seq
       (.draws (.tak 0 ⟨some 24, .mov (.t 2), none, []⟩ (.tak 1 ⟨some 25, .mov (.t 0), none, []⟩ (.tak 2 ⟨some 26, .mov (.t 11), none, []⟩ (.tak 3 ⟨some 27, .iax 7 (.t 25) (.t 26), none, []⟩ (.tak 4 ⟨some 28, .ld true 7 (.t 27), none, []⟩ (.tak 5 ⟨some 29, .ld true 7 (.t 4), none, []⟩ (.alt 6 ⟨some 30, .calv (.t 24) [.t 28, .t 29], none, []⟩ (.tak 7 ⟨some 31, .bin false .lss (.t 30) (.c (.int .i64 0)), none, []⟩ .done) .stop))))))) [[], [], [], [1, 2], [3], [], [0, 4, 5], [6]] [⟨some 24, .mov (.t 2), none, []⟩, ⟨some 25, .mov (.t 0), none, []⟩, ⟨some 26, .mov (.t 11), none, []⟩, ⟨some 27, .iax 7 (.t 25) (.t 26), none, []⟩, ⟨some 28, .ld true 7 (.t 27), none, []⟩, ⟨some 29, .ld true 7 (.t 4), none, []⟩, ⟨some 30, .calv (.t 24) [.t 28, .t 29], none, []⟩, ⟨some 31, .bin false .lss (.t 30) (.c (.int .i64 0)), none, []⟩])
      (.drop [24, 25, 26, 27, 28, 29, 30]
       (.cond (.t 31)
         (.drop [9, 31]
          (.region false [] [⟨some 32, .mov (.t 11), none, [11]⟩, ⟨some 33, .bin false .add (.t 32) (.c (.int .i64 1)), none, [32]⟩, ⟨some 9, .mov (.t 33), none, [33]⟩]))
         (.drop [10, 31]
          (.region false [] [⟨some 34, .mov (.t 11), none, [11]⟩, ⟨some 10, .mov (.t 34), none, [34]⟩]))))))))))
  (.seq
   (.draws (.tak 0 ⟨some 35, .mov (.t 9), none, []⟩ (.tak 1 ⟨some 36, .mov (.t 9), none, []⟩ (.tak 2 ⟨some 37, .mov (.t 8), none, []⟩ (.tak 3 ⟨some 38, .bin false .lss (.t 36) (.t 37), none, []⟩ (.tak 4 ⟨some 39, .mov (.t 38), none, []⟩ (.tak 5 ⟨some 40, .mov (.t 2), some (39, true), []⟩ (.tak 6 ⟨some 41, .mov (.t 0), some (39, true), []⟩ (.tak 7 ⟨some 42, .mov (.t 9), some (39, true), []⟩ (.tak 8 ⟨some 43, .iax 7 (.t 41) (.t 42), some (39, true), []⟩ (.tak 9 ⟨some 44, .ld true 7 (.t 43), some (39, true), []⟩ (.tak 10 ⟨some 45, .ld true 7 (.t 4), some (39, true), []⟩ (.alt 11 ⟨some 46, .calv (.t 40) [.t 44, .t 45], some (39, true), []⟩ (.tak 12 ⟨some 47, .bin false .eql (.t 46) (.c (.int .i64 0)), some (39, true), []⟩ (.tak 13 ⟨some 48, .pick (.t 39) (.t 47) (.c (.bool false)), none, []⟩ (.tak 14 ⟨some 6, .mov (.t 35), none, []⟩ (.tak 15 ⟨some 7, .mov (.t 48), none, []⟩ .done)))) .stop)))))))))))) [[], [], [], [1, 2], [3], [4], [4], [4], [6, 7, 4], [8, 4], [4], [5, 9, 10, 4, 4], [11, 4], [4, 12], [0, 11, 0], [13, 14, 0, 1, 2, 3, 4, 5, 6, 7, 8, 9, 10, 11, 12, 13, 14]] [⟨some 35, .mov (.t 9), none, []⟩, ⟨some 36, .mov (.t 9), none, []⟩, ⟨some 37, .mov (.t 8), none, []⟩, ⟨some 38, .bin false .lss (.t 36) (.t 37), none, []⟩, ⟨some 39, .mov (.t 38), none, []⟩, ⟨some 40, .mov (.t 2), some (39, true), []⟩, ⟨some 41, .mov (.t 0), some (39, true), []⟩, ⟨some 42, .mov (.t 9), some (39, true), []⟩, ⟨some 43, .iax 7 (.t 41) (.t 42), some (39, true), []⟩, ⟨some 44, .ld true 7 (.t 43), some (39, true), []⟩, ⟨some 45, .ld true 7 (.t 4), some (39, true), []⟩, ⟨some 46, .calv (.t 40) [.t 44, .t 45], some (39, true), []⟩, ⟨some 47, .bin false .eql (.t 46) (.c (.int .i64 0)), some (39, true), []⟩, ⟨some 48, .pick (.t 39) (.t 47) (.c (.bool false)), none, []⟩, ⟨some 6, .mov (.t 35), none, []⟩, ⟨some 7, .mov (.t 48), none, []⟩])
  (.drop [0, 2, 4, 8, 9, 35, 36, 37, 38, 39, 40, 41, 42, 43, 44, 45, 46, 47, 48]
   .ret)))))))
def rs_24 : List ARes := [.tmp 6, .tmp 7]
theorem g_24 : Good Try.prog 24 ac_24 rs_24 := ⟨Try.f24, Try.f24.body.getD .skip, by kernel_rfl, by kernel_rfl, by kernel_rfl, ⟨by kernel_rfl, by kernel_rfl⟩, by kernel_rfl, by kernel_rfl⟩
theorem ok_24 {Γ : Env} (hΓ : EnvOk Try.prog Γ) (sp : Spec) (h : WB Γ ac_24 rs_24 sp) : CallOk Try.prog 24 sp := g_24.ok hΓ mix_ok sp h

/-- chantry/table.order -/
def ac_25 : ACode :=
 (.seq
  (.region false [] [⟨some 2, .box (.t 0), none, [0]⟩, ⟨some 3, .box (.t 1), none, [1]⟩, ⟨some 4, .mov (.c (.int .i64 0)), none, []⟩])
 (.seal_ 3
  (.seal_ 2
   (.seq
    (.draws (.tak 0 ⟨some 5, .fad 0 (.t 2), none, []⟩ (.tak 1 ⟨some 6, .ld false 1 (.t 5), none, []⟩ (.tak 2 ⟨some 7, .fad 0 (.t 3), none, []⟩ (.tak 3 ⟨some 8, .ld false 1 (.t 7), none, []⟩ (.tak 5 ⟨some 10, .fad 1 (.t 2), none, []⟩ (.tak 6 ⟨some 11, .ld false 1 (.t 10), none, []⟩ (.tak 7 ⟨some 12, .fad 1 (.t 3), none, []⟩ (.tak 8 ⟨some 13, .ld false 1 (.t 12), none, []⟩ (.alt 4 ⟨some 9, .call 50 [.t 6, .t 8], none, []⟩ (.alt 9 ⟨some 14, .call 51 [.t 11, .t 13], none, []⟩ (.alt 10 ⟨some 15, .bsl 3 1 [.t 9, .t 14], none, []⟩ (.alt 11 ⟨some 16, .call 49 [.t 15], none, []⟩ (.tak 12 ⟨some 4, .mov (.t 16), none, []⟩ .done) .stop) .stop) .stop) .stop))))))))) [[], [0], [], [2], [1, 3], [], [5], [], [7], [6, 8, 4], [4, 9], [10, 9], [11, 11, 0, 1, 2, 3, 4, 5, 6, 7, 8, 9, 10, 11]] [⟨some 5, .fad 0 (.t 2), none, []⟩, ⟨some 6, .ld false 1 (.t 5), none, []⟩, ⟨some 7, .fad 0 (.t 3), none, []⟩, ⟨some 8, .ld false 1 (.t 7), none, []⟩, ⟨some 9, .call 50 [.t 6, .t 8], none, []⟩, ⟨some 10, .fad 1 (.t 2), none, []⟩, ⟨some 11, .ld false 1 (.t 10), none, []⟩, ⟨some 12, .fad 1 (.t 3), none, []⟩, ⟨some 13, .ld false 1 (.t 12), none, []⟩, ⟨some 14, .call 51 [.t 11, .t 13], none, []⟩, ⟨some 15, .bsl 3 1 [.t 9, .t 14], none, []⟩, ⟨some 16, .call 49 [.t 15], none, []⟩, ⟨some 4, .mov (.t 16), none, []⟩])
   (.drop [2, 3, 5, 6, 7, 8, 9, 10, 11, 12, 13, 14, 15, 16]
    .ret)))))
def rs_25 : List ARes := [.tmp 4]
theorem g_25 : Good Try.prog 25 ac_25 rs_25 := ⟨Try.f25, Try.f25.body.getD .skip, by kernel_rfl, by kernel_rfl, by kernel_rfl, ⟨by kernel_rfl, by kernel_rfl⟩, by kernel_rfl, by kernel_rfl⟩
theorem ok_25 {Γ : Env} (hΓ : EnvOk Try.prog Γ) (sp : Spec) (h : WB Γ ac_25 rs_25 sp) : CallOk Try.prog 25 sp := g_25.ok hΓ mix_ok sp h

/-- slices.Insert[[]chantry/table.Open,chantry/table.Open] -/
def ac_26 : ACode :=
 (.seq
  (.region false [] [⟨some 6, .mov (.c (.slice none 0 0)), none, []⟩])
 (.open_ 0
  (.seq
   (.region false [] [⟨some 10, .mov (.t 0), none, []⟩, ⟨some 11, .mov (.t 1), none, []⟩, ⟨some 12, .slc false 7 (.t 10) (some (.t 11)) none, none, [10, 11]⟩])
  (.seq
   (.region false [] [⟨some 13, .mov (.t 2), none, []⟩, ⟨some 14, .len false (.t 13), none, [13]⟩, ⟨some 7, .mov (.t 14), none, [14]⟩])
  (.seq
   (.seq
    (.region false [] [⟨some 15, .mov (.t 7), none, []⟩, ⟨some 16, .bin false .eql (.t 15) (.c (.int .i64 0)), none, [15]⟩])
   (.cond (.t 16)
     (.drop [1, 2, 7, 16]
      (.seq
       (.region false [] [⟨some 17, .mov (.t 0), none, [0]⟩, ⟨some 6, .mov (.t 17), none, [17]⟩])
      .ret))
     (.drop [16]
      .skip)))
  (.seq
   (.region false [] [⟨some 18, .mov (.t 0), none, []⟩, ⟨some 19, .len false (.t 18), none, [18]⟩, ⟨some 8, .mov (.t 19), none, [19]⟩])
  (.seq
   (.seq
    (.region false [] [⟨some 20, .mov (.t 1), none, []⟩, ⟨some 21, .mov (.t 8), none, []⟩, ⟨some 22, .bin false .eql (.t 20) (.t 21), none, [20, 21]⟩])
   (.cond (.t 22)
     (.drop [1, 7, 8, 22]
      (.close_ 0
       (.seq
        (.region false [] [⟨some 23, .mov (.t 0), none, [0]⟩, ⟨some 24, .mov (.t 2), none, [2]⟩, ⟨some 25, .app 60 7 72 (.t 23) (.t 24), none, [23, 24]⟩, ⟨some 6, .mov (.t 25), none, [25]⟩])
       .ret)))
     (.drop [22]
      .skip)))
  (.seq
   (.seq
    (.region false [] [⟨some 26, .mov (.t 8), none, []⟩, ⟨some 27, .mov (.t 7), none, []⟩, ⟨some 28, .bin false .add (.t 26) (.t 27), none, [26, 27]⟩, ⟨some 29, .mov (.t 0), none, []⟩, ⟨some 30, .cap (.t 29), none, [29]⟩, ⟨some 31, .bin false .gtr (.t 28) (.t 30), none, [28, 30]⟩])
   (.cond (.t 31)
     (.drop [31]
      (.seq
       (.region false [] [⟨some 32, .mov (.t 0), none, []⟩, ⟨some 33, .mov (.t 1), none, []⟩, ⟨some 34, .slc false 7 (.t 32) none (some (.t 33)), none, [32, 33]⟩, ⟨some 35, .mov (.t 8), none, [8]⟩, ⟨some 36, .mov (.t 7), none, []⟩, ⟨some 37, .bin false .add (.t 35) (.t 36), none, [35, 36]⟩, ⟨some 38, .mov (.t 1), none, []⟩, ⟨some 39, .bin false .sub (.t 37) (.t 38), none, [37, 38]⟩, ⟨some 40, .ap0 60 7 72 [.int .u8 0, .int .i64 0, .bool false, .bool false, .bool false, .slice none 0 0, .slice none 0 0] (.t 34) (.t 39), none, [34, 39]⟩, ⟨some 9, .mov (.t 40), none, [40]⟩])
      (.open_ 9
       (.seq
        (.region false [] [⟨some 41, .mov (.t 9), none, []⟩, ⟨some 42, .mov (.t 1), none, []⟩, ⟨some 43, .slc false 7 (.t 41) (some (.t 42)) none, none, [41, 42]⟩, ⟨some 44, .mov (.t 2), none, [2]⟩, ⟨some 45, .cpy 7 (.t 43) (.t 44), none, [43, 44]⟩])
       (.seq
        (.draws (.tak 0 ⟨some 46, .mov (.t 9), none, []⟩ (.tak 1 ⟨some 47, .mov (.t 1), none, []⟩ (.tak 2 ⟨some 48, .mov (.t 7), none, []⟩ (.tak 3 ⟨some 49, .bin false .add (.t 47) (.t 48), none, []⟩ (.tak 5 ⟨some 51, .mov (.t 0), none, []⟩ (.tak 6 ⟨some 52, .mov (.t 1), none, []⟩ (.alt 4 ⟨some 50, .slc false 7 (.t 46) (some (.t 49)) none, none, []⟩ (.alt 7 ⟨some 53, .slc false 7 (.t 51) (some (.t 52)) none, none, []⟩ (.alt 8 ⟨some 54, .cpy 7 (.t 50) (.t 53), none, []⟩ .done .stop) .stop) (.alt 7 ⟨some 53, .slc false 7 (.t 51) (some (.t 52)) none, none, []⟩ (.alt 4 ⟨some 50, .slc false 7 (.t 46) (some (.t 49)) none, none, []⟩ (.alt 8 ⟨some 54, .cpy 7 (.t 50) (.t 53), none, []⟩ .done .stop) .stop) .stop)))))))) [[], [], [], [1, 2], [0, 3], [], [], [5, 6], [4, 7]] [⟨some 46, .mov (.t 9), none, []⟩, ⟨some 47, .mov (.t 1), none, []⟩, ⟨some 48, .mov (.t 7), none, []⟩, ⟨some 49, .bin false .add (.t 47) (.t 48), none, []⟩, ⟨some 50, .slc false 7 (.t 46) (some (.t 49)) none, none, []⟩, ⟨some 51, .mov (.t 0), none, []⟩, ⟨some 52, .mov (.t 1), none, []⟩, ⟨some 53, .slc false 7 (.t 51) (some (.t 52)) none, none, []⟩, ⟨some 54, .cpy 7 (.t 50) (.t 53), none, []⟩])
       (.close_ 0
        (.drop [0, 1, 7, 46, 47, 48, 49, 50, 51, 52, 53, 54]
         (.seq
          (.region false [] [⟨some 55, .mov (.t 9), none, [9]⟩, ⟨some 6, .mov (.t 55), none, [55]⟩])
         (.close_ 6
          .ret)))))))))
     (.drop [31]
      .skip)))
  (.seq
   (.region false [] [⟨some 56, .mov (.t 0), none, [0]⟩, ⟨some 57, .mov (.t 8), none, []⟩, ⟨some 58, .mov (.t 7), none, []⟩, ⟨some 59, .bin false .add (.t 57) (.t 58), none, [57, 58]⟩, ⟨some 60, .slc false 7 (.t 56) none (some (.t 59)), none, [56, 59]⟩, ⟨some 0, .mov (.t 60), none, [60]⟩])
  (.seq
   (.seq
    (.region false [] [⟨some 61, .mov (.t 2), none, []⟩, ⟨some 62, .mov (.t 0), none, []⟩, ⟨some 63, .mov (.t 1), none, []⟩, ⟨some 64, .mov (.t 7), none, []⟩, ⟨some 65, .bin false .add (.t 63) (.t 64), none, [63, 64]⟩, ⟨some 66, .slc false 7 (.t 62) (some (.t 65)) none, none, [62, 65]⟩, ⟨some 67, .call 52 [.t 61, .t 66], none, [61, 66]⟩, ⟨some 68, .un .not (.t 67), none, [67]⟩])
   (.cond (.t 68)
     (.drop [8, 68]
      (.seq
       (.draws (.tak 0 ⟨some 69, .mov (.t 0), none, []⟩ (.tak 1 ⟨some 70, .mov (.t 1), none, []⟩ (.tak 2 ⟨some 71, .mov (.t 7), none, []⟩ (.tak 3 ⟨some 72, .bin false .add (.t 70) (.t 71), none, []⟩ (.tak 5 ⟨some 74, .mov (.t 0), none, []⟩ (.tak 6 ⟨some 75, .mov (.t 1), none, []⟩ (.alt 4 ⟨some 73, .slc false 7 (.t 69) (some (.t 72)) none, none, []⟩ (.alt 7 ⟨some 76, .slc false 7 (.t 74) (some (.t 75)) none, none, []⟩ (.alt 8 ⟨some 77, .cpy 7 (.t 73) (.t 76), none, []⟩ .done .stop) .stop) (.alt 7 ⟨some 76, .slc false 7 (.t 74) (some (.t 75)) none, none, []⟩ (.alt 4 ⟨some 73, .slc false 7 (.t 69) (some (.t 72)) none, none, []⟩ (.alt 8 ⟨some 77, .cpy 7 (.t 73) (.t 76), none, []⟩ .done .stop) .stop) .stop)))))))) [[], [], [], [1, 2], [0, 3], [], [], [5, 6], [4, 7]] [⟨some 69, .mov (.t 0), none, []⟩, ⟨some 70, .mov (.t 1), none, []⟩, ⟨some 71, .mov (.t 7), none, []⟩, ⟨some 72, .bin false .add (.t 70) (.t 71), none, []⟩, ⟨some 73, .slc false 7 (.t 69) (some (.t 72)) none, none, []⟩, ⟨some 74, .mov (.t 0), none, []⟩, ⟨some 75, .mov (.t 1), none, []⟩, ⟨some 76, .slc false 7 (.t 74) (some (.t 75)) none, none, []⟩, ⟨some 77, .cpy 7 (.t 73) (.t 76), none, []⟩])
      (.drop [7, 69, 70, 71, 72, 73, 74, 75, 76, 77]
       (.seq
        (.region false [] [⟨some 78, .mov (.t 0), none, []⟩, ⟨some 79, .mov (.t 1), none, [1]⟩, ⟨some 80, .slc false 7 (.t 78) (some (.t 79)) none, none, [78, 79]⟩, ⟨some 81, .mov (.t 2), none, [2]⟩, ⟨some 82, .cpy 7 (.t 80) (.t 81), none, [80, 81]⟩])
       (.seq
        (.region false [] [⟨some 83, .mov (.t 0), none, [0]⟩, ⟨some 6, .mov (.t 83), none, [83]⟩])
       (.close_ 6
        .ret))))))
     (.drop [68]
      .skip)))
  (.seq
   (.region false [] [⟨some 84, .mov (.t 0), none, []⟩, ⟨some 85, .mov (.t 8), none, [8]⟩, ⟨some 86, .slc false 7 (.t 84) (some (.t 85)) none, none, [84, 85]⟩, ⟨some 87, .mov (.t 2), none, [2]⟩, ⟨some 88, .cpy 7 (.t 86) (.t 87), none, [86, 87]⟩])
  (.seq
   (.region false [] [⟨some 89, .mov (.t 0), none, []⟩, ⟨some 90, .mov (.t 1), none, [1]⟩, ⟨some 91, .slc false 7 (.t 89) (some (.t 90)) none, none, [89, 90]⟩, ⟨some 92, .mov (.t 7), none, [7]⟩, ⟨some 93, .call 53 [.t 91, .t 92], none, [91, 92]⟩])
  (.seq
   (.region false [] [⟨some 94, .mov (.t 0), none, [0]⟩, ⟨some 6, .mov (.t 94), none, [94]⟩])
  .ret)))))))))))))
def rs_26 : List ARes := [.tmp 6]
theorem g_26 : Good Try.prog 26 ac_26 rs_26 := ⟨Try.f26, Try.f26.body.getD .skip, by kernel_rfl, by kernel_rfl, by kernel_rfl, ⟨by kernel_rfl, by kernel_rfl⟩, by kernel_rfl, by kernel_rfl⟩
theorem ok_26 {Γ : Env} (hΓ : EnvOk Try.prog Γ) (sp : Spec) (h : WB Γ ac_26 rs_26 sp) : CallOk Try.prog 26 sp := g_26.ok hΓ mix_ok sp h

/-- (*chantry/table.Table).settle -/
def ac_27 : ACode :=
 (.block 0
  (.loop [0, 1]
   (.block 1
    (.seq
     (.draws (.tak 0 ⟨some 7, .mov (.t 0), none, []⟩ (.tak 1 ⟨some 8, .chk (.t 7), none, []⟩ (.tak 2 ⟨some 9, .fad 18 (.t 8), none, []⟩ (.tak 4 ⟨some 11, .mov (.t 1), none, []⟩ (.tak 5 ⟨some 12, .mov (.t 0), none, []⟩ (.tak 6 ⟨some 13, .mov (.t 1), none, []⟩ (.tak 7 ⟨some 14, .chk (.t 12), none, []⟩ (.tak 8 ⟨some 15, .fad 2 (.t 14), none, []⟩ (.tak 9 ⟨some 16, .iaa 16 1 (.t 15) (.t 13), none, []⟩ (.alt 3 ⟨some 10, .ld false 1 (.t 9), none, []⟩ (.alt 10 ⟨some 17, .ld false 1 (.t 16), none, []⟩ (.tak 11 ⟨some 18, .cvt .i64 (.t 17), none, []⟩ (.tak 12 ⟨some 19, .bld [.int .u8 0, .int .i64 0, .bool false, .bool false, .bool false, .slice none 0 0, .slice none 0 0] [(0, 1, .t 11), (1, 1, .t 18)], none, []⟩ (.alt 13 ⟨some 20, .call 24 [.t 10, .t 19, .c (.func (.func 25) #[] #[])], none, []⟩ (.tak 14 ⟨some 6, .mov (.t 20), none, []⟩ (.tak 15 ⟨some 21, .ext 0 (.t 6), none, []⟩ (.tak 16 ⟨some 22, .ext 1 (.t 6), none, []⟩ (.tak 17 ⟨some 4, .mov (.t 21), none, []⟩ (.tak 18 ⟨some 5, .mov (.t 22), none, []⟩ .done))))) .stop))) .stop) (.alt 10 ⟨some 17, .ld false 1 (.t 16), none, []⟩ (.tak 11 ⟨some 18, .cvt .i64 (.t 17), none, []⟩ (.tak 12 ⟨some 19, .bld [.int .u8 0, .int .i64 0, .bool false, .bool false, .bool false, .slice none 0 0, .slice none 0 0] [(0, 1, .t 11), (1, 1, .t 18)], none, []⟩ (.alt 3 ⟨some 10, .ld false 1 (.t 9), none, []⟩ (.alt 13 ⟨some 20, .call 24 [.t 10, .t 19, .c (.func (.func 25) #[] #[])], none, []⟩ (.tak 14 ⟨some 6, .mov (.t 20), none, []⟩ (.tak 15 ⟨some 21, .ext 0 (.t 6), none, []⟩ (.tak 16 ⟨some 22, .ext 1 (.t 6), none, []⟩ (.tak 17 ⟨some 4, .mov (.t 21), none, []⟩ (.tak 18 ⟨some 5, .mov (.t 22), none, []⟩ .done))))) .stop) .stop))) .stop))))))))))) [[], [0], [1], [2], [], [], [], [5], [7], [8, 6], [9], [10], [4, 11], [3, 12], [13], [14], [14], [15, 13, 0, 1, 2, 3, 4, 5, 6, 7, 8, 9, 10, 11, 12, 13, 14, 15], [16, 17, 0, 1, 2, 3, 4, 5, 6, 7, 8, 9, 10, 11, 12, 13, 14, 15, 16, 17]] [⟨some 7, .mov (.t 0), none, []⟩, ⟨some 8, .chk (.t 7), none, []⟩, ⟨some 9, .fad 18 (.t 8), none, []⟩, ⟨some 10, .ld false 1 (.t 9), none, []⟩, ⟨some 11, .mov (.t 1), none, []⟩, ⟨some 12, .mov (.t 0), none, []⟩, ⟨some 13, .mov (.t 1), none, []⟩, ⟨some 14, .chk (.t 12), none, []⟩, ⟨some 15, .fad 2 (.t 14), none, []⟩, ⟨some 16, .iaa 16 1 (.t 15) (.t 13), none, []⟩, ⟨some 17, .ld false 1 (.t 16), none, []⟩, ⟨some 18, .cvt .i64 (.t 17), none, []⟩, ⟨some 19, .bld [.int .u8 0, .int .i64 0, .bool false, .bool false, .bool false, .slice none 0 0, .slice none 0 0] [(0, 1, .t 11), (1, 1, .t 18)], none, []⟩, ⟨some 20, .call 24 [.t 10, .t 19, .c (.func (.func 25) #[] #[])], none, []⟩, ⟨some 6, .mov (.t 20), none, []⟩, ⟨some 21, .ext 0 (.t 6), none, []⟩, ⟨some 22, .ext 1 (.t 6), none, []⟩, ⟨some 4, .mov (.t 21), none, []⟩, ⟨some 5, .mov (.t 22), none, []⟩])
    (.drop [6, 7, 8, 9, 10, 11, 12, 13, 14, 15, 16, 17, 18, 19, 20, 21, 22]
     (.pack [0, 1, 4, 5]
      (.seq
       (.seq
        (.region false [] [⟨some 23, .mov (.t 5), none, [5]⟩, ⟨some 24, .un .not (.t 23), none, [23]⟩, ⟨some 25, .mov (.t 24), none, [24]⟩, ⟨some 26, .mov (.t 0), some (25, false), []⟩, ⟨some 27, .chk (.t 26), some (25, false), [26]⟩, ⟨some 28, .fad 18 (.t 27), some (25, false), [27]⟩, ⟨some 29, .ld false 1 (.t 28), some (25, false), [28]⟩, ⟨some 30, .mov (.t 4), some (25, false), []⟩, ⟨some 31, .iax 7 (.t 29) (.t 30), some (25, false), [29, 30]⟩, ⟨some 32, .fad 2 (.t 31), some (25, false), [31]⟩, ⟨some 33, .fad 2 (.t 32), some (25, false), [32]⟩, ⟨some 34, .ld false 1 (.t 33), some (25, false), [33]⟩, ⟨some 35, .un .not (.t 34), some (25, false), [34]⟩, ⟨some 36, .pick (.t 25) (.c (.bool true)) (.t 35), none, [25, 35]⟩])
       (.cond (.t 36)
         (.drop [0, 1, 4, 36]
          .ret)
         (.drop [36]
          .skip)))
      (.seq
       (.region false [] [⟨some 37, .mov (.t 0), none, []⟩, ⟨some 38, .mov (.t 0), none, []⟩, ⟨some 39, .chk (.t 38), none, [38]⟩, ⟨some 40, .fad 18 (.t 39), none, [39]⟩, ⟨some 41, .ld false 1 (.t 40), none, [40]⟩, ⟨some 42, .mov (.t 4), none, []⟩, ⟨some 43, .mov (.t 4), none, [4]⟩, ⟨some 44, .bin false .add (.t 43) (.c (.int .i64 1)), none, [43]⟩, ⟨some 45, .call 54 [.t 41, .t 42, .t 44], none, [41, 42, 44]⟩, ⟨some 46, .chk (.t 37), none, [37]⟩, ⟨some 47, .fad 18 (.t 46), none, [46]⟩, ⟨none, .st 1 (.t 47) (.t 45), none, [45, 47]⟩])
      (.draws (.tak 0 ⟨some 48, .mov (.t 0), none, []⟩ (.tak 1 ⟨some 49, .mov (.t 1), none, []⟩ (.tak 2 ⟨some 50, .chk (.t 48), none, []⟩ (.tak 3 ⟨some 51, .fad 2 (.t 50), none, []⟩ (.tak 4 ⟨some 52, .iaa 16 1 (.t 51) (.t 49), none, []⟩ (.tak 7 ⟨some 55, .chk (.t 48), none, []⟩ (.tak 8 ⟨some 56, .fad 2 (.t 55), none, []⟩ (.alt 5 ⟨some 53, .ld false 1 (.t 52), none, []⟩ (.tak 6 ⟨some 54, .bin false .add (.t 53) (.c (.int .u16 1)), none, []⟩ (.tak 9 ⟨some 57, .iaa 16 1 (.t 56) (.t 49), none, []⟩ (.alt 10 ⟨none, .st 1 (.t 57) (.t 54), none, []⟩ .done .stop))) .stop)))))))) [[], [], [0], [2], [3, 1], [4], [5], [0], [7], [8, 1, 0, 1, 2, 3, 4, 5, 6], [9, 6, 0, 1, 2, 3, 4, 5, 6]] [⟨some 48, .mov (.t 0), none, []⟩, ⟨some 49, .mov (.t 1), none, []⟩, ⟨some 50, .chk (.t 48), none, []⟩, ⟨some 51, .fad 2 (.t 50), none, []⟩, ⟨some 52, .iaa 16 1 (.t 51) (.t 49), none, []⟩, ⟨some 53, .ld false 1 (.t 52), none, []⟩, ⟨some 54, .bin false .add (.t 53) (.c (.int .u16 1)), none, []⟩, ⟨some 55, .chk (.t 48), none, []⟩, ⟨some 56, .fad 2 (.t 55), none, []⟩, ⟨some 57, .iaa 16 1 (.t 56) (.t 49), none, []⟩, ⟨none, .st 1 (.t 57) (.t 54), none, []⟩])))))))))
def rs_27 : List ARes := []
theorem g_27 : Good Try.prog 27 ac_27 rs_27 := ⟨Try.f27, Try.f27.body.getD .skip, by kernel_rfl, by kernel_rfl, by kernel_rfl, ⟨by kernel_rfl, by kernel_rfl⟩, by kernel_rfl, by kernel_rfl⟩
theorem ok_27 {Γ : Env} (hΓ : EnvOk Try.prog Γ) (sp : Spec) (h : WB Γ ac_27 rs_27 sp) : CallOk Try.prog 27 sp := g_27.ok hΓ mix_ok sp h

/-- chantry/chantryref08.may -/
def ac_29 : ACode :=
 (.seq
  (.region false [] [⟨some 2, .box (.t 0), none, [0]⟩, ⟨some 3, .box (.t 1), none, [1]⟩, ⟨some 4, .mov (.c (.int .i64 0)), none, []⟩])
 (.seal_ 3
  (.seal_ 2
   (.seq
    (.block 0
     (.seq
      (.region false [] [⟨some 6, .ld true 19 (.t 2), none, []⟩, ⟨some 7, .call 16 [.t 6], none, [6]⟩, ⟨some 8, .un .not (.t 7), none, [7]⟩, ⟨some 5, .mov (.t 8), none, [8]⟩])
     (.cond (.t 5)
       (.drop [2, 3, 5]
        (.seq
         (.region false [] [⟨some 4, .mov (.c (.int .i64 2)), none, []⟩])
        .ret))
       (.drop [5]
        (.seq
         (.region false [] [⟨some 10, .fad 0 (.t 3), none, []⟩, ⟨some 11, .ld false 1 (.t 10), none, [10]⟩, ⟨some 12, .fad 0 (.t 2), none, []⟩, ⟨some 13, .ld false 1 (.t 12), none, [12]⟩, ⟨some 14, .bin false .neq (.t 11) (.t 13), none, [11, 13]⟩, ⟨some 9, .mov (.t 14), none, [14]⟩])
        (.cond (.t 9)
          (.drop [2, 3, 9]
           (.seq
            (.region false [] [⟨some 4, .mov (.c (.int .i64 11)), none, []⟩])
           .ret))
          (.drop [9]
           (.seq
            (.region false [] [⟨some 16, .fad 1 (.t 2), none, []⟩, ⟨some 17, .ld false 1 (.t 16), none, [16]⟩, ⟨some 18, .fad 1 (.t 3), none, []⟩, ⟨some 19, .ld false 1 (.t 18), none, [18]⟩, ⟨some 20, .call 35 [.t 17, .t 19], none, [17, 19]⟩, ⟨some 21, .un .not (.t 20), none, [20]⟩, ⟨some 15, .mov (.t 21), none, [21]⟩])
           (.cond (.t 15)
             (.drop [2, 3, 15]
              (.seq
               (.region false [] [⟨some 4, .mov (.c (.int .i64 10)), none, []⟩])
              .ret))
             (.drop [15]
              (.seq
               (.region false [] [⟨some 23, .fad 2 (.t 3), none, []⟩, ⟨some 24, .ld false 1 (.t 23), none, [23]⟩, ⟨some 25, .bin false .lss (.t 24) (.c (.int .i64 0)), none, [24]⟩, ⟨some 26, .mov (.t 25), none, [25]⟩, ⟨some 27, .fad 2 (.t 3), some (26, false), []⟩, ⟨some 28, .ld false 1 (.t 27), some (26, false), [27]⟩, ⟨some 29, .bin false .geq (.t 28) (.c (.int .i64 1000)), some (26, false), [28]⟩, ⟨some 30, .pick (.t 26) (.c (.bool true)) (.t 29), none, [26, 29]⟩, ⟨some 22, .mov (.t 30), none, [30]⟩])
              (.cond (.t 22)
                (.drop [2, 3, 22]
                 (.seq
                  (.region false [] [⟨some 4, .mov (.c (.int .i64 2)), none, []⟩])
                 .ret))
                (.drop [22]
                 (.seq
                  (.draws (.tak 0 ⟨some 32, .fad 2 (.t 3), none, []⟩ (.tak 1 ⟨some 33, .ld false 1 (.t 32), none, []⟩ (.tak 2 ⟨some 34, .fad 1 (.t 3), none, []⟩ (.tak 3 ⟨some 35, .ld false 1 (.t 34), none, []⟩ (.tak 4 ⟨some 36, .fad 2 (.t 2), none, []⟩ (.tak 5 ⟨some 37, .iaa 16 1 (.t 36) (.t 35), none, []⟩ (.tak 6 ⟨some 38, .ld false 1 (.t 37), none, []⟩ (.tak 7 ⟨some 39, .cvt .i64 (.t 38), none, []⟩ (.tak 8 ⟨some 40, .bin false .lss (.t 33) (.t 39), none, []⟩ (.tak 9 ⟨some 31, .mov (.t 40), none, []⟩ .done)))))))))) [[], [0], [], [2], [], [4, 3], [5], [6], [1, 7], [8]] [⟨some 32, .fad 2 (.t 3), none, []⟩, ⟨some 33, .ld false 1 (.t 32), none, []⟩, ⟨some 34, .fad 1 (.t 3), none, []⟩, ⟨some 35, .ld false 1 (.t 34), none, []⟩, ⟨some 36, .fad 2 (.t 2), none, []⟩, ⟨some 37, .iaa 16 1 (.t 36) (.t 35), none, []⟩, ⟨some 38, .ld false 1 (.t 37), none, []⟩, ⟨some 39, .cvt .i64 (.t 38), none, []⟩, ⟨some 40, .bin false .lss (.t 33) (.t 39), none, []⟩, ⟨some 31, .mov (.t 40), none, []⟩])
                 (.drop [32, 33, 34, 35, 36, 37, 38, 39, 40]
                  (.cond (.t 31)
                    (.drop [2, 3, 31]
                     (.seq
                      (.region false [] [⟨some 4, .mov (.c (.int .i64 6)), none, []⟩])
                     .ret))
                    (.drop [31]
                     (.seq
                      (.draws (.tak 0 ⟨some 42, .fad 2 (.t 3), none, []⟩ (.tak 1 ⟨some 43, .ld false 1 (.t 42), none, []⟩ (.tak 2 ⟨some 44, .fad 1 (.t 3), none, []⟩ (.tak 3 ⟨some 45, .ld false 1 (.t 44), none, []⟩ (.tak 4 ⟨some 46, .fad 2 (.t 2), none, []⟩ (.tak 5 ⟨some 47, .iaa 16 1 (.t 46) (.t 45), none, []⟩ (.tak 6 ⟨some 48, .ld false 1 (.t 47), none, []⟩ (.tak 7 ⟨some 49, .cvt .i64 (.t 48), none, []⟩ (.tak 8 ⟨some 50, .bin false .add (.t 49) (.c (.int .i64 8)), none, []⟩ (.tak 9 ⟨some 51, .bin false .geq (.t 43) (.t 50), none, []⟩ (.tak 10 ⟨some 41, .mov (.t 51), none, []⟩ .done))))))))))) [[], [0], [], [2], [], [4, 3], [5], [6], [7], [1, 8], [9]] [⟨some 42, .fad 2 (.t 3), none, []⟩, ⟨some 43, .ld false 1 (.t 42), none, []⟩, ⟨some 44, .fad 1 (.t 3), none, []⟩, ⟨some 45, .ld false 1 (.t 44), none, []⟩, ⟨some 46, .fad 2 (.t 2), none, []⟩, ⟨some 47, .iaa 16 1 (.t 46) (.t 45), none, []⟩, ⟨some 48, .ld false 1 (.t 47), none, []⟩, ⟨some 49, .cvt .i64 (.t 48), none, []⟩, ⟨some 50, .bin false .add (.t 49) (.c (.int .i64 8)), none, []⟩, ⟨some 51, .bin false .geq (.t 43) (.t 50), none, []⟩, ⟨some 41, .mov (.t 51), none, []⟩])
                     (.drop [2, 3, 42, 43, 44, 45, 46, 47, 48, 49, 50, 51]
                      (.cond (.t 41)
                        (.drop [41]
                         (.seq
                          (.region false [] [⟨some 4, .mov (.c (.int .i64 7)), none, []⟩])
                         .ret))
                        (.drop [41]
                         .skip)))))))))))))))))))))
   (.seq
    (.region false [] [⟨some 4, .mov (.c (.int .i64 0)), none, []⟩])
   .ret)))))
def rs_29 : List ARes := [.tmp 4]
theorem g_29 : Good Try.prog 29 ac_29 rs_29 := ⟨Try.f29, Try.f29.body.getD .skip, by kernel_rfl, by kernel_rfl, by kernel_rfl, ⟨by kernel_rfl, by kernel_rfl⟩, by kernel_rfl, by kernel_rfl⟩
theorem ok_29 {Γ : Env} (hΓ : EnvOk Try.prog Γ) (sp : Spec) (h : WB Γ ac_29 rs_29 sp) : CallOk Try.prog 29 sp := g_29.ok hΓ mix_ok sp h

/-- chantry/chantryref07.Take -/
def ac_30 : ACode :=
 (.seq
  (.region false [] [⟨some 6, .box (.t 0), none, [0]⟩, ⟨some 12, .alloc [.bool false, .bool false, .bool false, .slice none 0 0, .slice none 0 0, .slice none 0 0, .string ⟨#[]⟩, .bool false, .int .i64 0], none, []⟩])
 (.seq
  (.region false [] [⟨some 14, .mov (.t 1), none, []⟩, ⟨some 15, .call 55 [.t 14], none, [14]⟩, ⟨some 13, .mov (.t 15), none, [15]⟩])
 (.seq
  (.block 0
   (.seq
    (.region false [] [⟨some 17, .mov (.t 3), none, []⟩, ⟨some 18, .bin false .lss (.t 17) (.c (.int .i64 1)), none, [17]⟩, ⟨some 19, .mov (.t 18), none, [18]⟩, ⟨some 20, .mov (.t 3), some (19, false), []⟩, ⟨some 21, .bin false .gtr (.t 20) (.c (.int .i64 3)), some (19, false), [20]⟩, ⟨some 22, .pick (.t 19) (.c (.bool true)) (.t 21), none, [19, 21]⟩, ⟨some 23, .mov (.t 22), none, [22]⟩, ⟨some 24, .mov (.t 5), some (23, false), []⟩, ⟨some 25, .len true (.t 24), some (23, false), [24]⟩, ⟨some 26, .bin false .gtr (.t 25) (.c (.int .i64 1000)), some (23, false), [25]⟩, ⟨some 27, .pick (.t 23) (.c (.bool true)) (.t 26), none, [23, 26]⟩, ⟨some 16, .mov (.t 27), none, [27]⟩])
   (.cond (.t 16)
     (.drop [1, 2, 3, 4, 5, 13, 16]
      (.seq
       (.region false [] [⟨some 28, .ld true 5 (.t 6), none, [6]⟩, ⟨some 29, .bld [.bool false, .bool false, .bool false, .slice none 0 0, .slice none 0 0, .slice none 0 0, .string ⟨#[]⟩, .bool false, .int .i64 0] [(0, 5, .t 28), (8, 1, .c (.int .i64 2))], none, [28]⟩, ⟨none, .st 9 (.t 12) (.t 29), none, [29]⟩])
      .ret))
     (.drop [16]
      (.seq
       (.region false [] [⟨some 31, .mov (.t 1), none, []⟩, ⟨some 32, .mov (.t 4), none, []⟩, ⟨some 33, .call 35 [.t 31, .t 32], none, [31, 32]⟩, ⟨some 34, .un .not (.t 33), none, [33]⟩, ⟨some 35, .mov (.t 34), none, [34]⟩, ⟨some 36, .mov (.t 1), some (35, false), [1]⟩, ⟨some 37, .mov (.t 2), some (35, false), []⟩, ⟨some 38, .call 35 [.t 36, .t 37], some (35, false), [36, 37]⟩, ⟨some 39, .un .not (.t 38), some (35, false), [38]⟩, ⟨some 40, .pick (.t 35) (.c (.bool true)) (.t 39), none, [35, 39]⟩, ⟨some 30, .mov (.t 40), none, [40]⟩])
      (.cond (.t 30)
        (.drop [2, 3, 4, 5, 13, 30]
         (.seq
          (.region false [] [⟨some 41, .ld true 5 (.t 6), none, [6]⟩, ⟨some 42, .bld [.bool false, .bool false, .bool false, .slice none 0 0, .slice none 0 0, .slice none 0 0, .string ⟨#[]⟩, .bool false, .int .i64 0] [(0, 5, .t 41), (8, 1, .c (.int .i64 10))], none, [41]⟩, ⟨none, .st 9 (.t 12) (.t 42), none, [42]⟩])
         .ret))
        (.drop [30]
         (.seq
          (.region false [] [⟨some 44, .mov (.t 3), none, []⟩, ⟨some 45, .bin false .eql (.t 44) (.c (.int .i64 2)), none, [44]⟩, ⟨some 43, .mov (.t 45), none, [45]⟩])
         (.cond (.t 43)
           (.drop [2, 3, 43]
            (.seq
             (.region false [] [⟨some 46, .ld true 5 (.t 6), none, [6]⟩, ⟨some 47, .mov (.t 13), none, [13]⟩, ⟨some 48, .mov (.t 4), none, [4]⟩, ⟨some 49, .mov (.t 5), none, [5]⟩, ⟨some 50, .call 56 [.t 46, .t 47, .t 48, .t 49], none, [46, 47, 48, 49]⟩, ⟨none, .st 9 (.t 12) (.t 50), none, [50]⟩])
            .ret))
           (.drop [43]
            (.seq
             (.region false [] [⟨some 52, .mov (.t 3), none, [3]⟩, ⟨some 53, .bin false .eql (.t 52) (.c (.int .i64 3)), none, [52]⟩, ⟨some 51, .mov (.t 53), none, [53]⟩])
            (.cond (.t 51)
              (.drop [2, 51]
               (.seq
                (.region false [] [⟨some 54, .ld true 5 (.t 6), none, [6]⟩, ⟨some 55, .mov (.t 13), none, [13]⟩, ⟨some 56, .mov (.t 4), none, [4]⟩, ⟨some 57, .mov (.t 5), none, [5]⟩, ⟨some 58, .call 57 [.t 54, .t 55, .t 56, .t 57], none, [54, 55, 56, 57]⟩, ⟨none, .st 9 (.t 12) (.t 58), none, [58]⟩])
               .ret))
              (.drop [13, 51]
               (.seq
                (.region false [] [⟨some 60, .mov (.t 4), none, [4]⟩, ⟨some 61, .mov (.t 2), none, [2]⟩, ⟨some 62, .bin false .neq (.t 60) (.t 61), none, [60, 61]⟩, ⟨some 59, .mov (.t 62), none, [62]⟩])
               (.cond (.t 59)
                 (.drop [5, 59]
                  (.seq
                   (.region false [] [⟨some 63, .ld true 5 (.t 6), none, [6]⟩, ⟨some 64, .bld [.bool false, .bool false, .bool false, .slice none 0 0, .slice none 0 0, .slice none 0 0, .string ⟨#[]⟩, .bool false, .int .i64 0] [(0, 5, .t 63), (8, 1, .c (.int .i64 10))], none, [63]⟩, ⟨none, .st 9 (.t 12) (.t 64), none, [64]⟩])
                  .ret))
                 (.drop [59]
                  (.seq
                   (.region false [] [⟨some 66, .fad 0 (.t 6), none, []⟩, ⟨some 67, .ld false 1 (.t 66), none, [66]⟩, ⟨some 65, .mov (.t 67), none, [67]⟩])
                  (.cond (.t 65)
                    (.drop [5, 65]
                     (.seq
                      (.region false [] [⟨some 68, .ld true 5 (.t 6), none, [6]⟩, ⟨some 69, .bld [.bool false, .bool false, .bool false, .slice none 0 0, .slice none 0 0, .slice none 0 0, .string ⟨#[]⟩, .bool false, .int .i64 0] [(0, 5, .t 68), (8, 1, .c (.int .i64 6))], none, [68]⟩, ⟨none, .st 9 (.t 12) (.t 69), none, [69]⟩])
                     .ret))
                    (.drop [65]
                     .skip)))))))))))))))))))
 (.seq
  (.region false [] [⟨some 70, .fad 0 (.t 6), none, []⟩, ⟨none, .st 1 (.t 70) (.c (.bool true)), none, [70]⟩])
 (.seq
  (.region false [] [⟨some 71, .ld true 5 (.t 6), none, [6]⟩, ⟨some 72, .mov (.t 5), none, [5]⟩, ⟨some 73, .bld [.int .i64 0, .string ⟨#[]⟩] [(0, 1, .c (.int .i64 2)), (1, 1, .t 72)], none, [72]⟩, ⟨some 74, .bsl 95 2 [.t 73], none, [73]⟩, ⟨some 75, .bld [.bool false, .bool false, .bool false, .slice none 0 0, .slice none 0 0, .slice none 0 0, .string ⟨#[]⟩, .bool false, .int .i64 0] [(0, 5, .t 71), (5, 1, .t 74)], none, [71, 74]⟩, ⟨none, .st 9 (.t 12) (.t 75), none, [75]⟩])
 .ret)))))
def rs_30 : List ARes := [.cell 12 true 9]
theorem g_30 : Good Try.prog 30 ac_30 rs_30 := ⟨Try.f30, Try.f30.body.getD .skip, by kernel_rfl, by kernel_rfl, by kernel_rfl, ⟨by kernel_rfl, by kernel_rfl⟩, by kernel_rfl, by kernel_rfl⟩
theorem ok_30 {Γ : Env} (hΓ : EnvOk Try.prog Γ) (sp : Spec) (h : WB Γ ac_30 rs_30 sp) : CallOk Try.prog 30 sp := g_30.ok hΓ mix_ok sp h

/-- chantry/chantryref08.Find -/
def ac_31 : ACode :=
 (.seq
  (.region false [] [⟨some 3, .box (.t 0), none, [0]⟩, ⟨some 6, .alloc [.bool false, .bool false, .bool false, .slice none 0 0, .slice none 0 0], none, []⟩])
 (.seal_ 3
  (.seq
   (.seq
    (.region false [] [⟨some 7, .mov (.c (.int .i64 0)), none, []⟩])
   (.block 0
    (.loop [1, 2, 3, 6, 7]
     (.seq
      (.seq
       (.region false [] [⟨some 8, .mov (.t 7), none, []⟩, ⟨some 9, .fad 18 (.t 3), none, []⟩, ⟨some 10, .ld false 1 (.t 9), none, [9]⟩, ⟨some 11, .len false (.t 10), none, [10]⟩, ⟨some 12, .bin false .lss (.t 8) (.t 11), none, [8, 11]⟩])
      (.cond (.t 12)
        (.drop [12]
         .skip)
        (.drop [1, 2, 3, 7, 12]
         (.exit 0))))
     (.seq
      (.block 1
       (.seq
        (.region false [] [⟨some 15, .fad 18 (.t 3), none, []⟩, ⟨some 16, .ld false 1 (.t 15), none, [15]⟩, ⟨some 17, .mov (.t 7), none, []⟩, ⟨some 18, .iax 7 (.t 16) (.t 17), none, [16, 17]⟩, ⟨some 19, .fad 0 (.t 18), none, [18]⟩, ⟨some 20, .ld false 1 (.t 19), none, [19]⟩, ⟨some 21, .mov (.t 1), none, []⟩, ⟨some 22, .bin false .eql (.t 20) (.t 21), none, [20, 21]⟩, ⟨some 23, .mov (.t 22), none, [22]⟩, ⟨some 24, .fad 18 (.t 3), some (23, true), []⟩, ⟨some 25, .ld false 1 (.t 24), some (23, true), [24]⟩, ⟨some 26, .mov (.t 7), some (23, true), []⟩, ⟨some 27, .iax 7 (.t 25) (.t 26), some (23, true), [25, 26]⟩, ⟨some 28, .fad 1 (.t 27), some (23, true), [27]⟩, ⟨some 29, .ld false 1 (.t 28), some (23, true), [28]⟩, ⟨some 30, .mov (.t 2), some (23, true), []⟩, ⟨some 31, .bin false .eql (.t 29) (.t 30), some (23, true), [29, 30]⟩, ⟨some 32, .pick (.t 23) (.t 31) (.c (.bool false)), none, [23, 31]⟩])
       (.cond (.t 32)
         (.drop [1, 2, 32]
          (.seq
           (.region false [] [⟨some 33, .fad 18 (.t 3), none, [3]⟩, ⟨some 34, .ld false 1 (.t 33), none, [33]⟩, ⟨some 35, .mov (.t 7), none, [7]⟩, ⟨some 36, .iax 7 (.t 34) (.t 35), none, [34, 35]⟩, ⟨some 37, .fad 2 (.t 36), none, [36]⟩, ⟨some 38, .ld true 5 (.t 37), none, [37]⟩, ⟨none, .st 5 (.t 6) (.t 38), none, [38]⟩])
          .ret))
         (.drop [32]
          .skip))))
     (.region false [] [⟨some 13, .mov (.t 7), none, [7]⟩, ⟨some 14, .bin false .add (.t 13) (.c (.int .i64 1)), none, [13]⟩, ⟨some 7, .mov (.t 14), none, [14]⟩]))))))
  (.seq
   (.region false [] [⟨some 39, .bld [.bool false, .bool false, .bool false, .slice none 0 0, .slice none 0 0] [], none, []⟩, ⟨none, .st 5 (.t 6) (.t 39), none, [39]⟩])
  .ret))))
def rs_31 : List ARes := [.cell 6 true 5]
theorem g_31 : Good Try.prog 31 ac_31 rs_31 := ⟨Try.f31, Try.f31.body.getD .skip, by kernel_rfl, by kernel_rfl, by kernel_rfl, ⟨by kernel_rfl, by kernel_rfl⟩, by kernel_rfl, by kernel_rfl⟩
theorem ok_31 {Γ : Env} (hΓ : EnvOk Try.prog Γ) (sp : Spec) (h : WB Γ ac_31 rs_31 sp) : CallOk Try.prog 31 sp := g_31.ok hΓ mix_ok sp h

/-- chantry/chantryref08.put -/
def ac_32 : ACode :=
 (.seq
  (.region false [] [⟨some 4, .box (.t 1), none, [1]⟩, ⟨some 6, .mov (.c (.slice none 0 0)), none, []⟩])
 (.seal_ 4
  (.seq
   (.region false [] [⟨some 7, .mov (.c (.slice none 0 0)), none, []⟩])
  (.seq
   (.region false [] [⟨some 10, .mov (.t 2), none, [2]⟩, ⟨some 8, .mov (.t 10), none, [10]⟩])
  (.seq
   (.seq
    (.region false [] [⟨some 9, .mov (.c (.int .i64 0)), none, []⟩])
   (.block 0
    (.loop [0, 4, 7, 8, 9]
     (.seq
      (.seq
       (.region false [] [⟨some 11, .mov (.t 9), none, []⟩, ⟨some 12, .mov (.t 0), none, []⟩, ⟨some 13, .len false (.t 12), none, [12]⟩, ⟨some 14, .bin false .lss (.t 11) (.t 13), none, [11, 13]⟩])
      (.cond (.t 14)
        (.drop [14]
         .skip)
        (.drop [0, 9, 14]
         (.exit 0))))
     (.seq
      (.block 1
       (.seq
        (.seq
         (.draws (.tak 0 ⟨some 17, .mov (.t 8), none, []⟩ (.tak 1 ⟨some 18, .un .not (.t 17), none, []⟩ (.tak 2 ⟨some 19, .mov (.t 18), none, []⟩ (.tak 3 ⟨some 20, .fad 0 (.t 4), some (19, true), []⟩ (.tak 4 ⟨some 21, .ld false 1 (.t 20), some (19, true), []⟩ (.tak 5 ⟨some 22, .mov (.t 0), some (19, true), []⟩ (.tak 6 ⟨some 23, .mov (.t 9), some (19, true), []⟩ (.tak 7 ⟨some 24, .iax 7 (.t 22) (.t 23), some (19, true), []⟩ (.tak 8 ⟨some 25, .fad 0 (.t 24), some (19, true), []⟩ (.tak 9 ⟨some 26, .ld false 1 (.t 25), some (19, true), []⟩ (.tak 10 ⟨some 27, .bin false .lss (.t 21) (.t 26), some (19, true), []⟩ (.tak 11 ⟨some 28, .mov (.t 27), some (19, true), []⟩ (.tak 12 ⟨some 29, .fad 0 (.t 4), some (28, false), []⟩ (.tak 13 ⟨some 30, .ld false 1 (.t 29), some (28, false), []⟩ (.tak 14 ⟨some 31, .mov (.t 0), some (28, false), []⟩ (.tak 15 ⟨some 32, .mov (.t 9), some (28, false), []⟩ (.tak 16 ⟨some 33, .iax 7 (.t 31) (.t 32), some (28, false), []⟩ (.tak 17 ⟨some 34, .fad 0 (.t 33), some (28, false), []⟩ (.tak 18 ⟨some 35, .ld false 1 (.t 34), some (28, false), []⟩ (.tak 19 ⟨some 36, .bin false .eql (.t 30) (.t 35), some (28, false), []⟩ (.tak 20 ⟨some 37, .mov (.t 36), some (28, false), []⟩ (.tak 21 ⟨some 38, .fad 1 (.t 4), some (37, true), []⟩ (.tak 22 ⟨some 39, .ld false 1 (.t 38), some (37, true), []⟩ (.tak 23 ⟨some 40, .mov (.t 0), some (37, true), []⟩ (.tak 24 ⟨some 41, .mov (.t 9), some (37, true), []⟩ (.tak 25 ⟨some 42, .iax 7 (.t 40) (.t 41), some (37, true), []⟩ (.tak 26 ⟨some 43, .fad 1 (.t 42), some (37, true), []⟩ (.tak 27 ⟨some 44, .ld false 1 (.t 43), some (37, true), []⟩ (.tak 28 ⟨some 45, .bin false .lss (.t 39) (.t 44), some (37, true), []⟩ (.tak 29 ⟨some 46, .pick (.t 37) (.t 45) (.c (.bool false)), some (28, false), []⟩ (.tak 30 ⟨some 47, .pick (.t 28) (.c (.bool true)) (.t 46), some (19, true), []⟩ (.tak 31 ⟨some 48, .pick (.t 19) (.t 47) (.c (.bool false)), none, []⟩ .done)))))))))))))))))))))))))))))))) [[], [0], [1], [2], [3, 2], [2], [2], [5, 6, 2], [7, 2], [8, 2], [4, 9, 2], [10, 2, 2], [11], [12, 11], [11], [11], [14, 15, 11], [16, 11], [17, 11], [13, 18, 11], [19, 11, 11], [20], [21, 20], [20], [20], [23, 24, 20], [25, 20], [26, 20], [22, 27, 20], [20, 28, 11], [11, 29, 2], [2, 30]] [⟨some 17, .mov (.t 8), none, []⟩, ⟨some 18, .un .not (.t 17), none, []⟩, ⟨some 19, .mov (.t 18), none, []⟩, ⟨some 20, .fad 0 (.t 4), some (19, true), []⟩, ⟨some 21, .ld false 1 (.t 20), some (19, true), []⟩, ⟨some 22, .mov (.t 0), some (19, true), []⟩, ⟨some 23, .mov (.t 9), some (19, true), []⟩, ⟨some 24, .iax 7 (.t 22) (.t 23), some (19, true), []⟩, ⟨some 25, .fad 0 (.t 24), some (19, true), []⟩, ⟨some 26, .ld false 1 (.t 25), some (19, true), []⟩, ⟨some 27, .bin false .lss (.t 21) (.t 26), some (19, true), []⟩, ⟨some 28, .mov (.t 27), some (19, true), []⟩, ⟨some 29, .fad 0 (.t 4), some (28, false), []⟩, ⟨some 30, .ld false 1 (.t 29), some (28, false), []⟩, ⟨some 31, .mov (.t 0), some (28, false), []⟩, ⟨some 32, .mov (.t 9), some (28, false), []⟩, ⟨some 33, .iax 7 (.t 31) (.t 32), some (28, false), []⟩, ⟨some 34, .fad 0 (.t 33), some (28, false), []⟩, ⟨some 35, .ld false 1 (.t 34), some (28, false), []⟩, ⟨some 36, .bin false .eql (.t 30) (.t 35), some (28, false), []⟩, ⟨some 37, .mov (.t 36), some (28, false), []⟩, ⟨some 38, .fad 1 (.t 4), some (37, true), []⟩, ⟨some 39, .ld false 1 (.t 38), some (37, true), []⟩, ⟨some 40, .mov (.t 0), some (37, true), []⟩, ⟨some 41, .mov (.t 9), some (37, true), []⟩, ⟨some 42, .iax 7 (.t 40) (.t 41), some (37, true), []⟩, ⟨some 43, .fad 1 (.t 42), some (37, true), []⟩, ⟨some 44, .ld false 1 (.t 43), some (37, true), []⟩, ⟨some 45, .bin false .lss (.t 39) (.t 44), some (37, true), []⟩, ⟨some 46, .pick (.t 37) (.t 45) (.c (.bool false)), some (28, false), []⟩, ⟨some 47, .pick (.t 28) (.c (.bool true)) (.t 46), some (19, true), []⟩, ⟨some 48, .pick (.t 19) (.t 47) (.c (.bool false)), none, []⟩])
        (.drop [17, 18, 19, 20, 21, 22, 23, 24, 25, 26, 27, 28, 29, 30, 31, 32, 33, 34, 35, 36, 37, 38, 39, 40, 41, 42, 43, 44, 45, 46, 47]
         (.cond (.t 48)
           (.drop [8, 48]
            (.seq
             (.region false [] [⟨some 49, .mov (.t 7), none, [7]⟩, ⟨some 50, .ld true 7 (.t 4), none, []⟩, ⟨some 51, .bsl 66 7 [.t 50], none, [50]⟩, ⟨some 52, .app 66 7 72 (.t 49) (.t 51), none, [49, 51]⟩, ⟨some 7, .mov (.t 52), none, [52]⟩])
            (.region false [] [⟨some 8, .mov (.c (.bool true)), none, []⟩])))
           (.drop [48]
            .skip))))
       (.seq
        (.draws (.tak 0 ⟨some 53, .mov (.t 0), none, []⟩ (.tak 1 ⟨some 54, .mov (.t 9), none, []⟩ (.tak 2 ⟨some 55, .iax 7 (.t 53) (.t 54), none, []⟩ (.tak 3 ⟨some 56, .fad 0 (.t 55), none, []⟩ (.tak 4 ⟨some 57, .ld false 1 (.t 56), none, []⟩ (.tak 5 ⟨some 58, .fad 0 (.t 4), none, []⟩ (.tak 6 ⟨some 59, .ld false 1 (.t 58), none, []⟩ (.tak 7 ⟨some 60, .bin false .neq (.t 57) (.t 59), none, []⟩ (.tak 8 ⟨some 61, .mov (.t 60), none, []⟩ (.tak 9 ⟨some 62, .mov (.t 0), some (61, false), []⟩ (.tak 10 ⟨some 63, .mov (.t 9), some (61, false), []⟩ (.tak 11 ⟨some 64, .iax 7 (.t 62) (.t 63), some (61, false), []⟩ (.tak 12 ⟨some 65, .fad 1 (.t 64), some (61, false), []⟩ (.tak 13 ⟨some 66, .ld false 1 (.t 65), some (61, false), []⟩ (.tak 14 ⟨some 67, .fad 1 (.t 4), some (61, false), []⟩ (.tak 15 ⟨some 68, .ld false 1 (.t 67), some (61, false), []⟩ (.tak 16 ⟨some 69, .bin false .neq (.t 66) (.t 68), some (61, false), []⟩ (.tak 17 ⟨some 70, .pick (.t 61) (.c (.bool true)) (.t 69), none, []⟩ .done)))))))))))))))))) [[], [], [0, 1], [2], [3], [], [5], [4, 6], [7], [8], [8], [9, 10, 8], [11, 8], [12, 8], [8], [14, 8], [13, 15, 8], [8, 16]] [⟨some 53, .mov (.t 0), none, []⟩, ⟨some 54, .mov (.t 9), none, []⟩, ⟨some 55, .iax 7 (.t 53) (.t 54), none, []⟩, ⟨some 56, .fad 0 (.t 55), none, []⟩, ⟨some 57, .ld false 1 (.t 56), none, []⟩, ⟨some 58, .fad 0 (.t 4), none, []⟩, ⟨some 59, .ld false 1 (.t 58), none, []⟩, ⟨some 60, .bin false .neq (.t 57) (.t 59), none, []⟩, ⟨some 61, .mov (.t 60), none, []⟩, ⟨some 62, .mov (.t 0), some (61, false), []⟩, ⟨some 63, .mov (.t 9), some (61, false), []⟩, ⟨some 64, .iax 7 (.t 62) (.t 63), some (61, false), []⟩, ⟨some 65, .fad 1 (.t 64), some (61, false), []⟩, ⟨some 66, .ld false 1 (.t 65), some (61, false), []⟩, ⟨some 67, .fad 1 (.t 4), some (61, false), []⟩, ⟨some 68, .ld false 1 (.t 67), some (61, false), []⟩, ⟨some 69, .bin false .neq (.t 66) (.t 68), some (61, false), []⟩, ⟨some 70, .pick (.t 61) (.c (.bool true)) (.t 69), none, []⟩])
       (.drop [53, 54, 55, 56, 57, 58, 59, 60, 61, 62, 63, 64, 65, 66, 67, 68, 69]
        (.cond (.t 70)
          (.drop [70]
           (.region false [] [⟨some 71, .mov (.t 7), none, [7]⟩, ⟨some 72, .mov (.t 0), none, []⟩, ⟨some 73, .mov (.t 9), none, []⟩, ⟨some 74, .iax 7 (.t 72) (.t 73), none, [72, 73]⟩, ⟨some 75, .ld true 7 (.t 74), none, [74]⟩, ⟨some 76, .bsl 66 7 [.t 75], none, [75]⟩, ⟨some 77, .app 66 7 72 (.t 71) (.t 76), none, [71, 76]⟩, ⟨some 7, .mov (.t 77), none, [77]⟩]))
          (.drop [70]
           .skip))))))
     (.region false [] [⟨some 15, .mov (.t 9), none, [9]⟩, ⟨some 16, .bin false .add (.t 15) (.c (.int .i64 1)), none, [15]⟩, ⟨some 9, .mov (.t 16), none, [16]⟩]))))))
  (.seq
   (.seq
    (.region false [] [⟨some 78, .mov (.t 8), none, [8]⟩, ⟨some 79, .un .not (.t 78), none, [78]⟩])
   (.cond (.t 79)
     (.drop [79]
      (.region false [] [⟨some 80, .mov (.t 7), none, [7]⟩, ⟨some 81, .ld true 7 (.t 4), none, [4]⟩, ⟨some 82, .bsl 66 7 [.t 81], none, [81]⟩, ⟨some 83, .app 66 7 72 (.t 80) (.t 82), none, [80, 82]⟩, ⟨some 7, .mov (.t 83), none, [83]⟩]))
     (.drop [4, 79]
      .skip)))
  (.seq
   (.region false [] [⟨some 84, .mov (.t 7), none, [7]⟩, ⟨some 6, .mov (.t 84), none, [84]⟩])
  .ret)))))))
def rs_32 : List ARes := [.tmp 6]
theorem g_32 : Good Try.prog 32 ac_32 rs_32 := ⟨Try.f32, Try.f32.body.getD .skip, by kernel_rfl, by kernel_rfl, by kernel_rfl, ⟨by kernel_rfl, by kernel_rfl⟩, by kernel_rfl, by kernel_rfl⟩
theorem ok_32 {Γ : Env} (hΓ : EnvOk Try.prog Γ) (sp : Spec) (h : WB Γ ac_32 rs_32 sp) : CallOk Try.prog 32 sp := g_32.ok hΓ mix_ok sp h

/-- (chantry/table.Table).right -/
def ac_34 : ACode :=
 (.seq
  (.region false [] [⟨some 2, .box (.t 0), none, [0]⟩, ⟨some 3, .box (.t 1), none, [1]⟩, ⟨some 4, .mov (.c (.bool false)), none, []⟩])
 (.seal_ 3
  (.seal_ 2
   (.seq
    (.seq
     (.region false [] [⟨some 6, .fad 1 (.t 2), none, []⟩, ⟨some 7, .ld false 1 (.t 6), none, [6]⟩, ⟨some 8, .fad 0 (.t 3), none, []⟩, ⟨some 9, .ld false 1 (.t 8), none, [8]⟩, ⟨some 10, .call 33 [.t 7, .t 9], none, [7, 9]⟩, ⟨some 11, .un .not (.t 10), none, [10]⟩])
    (.cond (.t 11)
      (.drop [2, 3, 11]
       (.seq
        (.region false [] [⟨some 4, .mov (.c (.bool false)), none, []⟩])
       .ret))
      (.drop [11]
       .skip)))
   (.seq
    (.draws (.tak 0 ⟨some 12, .fad 1 (.t 3), none, []⟩ (.tak 1 ⟨some 13, .ld false 1 (.t 12), none, []⟩ (.tak 2 ⟨some 14, .fad 0 (.t 3), none, []⟩ (.tak 3 ⟨some 15, .ld false 1 (.t 14), none, []⟩ (.tak 4 ⟨some 16, .fad 2 (.t 2), none, []⟩ (.tak 5 ⟨some 17, .iaa 16 1 (.t 16) (.t 15), none, []⟩ (.tak 6 ⟨some 18, .ld false 1 (.t 17), none, []⟩ (.tak 7 ⟨some 19, .cvt .i64 (.t 18), none, []⟩ (.tak 8 ⟨some 20, .bin false .sub (.t 13) (.t 19), none, []⟩ (.tak 9 ⟨some 5, .mov (.t 20), none, []⟩ .done)))))))))) [[], [0], [], [2], [], [4, 3], [5], [6], [1, 7], [8, 0, 1, 2, 3, 4, 5, 6, 7, 8]] [⟨some 12, .fad 1 (.t 3), none, []⟩, ⟨some 13, .ld false 1 (.t 12), none, []⟩, ⟨some 14, .fad 0 (.t 3), none, []⟩, ⟨some 15, .ld false 1 (.t 14), none, []⟩, ⟨some 16, .fad 2 (.t 2), none, []⟩, ⟨some 17, .iaa 16 1 (.t 16) (.t 15), none, []⟩, ⟨some 18, .ld false 1 (.t 17), none, []⟩, ⟨some 19, .cvt .i64 (.t 18), none, []⟩, ⟨some 20, .bin false .sub (.t 13) (.t 19), none, []⟩, ⟨some 5, .mov (.t 20), none, []⟩])
   (.drop [2, 12, 13, 14, 15, 16, 17, 18, 19, 20]
    (.seq
     (.region false [] [⟨some 21, .mov (.t 5), none, []⟩, ⟨some 22, .bin false .geq (.t 21) (.c (.int .i64 0)), none, [21]⟩, ⟨some 23, .mov (.t 22), none, [22]⟩, ⟨some 24, .mov (.t 5), some (23, true), []⟩, ⟨some 25, .bin false .lss (.t 24) (.c (.int .i64 8)), some (23, true), [24]⟩, ⟨some 26, .pick (.t 23) (.t 25) (.c (.bool false)), none, [23, 25]⟩, ⟨some 27, .mov (.t 26), none, [26]⟩, ⟨some 28, .fad 1 (.t 3), some (27, true), []⟩, ⟨some 29, .ld false 1 (.t 28), some (27, true), [28]⟩, ⟨some 30, .bin false .lss (.t 29) (.c (.int .i64 1000)), some (27, true), [29]⟩, ⟨some 31, .pick (.t 27) (.t 30) (.c (.bool false)), none, [27, 30]⟩, ⟨some 32, .mov (.t 31), none, [31]⟩, ⟨some 33, .mov (.t 5), some (32, true), [5]⟩, ⟨some 34, .bin false .eql (.t 33) (.c (.int .i64 0)), some (32, true), [33]⟩, ⟨some 35, .mov (.t 34), some (32, true), [34]⟩, ⟨some 36, .fad 2 (.t 3), some (35, true), []⟩, ⟨some 37, .fad 2 (.t 36), some (35, true), [36]⟩, ⟨some 38, .ld false 1 (.t 37), some (35, true), [37]⟩, ⟨some 39, .pick (.t 35) (.t 38) (.c (.bool false)), some (32, true), [35, 38]⟩, ⟨some 40, .un .not (.t 39), some (32, true), [39]⟩, ⟨some 41, .pick (.t 32) (.t 40) (.c (.bool false)), none, [32, 40]⟩, ⟨some 42, .mov (.t 41), none, [41]⟩, ⟨some 43, .fad 2 (.t 3), some (42, true), []⟩, ⟨some 44, .fad 3 (.t 43), some (42, true), [43]⟩, ⟨some 45, .ld false 1 (.t 44), some (42, true), [44]⟩, ⟨some 46, .call 59 [.t 45], some (42, true), [45]⟩, ⟨some 47, .pick (.t 42) (.t 46) (.c (.bool false)), none, [42, 46]⟩, ⟨some 48, .mov (.t 47), none, [47]⟩, ⟨some 49, .fad 2 (.t 3), some (48, true), [3]⟩, ⟨some 50, .fad 4 (.t 49), some (48, true), [49]⟩, ⟨some 51, .ld false 1 (.t 50), some (48, true), [50]⟩, ⟨some 52, .call 59 [.t 51], some (48, true), [51]⟩, ⟨some 53, .pick (.t 48) (.t 52) (.c (.bool false)), none, [48, 52]⟩, ⟨some 4, .mov (.t 53), none, [53]⟩])
    .ret)))))))
def rs_34 : List ARes := [.tmp 4]
theorem g_34 : Good Try.prog 34 ac_34 rs_34 := ⟨Try.f34, Try.f34.body.getD .skip, by kernel_rfl, by kernel_rfl, by kernel_rfl, ⟨by kernel_rfl, by kernel_rfl⟩, by kernel_rfl, by kernel_rfl⟩
theorem ok_34 {Γ : Env} (hΓ : EnvOk Try.prog Γ) (sp : Spec) (h : WB Γ ac_34 rs_34 sp) : CallOk Try.prog 34 sp := g_34.ok hΓ mix_ok sp h

/-- chantry/chantryref08.right -/
def ac_36 : ACode :=
 (.seq
  (.region false [] [⟨some 2, .box (.t 0), none, [0]⟩, ⟨some 3, .box (.t 1), none, [1]⟩, ⟨some 4, .mov (.c (.bool false)), none, []⟩])
 (.seal_ 3
  (.seal_ 2
   (.seq
    (.seq
     (.region false [] [⟨some 6, .fad 1 (.t 2), none, []⟩, ⟨some 7, .ld false 1 (.t 6), none, [6]⟩, ⟨some 8, .fad 0 (.t 3), none, []⟩, ⟨some 9, .ld false 1 (.t 8), none, [8]⟩, ⟨some 10, .call 35 [.t 7, .t 9], none, [7, 9]⟩, ⟨some 11, .un .not (.t 10), none, [10]⟩])
    (.cond (.t 11)
      (.drop [2, 3, 11]
       (.seq
        (.region false [] [⟨some 4, .mov (.c (.bool false)), none, []⟩])
       .ret))
      (.drop [11]
       .skip)))
   (.seq
    (.region false [] [⟨some 12, .fad 0 (.t 3), none, []⟩, ⟨some 13, .ld false 1 (.t 12), none, [12]⟩, ⟨some 14, .fad 2 (.t 2), none, [2]⟩, ⟨some 15, .iaa 16 1 (.t 14) (.t 13), none, [13, 14]⟩, ⟨some 16, .ld false 1 (.t 15), none, [15]⟩, ⟨some 17, .cvt .i64 (.t 16), none, [16]⟩, ⟨some 5, .mov (.t 17), none, [17]⟩])
   (.seq
    (.seq
     (.region false [] [⟨some 18, .fad 1 (.t 3), none, []⟩, ⟨some 19, .ld false 1 (.t 18), none, [18]⟩, ⟨some 20, .mov (.t 5), none, []⟩, ⟨some 21, .bin false .lss (.t 19) (.t 20), none, [19, 20]⟩, ⟨some 22, .mov (.t 21), none, [21]⟩, ⟨some 23, .fad 1 (.t 3), some (22, false), []⟩, ⟨some 24, .ld false 1 (.t 23), some (22, false), [23]⟩, ⟨some 25, .mov (.t 5), some (22, false), []⟩, ⟨some 26, .bin false .add (.t 25) (.c (.int .i64 8)), some (22, false), [25]⟩, ⟨some 27, .bin false .geq (.t 24) (.t 26), some (22, false), [24, 26]⟩, ⟨some 28, .pick (.t 22) (.c (.bool true)) (.t 27), none, [22, 27]⟩, ⟨some 29, .mov (.t 28), none, [28]⟩, ⟨some 30, .fad 1 (.t 3), some (29, false), []⟩, ⟨some 31, .ld false 1 (.t 30), some (29, false), [30]⟩, ⟨some 32, .bin false .geq (.t 31) (.c (.int .i64 1000)), some (29, false), [31]⟩, ⟨some 33, .pick (.t 29) (.c (.bool true)) (.t 32), none, [29, 32]⟩, ⟨some 34, .mov (.t 33), none, [33]⟩, ⟨some 35, .fad 1 (.t 3), some (34, false), []⟩, ⟨some 36, .ld false 1 (.t 35), some (34, false), [35]⟩, ⟨some 37, .mov (.t 5), some (34, false), [5]⟩, ⟨some 38, .bin false .eql (.t 36) (.t 37), some (34, false), [36, 37]⟩, ⟨some 39, .mov (.t 38), some (34, false), [38]⟩, ⟨some 40, .fad 2 (.t 3), some (39, true), []⟩, ⟨some 41, .fad 2 (.t 40), some (39, true), [40]⟩, ⟨some 42, .ld false 1 (.t 41), some (39, true), [41]⟩, ⟨some 43, .pick (.t 39) (.t 42) (.c (.bool false)), some (34, false), [39, 42]⟩, ⟨some 44, .pick (.t 34) (.c (.bool true)) (.t 43), none, [34, 43]⟩])
    (.cond (.t 44)
      (.drop [3, 44]
       (.seq
        (.region false [] [⟨some 4, .mov (.c (.bool false)), none, []⟩])
       .ret))
      (.drop [44]
       .skip)))
   (.seq
    (.region false [] [⟨some 45, .fad 2 (.t 3), none, []⟩, ⟨some 46, .fad 3 (.t 45), none, [45]⟩, ⟨some 47, .ld false 1 (.t 46), none, [46]⟩, ⟨some 48, .call 61 [.t 47], none, [47]⟩, ⟨some 49, .mov (.t 48), none, [48]⟩, ⟨some 50, .fad 2 (.t 3), some (49, true), [3]⟩, ⟨some 51, .fad 4 (.t 50), some (49, true), [50]⟩, ⟨some 52, .ld false 1 (.t 51), some (49, true), [51]⟩, ⟨some 53, .call 61 [.t 52], some (49, true), [52]⟩, ⟨some 54, .pick (.t 49) (.t 53) (.c (.bool false)), none, [49, 53]⟩, ⟨some 4, .mov (.t 54), none, [54]⟩])
   .ret)))))))
def rs_36 : List ARes := [.tmp 4]
theorem g_36 : Good Try.prog 36 ac_36 rs_36 := ⟨Try.f36, Try.f36.body.getD .skip, by kernel_rfl, by kernel_rfl, by kernel_rfl, ⟨by kernel_rfl, by kernel_rfl⟩, by kernel_rfl, by kernel_rfl⟩
theorem ok_36 {Γ : Env} (hΓ : EnvOk Try.prog Γ) (sp : Spec) (h : WB Γ ac_36 rs_36 sp) : CallOk Try.prog 36 sp := g_36.ok hΓ mix_ok sp h

/-- chantry/chantryref07.Same -/
def ac_37 : ACode :=
 (.seq
  (.region false [] [⟨some 2, .box (.t 0), none, [0]⟩, ⟨some 3, .box (.t 1), none, [1]⟩, ⟨some 4, .mov (.c (.bool false)), none, []⟩])
 (.seal_ 3
  (.seal_ 2
   (.seq
    (.region false [] [⟨some 5, .fad 0 (.t 2), none, []⟩, ⟨some 6, .ld false 1 (.t 5), none, [5]⟩, ⟨some 7, .fad 0 (.t 3), none, []⟩, ⟨some 8, .ld false 1 (.t 7), none, [7]⟩, ⟨some 9, .bin true .eql (.t 6) (.t 8), none, [6, 8]⟩, ⟨some 10, .mov (.t 9), none, [9]⟩, ⟨some 11, .fad 1 (.t 2), some (10, true), []⟩, ⟨some 12, .ld false 1 (.t 11), some (10, true), [11]⟩, ⟨some 13, .fad 1 (.t 3), some (10, true), []⟩, ⟨some 14, .ld false 1 (.t 13), some (10, true), [13]⟩, ⟨some 15, .bin true .eql (.t 12) (.t 14), some (10, true), [12, 14]⟩, ⟨some 16, .pick (.t 10) (.t 15) (.c (.bool false)), none, [10, 15]⟩, ⟨some 17, .mov (.t 16), none, [16]⟩, ⟨some 18, .fad 2 (.t 2), some (17, true), []⟩, ⟨some 19, .ld false 1 (.t 18), some (17, true), [18]⟩, ⟨some 20, .fad 2 (.t 3), some (17, true), []⟩, ⟨some 21, .ld false 1 (.t 20), some (17, true), [20]⟩, ⟨some 22, .bin true .eql (.t 19) (.t 21), some (17, true), [19, 21]⟩, ⟨some 23, .pick (.t 17) (.t 22) (.c (.bool false)), none, [17, 22]⟩, ⟨some 24, .mov (.t 23), none, [23]⟩, ⟨some 25, .fad 3 (.t 2), some (24, true), []⟩, ⟨some 26, .ld false 1 (.t 25), some (24, true), [25]⟩, ⟨some 27, .fad 3 (.t 3), some (24, true), []⟩, ⟨some 28, .ld false 1 (.t 27), some (24, true), [27]⟩, ⟨some 29, .call 62 [.t 26, .t 28], some (24, true), [26, 28]⟩, ⟨some 30, .pick (.t 24) (.t 29) (.c (.bool false)), none, [24, 29]⟩, ⟨some 31, .mov (.t 30), none, [30]⟩, ⟨some 32, .fad 4 (.t 2), some (31, true), [2]⟩, ⟨some 33, .ld false 1 (.t 32), some (31, true), [32]⟩, ⟨some 34, .fad 4 (.t 3), some (31, true), [3]⟩, ⟨some 35, .ld false 1 (.t 34), some (31, true), [34]⟩, ⟨some 36, .call 62 [.t 33, .t 35], some (31, true), [33, 35]⟩, ⟨some 37, .pick (.t 31) (.t 36) (.c (.bool false)), none, [31, 36]⟩, ⟨some 4, .mov (.t 37), none, [37]⟩])
   .ret))))
def rs_37 : List ARes := [.tmp 4]
theorem g_37 : Good Try.prog 37 ac_37 rs_37 := ⟨Try.f37, Try.f37.body.getD .skip, by kernel_rfl, by kernel_rfl, by kernel_rfl, ⟨by kernel_rfl, by kernel_rfl⟩, by kernel_rfl, by kernel_rfl⟩
theorem ok_37 {Γ : Env} (hΓ : EnvOk Try.prog Γ) (sp : Spec) (h : WB Γ ac_37 rs_37 sp) : CallOk Try.prog 37 sp := g_37.ok hΓ mix_ok sp h

/-- slices.Clone[[]chantry/table.Open,chantry/table.Open] -/
def ac_47 : ACode :=
 (.seq
  (.region false [] [⟨some 2, .mov (.c (.slice none 0 0)), none, []⟩])
 (.seq
  (.conc 0
   (.seq
    (.region false [] [⟨some 3, .mov (.t 0), none, []⟩, ⟨some 4, .isn false false (.t 3), none, [3]⟩])
   (.cond (.t 4)
     (.drop [0, 4]
      (.seq
       (.region false [] [⟨some 2, .mov (.c (.slice none 0 0)), none, []⟩])
      (.pack [2]
       .ret)))
     (.drop [4]
      .skip))))
 (.seq
  (.region false [] [⟨some 5, .bsl 60 7 [], none, []⟩, ⟨some 6, .mov (.t 0), none, [0]⟩, ⟨some 7, .app 60 7 72 (.t 5) (.t 6), none, [5, 6]⟩, ⟨some 2, .mov (.t 7), none, [7]⟩])
 (.pack [2]
  .ret))))
def rs_47 : List ARes := [.tmp 2]
theorem g_47 : Good Try.prog 47 ac_47 rs_47 := ⟨Try.f47, Try.f47.body.getD .skip, by kernel_rfl, by kernel_rfl, by kernel_rfl, ⟨by kernel_rfl, by kernel_rfl⟩, by kernel_rfl, by kernel_rfl⟩
theorem ok_47 {Γ : Env} (hΓ : EnvOk Try.prog Γ) (sp : Spec) (h : WB Γ ac_47 rs_47 sp) : CallOk Try.prog 47 sp := g_47.ok hΓ mix_ok sp h

/-- cmp.Or[int] -/
def ac_49 : ACode :=
 (.seq
  (.region false [] [⟨some 2, .mov (.c (.int .i64 0)), none, []⟩])
 (.seq
  (.region false [] [⟨some 3, .mov (.c (.int .i64 0)), none, []⟩])
 (.seq
  (.seq
   (.region false [] [⟨some 6, .mov (.t 0), none, [0]⟩, ⟨some 7, .len false (.t 6), none, []⟩, ⟨some 8, .mov (.c (.int .i64 0)), none, []⟩])
  (.block 0
   (.loop [3, 6, 7, 8]
    (.seq
     (.region false [] [⟨some 9, .bin false .lss (.t 8) (.t 7), none, []⟩])
    (.seq
     (.cond (.t 9)
       (.drop [9]
        .skip)
       (.drop [6, 7, 8, 9]
        (.exit 0)))
    (.seq
     (.block 1
      (.seq
       (.region false [] [⟨some 10, .iax 1 (.t 6) (.t 8), none, []⟩, ⟨some 11, .ld false 1 (.t 10), none, [10]⟩, ⟨some 5, .mov (.t 11), none, [11]⟩])
      (.seq
       (.region false [] [⟨some 12, .mov (.t 5), none, []⟩, ⟨some 13, .mov (.t 3), none, []⟩, ⟨some 14, .bin false .neq (.t 12) (.t 13), none, [12, 13]⟩])
      (.cond (.t 14)
        (.drop [3, 6, 7, 8, 14]
         (.seq
          (.region false [] [⟨some 15, .mov (.t 5), none, [5]⟩, ⟨some 2, .mov (.t 15), none, [15]⟩])
         .ret))
        (.drop [5, 14]
         .skip)))))
    (.region false [] [⟨some 16, .bin false .add (.t 8) (.c (.int .i64 1)), none, [8]⟩, ⟨some 8, .mov (.t 16), none, [16]⟩])))))))
 (.seq
  (.region false [] [⟨some 17, .mov (.t 3), none, [3]⟩, ⟨some 2, .mov (.t 17), none, [17]⟩])
 .ret))))
def rs_49 : List ARes := [.tmp 2]
theorem g_49 : Good Try.prog 49 ac_49 rs_49 := ⟨Try.f49, Try.f49.body.getD .skip, by kernel_rfl, by kernel_rfl, by kernel_rfl, ⟨by kernel_rfl, by kernel_rfl⟩, by kernel_rfl, by kernel_rfl⟩
theorem ok_49 {Γ : Env} (hΓ : EnvOk Try.prog Γ) (sp : Spec) (h : WB Γ ac_49 rs_49 sp) : CallOk Try.prog 49 sp := g_49.ok hΓ mix_ok sp h

/-- slices.Delete[[]chantry/table.Open,chantry/table.Open] -/
def ac_54 : ACode :=
 (.seq
  (.region false [] [⟨some 6, .mov (.c (.slice none 0 0)), none, []⟩])
 (.open_ 0
  (.seq
   (.region false [] [⟨some 8, .mov (.t 0), none, []⟩, ⟨some 9, .mov (.t 1), none, []⟩, ⟨some 10, .mov (.t 2), none, []⟩, ⟨some 11, .mov (.t 0), none, []⟩, ⟨some 12, .len false (.t 11), none, [11]⟩, ⟨some 13, .sl3 7 (.t 8) (some (.t 9)) (some (.t 10)) (some (.t 12)), none, [8, 9, 10, 12]⟩])
  (.seq
   (.seq
    (.region false [] [⟨some 14, .mov (.t 1), none, []⟩, ⟨some 15, .mov (.t 2), none, []⟩, ⟨some 16, .bin false .eql (.t 14) (.t 15), none, [14, 15]⟩])
   (.cond (.t 16)
     (.drop [1, 2, 16]
      (.seq
       (.region false [] [⟨some 17, .mov (.t 0), none, [0]⟩, ⟨some 6, .mov (.t 17), none, [17]⟩])
      (.close_ 6
       .ret)))
     (.drop [16]
      .skip)))
  (.seq
   (.region false [] [⟨some 18, .mov (.t 0), none, []⟩, ⟨some 19, .len false (.t 18), none, [18]⟩, ⟨some 7, .mov (.t 19), none, [19]⟩])
  (.seq
   (.draws (.tak 0 ⟨some 20, .mov (.t 0), none, []⟩ (.tak 1 ⟨some 21, .mov (.t 1), none, []⟩ (.tak 3 ⟨some 23, .mov (.t 0), none, []⟩ (.tak 4 ⟨some 24, .mov (.t 2), none, []⟩ (.alt 2 ⟨some 22, .slc false 7 (.t 20) none (some (.t 21)), none, []⟩ (.alt 5 ⟨some 25, .slc false 7 (.t 23) (some (.t 24)) none, none, []⟩ (.alt 6 ⟨some 26, .app 60 7 72 (.t 22) (.t 25), none, []⟩ (.tak 7 ⟨some 0, .mov (.t 26), none, []⟩ .done) .stop) .stop) (.alt 5 ⟨some 25, .slc false 7 (.t 23) (some (.t 24)) none, none, []⟩ (.alt 2 ⟨some 22, .slc false 7 (.t 20) none (some (.t 21)), none, []⟩ (.alt 6 ⟨some 26, .app 60 7 72 (.t 22) (.t 25), none, []⟩ (.tak 7 ⟨some 0, .mov (.t 26), none, []⟩ .done) .stop) .stop) .stop)))))) [[], [], [0, 1], [], [], [3, 4], [2, 5], [6, 6, 0, 1, 2, 3, 4, 5, 6]] [⟨some 20, .mov (.t 0), none, []⟩, ⟨some 21, .mov (.t 1), none, []⟩, ⟨some 22, .slc false 7 (.t 20) none (some (.t 21)), none, []⟩, ⟨some 23, .mov (.t 0), none, []⟩, ⟨some 24, .mov (.t 2), none, []⟩, ⟨some 25, .slc false 7 (.t 23) (some (.t 24)) none, none, []⟩, ⟨some 26, .app 60 7 72 (.t 22) (.t 25), none, []⟩, ⟨some 0, .mov (.t 26), none, []⟩])
  (.drop [1, 2, 20, 21, 22, 23, 24, 25, 26]
   (.seq
    (.region false [] [⟨some 27, .mov (.t 0), none, []⟩, ⟨some 28, .mov (.t 0), none, []⟩, ⟨some 29, .len false (.t 28), none, [28]⟩, ⟨some 30, .mov (.t 7), none, [7]⟩, ⟨some 31, .slc false 7 (.t 27) (some (.t 29)) (some (.t 30)), none, [27, 29, 30]⟩, ⟨none, .clr [.int .u8 0, .int .i64 0, .bool false, .bool false, .bool false, .slice none 0 0, .slice none 0 0] (.t 31), none, [31]⟩])
   (.seq
    (.region false [] [⟨some 32, .mov (.t 0), none, [0]⟩, ⟨some 6, .mov (.t 32), none, [32]⟩])
   (.close_ 6
    .ret))))))))))
def rs_54 : List ARes := [.tmp 6]
theorem g_54 : Good Try.prog 54 ac_54 rs_54 := ⟨Try.f54, Try.f54.body.getD .skip, by kernel_rfl, by kernel_rfl, by kernel_rfl, ⟨by kernel_rfl, by kernel_rfl⟩, by kernel_rfl, by kernel_rfl⟩
theorem ok_54 {Γ : Env} (hΓ : EnvOk Try.prog Γ) (sp : Spec) (h : WB Γ ac_54 rs_54 sp) : CallOk Try.prog 54 sp := g_54.ok hΓ mix_ok sp h

/-- chantry/table.sound -/
def ac_59 : ACode :=
 (.seq
  (.region false [] [⟨some 2, .mov (.c (.bool false)), none, []⟩])
 (.seq
  (.region false [] [⟨some 3, .mov (.c (.int .u16 0)), none, []⟩])
 (.seq
  (.region false [] [⟨some 9, .mkm, none, []⟩, ⟨some 4, .mov (.t 9), none, [9]⟩])
 (.seq
  (.seq
   (.region false [] [⟨some 10, .mov (.t 0), none, [0]⟩, ⟨some 11, .len false (.t 10), none, []⟩, ⟨some 12, .mov (.c (.int .i64 0)), none, []⟩])
  (.block 0
   (.loop [3, 4, 10, 11, 12]
    (.seq
     (.region false [] [⟨some 13, .bin false .lss (.t 12) (.t 11), none, []⟩])
    (.seq
     (.cond (.t 13)
       (.drop [13]
        .skip)
       (.drop [3, 4, 10, 11, 12, 13]
        (.exit 0)))
    (.seq
     (.block 1
      (.seq
       (.region false [] [⟨some 14, .iax 2 (.t 10) (.t 12), none, []⟩, ⟨some 15, .ld true 2 (.t 14), none, [14]⟩, ⟨some 6, .alloc [.string ⟨#[]⟩, .int .u16 0], none, []⟩, ⟨none, .st 2 (.t 6) (.t 15), none, [15]⟩])
      (.seal_ 6
       (.seq
        (.region false [] [⟨some 17, .mov (.t 4), none, []⟩, ⟨some 18, .fad 0 (.t 6), none, []⟩, ⟨some 19, .ld false 1 (.t 18), none, [18]⟩, ⟨some 20, .lkp (.agg #[]) true (.t 17) (.t 19), none, [17, 19]⟩, ⟨some 16, .mov (.t 20), none, [20]⟩, ⟨some 21, .ext 0 (.t 16), none, []⟩, ⟨some 22, .ext 1 (.t 16), none, [16]⟩, ⟨some 7, .alloc [], none, []⟩, ⟨none, .st 0 (.t 7) (.t 21), none, [7, 21]⟩, ⟨some 8, .mov (.t 22), none, [22]⟩])
       (.seal_ 7
        (.seq
         (.seq
          (.region false [] [⟨some 23, .mov (.t 8), none, [8]⟩, ⟨some 24, .mov (.t 23), none, [23]⟩, ⟨some 25, .mov (.t 3), some (24, false), []⟩, ⟨some 26, .fad 1 (.t 6), some (24, false), []⟩, ⟨some 27, .ld false 1 (.t 26), some (24, false), [26]⟩, ⟨some 28, .bin false .and (.t 25) (.t 27), some (24, false), [25, 27]⟩, ⟨some 29, .bin false .neq (.t 28) (.c (.int .u16 0)), some (24, false), [28]⟩, ⟨some 30, .pick (.t 24) (.c (.bool true)) (.t 29), none, [24, 29]⟩])
         (.cond (.t 30)
           (.drop [3, 4, 6, 10, 11, 12, 30]
            (.seq
             (.region false [] [⟨some 2, .mov (.c (.bool false)), none, []⟩])
            .ret))
           (.drop [30]
            .skip)))
        (.seq
         (.region false [] [⟨some 31, .mov (.t 4), none, []⟩, ⟨some 32, .fad 0 (.t 6), none, []⟩, ⟨some 33, .ld false 1 (.t 32), none, [32]⟩, ⟨some 34, .bld [] [], none, []⟩, ⟨none, .mup (.t 31) (.t 33) (.t 34), none, [31, 33, 34]⟩])
        (.region false [] [⟨some 35, .mov (.t 3), none, [3]⟩, ⟨some 36, .fad 1 (.t 6), none, [6]⟩, ⟨some 37, .ld false 1 (.t 36), none, [36]⟩, ⟨some 38, .bin false .or (.t 35) (.t 37), none, [35, 37]⟩, ⟨some 3, .mov (.t 38), none, [38]⟩]))))))))
    (.region false [] [⟨some 39, .bin false .add (.t 12) (.c (.int .i64 1)), none, [12]⟩, ⟨some 12, .mov (.t 39), none, [39]⟩])))))))
 (.seq
  (.region false [] [⟨some 2, .mov (.c (.bool true)), none, []⟩])
 .ret)))))
def rs_59 : List ARes := [.tmp 2]
theorem g_59 : Good Try.prog 59 ac_59 rs_59 := ⟨Try.f59, Try.f59.body.getD .skip, by kernel_rfl, by kernel_rfl, by kernel_rfl, ⟨by kernel_rfl, by kernel_rfl⟩, by kernel_rfl, by kernel_rfl⟩
theorem ok_59 {Γ : Env} (hΓ : EnvOk Try.prog Γ) (sp : Spec) (h : WB Γ ac_59 rs_59 sp) : CallOk Try.prog 59 sp := g_59.ok hΓ mix_ok sp h

end Go.Proofs.Ytkbgndebfcjojaa.Am
