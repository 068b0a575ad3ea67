/-
  THE FUNCTIONS' ABSTRACT CODE, as Lean's own reduction of compCode printed it, with notes (genac.py); each is held against the translation by the kernel.
-/
import Derived.Test.YtkbgndebfcjojaaProg
import Derived.Test.YtkbgndebfcjojaaZCodeB
namespace Go.Proofs.Ytkbgndebfcjojaa.Am
set_option linter.unusedSimpArgs false
set_option linter.unusedVariables false
open Go Go.Proofs
set_option maxRecDepth 100000


/-- chantry/chantrylaw08.alive -/
def ac_10 : ACode :=
 (.seq
  (.region false [] [⟨some 0, .mov (.c (.bool false)), none, []⟩])
 (.seq
  (.region false [] [⟨some 17, .bld [.int .i64 0, .int .u16 0, .int .u16 0, .int .u16 0, .int .u16 0, .int .u16 0, .int .u16 0, .int .u16 0, .int .u16 0, .int .u16 0, .int .u16 0, .int .u16 0, .int .u16 0, .int .u16 0, .int .u16 0, .int .u16 0, .int .u16 0, .int .u16 0, .slice none 0 0] [(1, 1, .c (.int .u16 1))], none, []⟩, ⟨some 18, .bld [.int .i64 0, .int .u8 0, .int .i64 0] [], none, []⟩, ⟨some 19, .call 12 [.t 17, .t 18, .c (.int .i64 3), .c (.int .u8 0), .c (.string ⟨#[120]⟩)], none, [17, 18]⟩, ⟨some 16, .mov (.t 19), none, [19]⟩, ⟨some 20, .ext 0 (.t 16), none, []⟩, ⟨some 21, .ext 1 (.t 16), none, []⟩, ⟨some 22, .ext 2 (.t 16), none, []⟩, ⟨some 23, .ext 3 (.t 16), none, []⟩, ⟨some 24, .ext 4 (.t 16), none, [16]⟩, ⟨some 1, .alloc [.int .i64 0, .int .u16 0, .int .u16 0, .int .u16 0, .int .u16 0, .int .u16 0, .int .u16 0, .int .u16 0, .int .u16 0, .int .u16 0, .int .u16 0, .int .u16 0, .int .u16 0, .int .u16 0, .int .u16 0, .int .u16 0, .int .u16 0, .int .u16 0, .slice none 0 0], none, []⟩, ⟨none, .st 19 (.t 1) (.t 20), none, [20]⟩, ⟨some 2, .mov (.t 21), none, [21]⟩, ⟨some 3, .mov (.t 22), none, [22]⟩, ⟨some 4, .mov (.t 23), none, [23]⟩, ⟨some 5, .mov (.t 24), none, [24]⟩])
 (.seal_ 1
  (.seq
   (.region false [] [⟨some 26, .ld true 19 (.t 1), none, []⟩, ⟨some 27, .bld [.int .i64 0, .int .u8 0, .int .i64 0] [(2, 1, .c (.int .i64 9))], none, []⟩, ⟨some 28, .call 12 [.t 26, .t 27, .c (.int .i64 3), .c (.int .u8 0), .c (.string ⟨#[120]⟩)], none, [26, 27]⟩, ⟨some 25, .mov (.t 28), none, [28]⟩, ⟨some 29, .ext 0 (.t 25), none, []⟩, ⟨some 30, .ext 1 (.t 25), none, []⟩, ⟨some 31, .ext 2 (.t 25), none, []⟩, ⟨some 32, .ext 3 (.t 25), none, []⟩, ⟨some 33, .ext 4 (.t 25), none, [25]⟩, ⟨some 6, .alloc [.int .i64 0, .int .u16 0, .int .u16 0, .int .u16 0, .int .u16 0, .int .u16 0, .int .u16 0, .int .u16 0, .int .u16 0, .int .u16 0, .int .u16 0, .int .u16 0, .int .u16 0, .int .u16 0, .int .u16 0, .int .u16 0, .int .u16 0, .int .u16 0, .slice none 0 0], none, []⟩, ⟨none, .st 19 (.t 6) (.t 29), none, [6, 29]⟩, ⟨some 7, .mov (.t 30), none, [30]⟩, ⟨some 8, .mov (.t 31), none, [7, 31]⟩, ⟨some 9, .mov (.t 32), none, [8, 32]⟩, ⟨some 10, .mov (.t 33), none, [9, 33]⟩])
  (.seal_ 6
   (.seq
    (.region false [] [⟨some 35, .ld true 19 (.t 1), none, []⟩, ⟨some 36, .bld [.int .i64 0, .int .u8 0, .int .i64 0] [], none, []⟩, ⟨some 37, .call 12 [.t 35, .t 36, .c (.int .i64 3), .c (.int .u8 0), .c (.string ⟨#[120]⟩)], none, [35, 36]⟩, ⟨some 34, .mov (.t 37), none, [37]⟩, ⟨some 38, .ext 0 (.t 34), none, []⟩, ⟨some 39, .ext 1 (.t 34), none, []⟩, ⟨some 40, .ext 2 (.t 34), none, []⟩, ⟨some 41, .ext 3 (.t 34), none, []⟩, ⟨some 42, .ext 4 (.t 34), none, [34]⟩, ⟨some 11, .alloc [.int .i64 0, .int .u16 0, .int .u16 0, .int .u16 0, .int .u16 0, .int .u16 0, .int .u16 0, .int .u16 0, .int .u16 0, .int .u16 0, .int .u16 0, .int .u16 0, .int .u16 0, .int .u16 0, .int .u16 0, .int .u16 0, .int .u16 0, .int .u16 0, .slice none 0 0], none, []⟩, ⟨none, .st 19 (.t 11) (.t 38), none, [11, 38]⟩, ⟨some 12, .mov (.t 39), none, [39]⟩, ⟨some 13, .mov (.t 40), none, [12, 40]⟩, ⟨some 14, .mov (.t 41), none, [13, 41]⟩, ⟨some 15, .mov (.t 42), none, [14, 42]⟩])
   (.seal_ 11
    (.seq
     (.region false [] [⟨some 43, .mov (.t 2), none, [2]⟩, ⟨some 44, .len false (.t 43), none, [43]⟩, ⟨some 45, .bin false .eql (.t 44) (.c (.int .i64 1)), none, [44]⟩, ⟨some 46, .mov (.t 45), none, [45]⟩, ⟨some 47, .mov (.t 3), some (46, true), [3]⟩, ⟨some 48, .bin false .eql (.t 47) (.c (.string ⟨#[120]⟩)), some (46, true), [47]⟩, ⟨some 49, .pick (.t 46) (.t 48) (.c (.bool false)), none, [46, 48]⟩, ⟨some 50, .mov (.t 49), none, [49]⟩, ⟨some 51, .mov (.t 4), some (50, true), [4]⟩, ⟨some 52, .pick (.t 50) (.t 51) (.c (.bool false)), none, [50, 51]⟩, ⟨some 53, .mov (.t 52), none, [52]⟩, ⟨some 54, .mov (.t 5), some (53, true), [5]⟩, ⟨some 55, .bin false .eql (.t 54) (.c (.int .i64 0)), some (53, true), [54]⟩, ⟨some 56, .pick (.t 53) (.t 55) (.c (.bool false)), none, [53, 55]⟩, ⟨some 57, .mov (.t 56), none, [56]⟩, ⟨some 58, .fad 2 (.t 1), some (57, true), []⟩, ⟨some 59, .iaa 16 1 (.t 58) (.c (.int .i64 0)), some (57, true), [58]⟩, ⟨some 60, .ld false 1 (.t 59), some (57, true), [59]⟩, ⟨some 61, .bin false .eql (.t 60) (.c (.int .u16 1)), some (57, true), [60]⟩, ⟨some 62, .pick (.t 57) (.t 61) (.c (.bool false)), none, [57, 61]⟩, ⟨some 63, .mov (.t 62), none, [62]⟩, ⟨some 64, .fad 18 (.t 1), some (63, true), []⟩, ⟨some 65, .ld false 1 (.t 64), some (63, true), [64]⟩, ⟨some 66, .len false (.t 65), some (63, true), [65]⟩, ⟨some 67, .bin false .eql (.t 66) (.c (.int .i64 0)), some (63, true), [66]⟩, ⟨some 68, .pick (.t 63) (.t 67) (.c (.bool false)), none, [63, 67]⟩, ⟨some 69, .mov (.t 68), none, [68]⟩, ⟨some 70, .mov (.t 10), some (69, true), [10]⟩, ⟨some 71, .bin false .eql (.t 70) (.c (.int .i64 7)), some (69, true), [70]⟩, ⟨some 72, .pick (.t 69) (.t 71) (.c (.bool false)), none, [69, 71]⟩, ⟨some 73, .mov (.t 72), none, [72]⟩, ⟨some 74, .mov (.t 15), some (73, true), [15]⟩, ⟨some 75, .bin false .eql (.t 74) (.c (.int .i64 6)), some (73, true), [74]⟩, ⟨some 76, .pick (.t 73) (.t 75) (.c (.bool false)), none, [73, 75]⟩, ⟨some 77, .mov (.t 76), none, [76]⟩, ⟨some 78, .ld true 19 (.t 1), some (77, true), [1]⟩, ⟨some 79, .call 15 [.t 78], some (77, true), [78]⟩, ⟨some 80, .pick (.t 77) (.t 79) (.c (.bool false)), none, [77, 79]⟩, ⟨some 0, .mov (.t 80), none, [80]⟩])
    .ret))))))))
def rs_10 : List ARes := [.tmp 0]
theorem g_10 : Good Try.prog 10 ac_10 rs_10 := ⟨Try.f10, Try.f10.body.getD .skip, by kernel_rfl, by kernel_rfl, by kernel_rfl, ⟨by kernel_rfl, by kernel_rfl⟩, by kernel_rfl, by kernel_rfl⟩
theorem ok_10 {Γ : Env} (hΓ : EnvOk Try.prog Γ) (sp : Spec) (h : WB Γ ac_10 rs_10 sp) : CallOk Try.prog 10 sp := g_10.ok hΓ mix_ok sp h

/-- chantry/chantrylaw08.few -/
def ac_11 : ACode :=
 (.seq
  (.region false [] [⟨some 1, .box (.t 0), none, [0]⟩, ⟨some 2, .mov (.c (.bool false)), none, []⟩])
 (.seal_ 1
  (.seq
   (.seq
    (.region false [] [⟨some 5, .fad 18 (.t 1), none, []⟩, ⟨some 6, .ld false 1 (.t 5), none, [5]⟩, ⟨some 7, .len false (.t 6), none, []⟩, ⟨some 8, .mov (.c (.int .i64 0)), none, []⟩])
   (.block 0
    (.loop [1, 6, 7, 8]
     (.seq
      (.region false [] [⟨some 9, .bin false .lss (.t 8) (.t 7), none, []⟩])
     (.seq
      (.cond (.t 9)
        (.drop [9]
         .skip)
        (.drop [6, 7, 8, 9]
         (.exit 0)))
     (.seq
      (.block 1
       (.seq
        (.region false [] [⟨some 10, .iax 7 (.t 6) (.t 8), none, []⟩, ⟨some 11, .ld true 7 (.t 10), none, [10]⟩, ⟨some 4, .alloc [.int .u8 0, .int .i64 0, .bool false, .bool false, .bool false, .slice none 0 0, .slice none 0 0], none, []⟩, ⟨none, .st 7 (.t 4) (.t 11), none, [11]⟩])
       (.seal_ 4
        (.seq
         (.region false [] [⟨some 12, .fad 2 (.t 4), none, []⟩, ⟨some 13, .fad 3 (.t 12), none, [12]⟩, ⟨some 14, .ld false 1 (.t 13), none, [13]⟩, ⟨some 15, .len false (.t 14), none, [14]⟩, ⟨some 16, .bin false .gtr (.t 15) (.c (.int .i64 20)), none, [15]⟩, ⟨some 17, .mov (.t 16), none, [16]⟩, ⟨some 18, .fad 2 (.t 4), some (17, false), [4]⟩, ⟨some 19, .fad 4 (.t 18), some (17, false), [18]⟩, ⟨some 20, .ld false 1 (.t 19), some (17, false), [19]⟩, ⟨some 21, .len false (.t 20), some (17, false), [20]⟩, ⟨some 22, .bin false .gtr (.t 21) (.c (.int .i64 20)), some (17, false), [21]⟩, ⟨some 23, .pick (.t 17) (.c (.bool true)) (.t 22), none, [17, 22]⟩])
        (.cond (.t 23)
          (.drop [1, 6, 7, 8, 23]
           (.seq
            (.region false [] [⟨some 2, .mov (.c (.bool false)), none, []⟩])
           .ret))
          (.drop [23]
           .skip))))))
     (.region false [] [⟨some 24, .bin false .add (.t 8) (.c (.int .i64 1)), none, [8]⟩, ⟨some 8, .mov (.t 24), none, [24]⟩])))))))
  (.seq
   (.region false [] [⟨some 25, .fad 18 (.t 1), none, [1]⟩, ⟨some 26, .ld false 1 (.t 25), none, [25]⟩, ⟨some 27, .len false (.t 26), none, [26]⟩, ⟨some 28, .bin false .leq (.t 27) (.c (.int .i64 40)), none, [27]⟩, ⟨some 2, .mov (.t 28), none, [28]⟩])
  .ret))))
def rs_11 : List ARes := [.tmp 2]
theorem g_11 : Good Try.prog 11 ac_11 rs_11 := ⟨Try.f11, Try.f11.body.getD .skip, by kernel_rfl, by kernel_rfl, by kernel_rfl, ⟨by kernel_rfl, by kernel_rfl⟩, by kernel_rfl, by kernel_rfl⟩
theorem ok_11 {Γ : Env} (hΓ : EnvOk Try.prog Γ) (sp : Spec) (h : WB Γ ac_11 rs_11 sp) : CallOk Try.prog 11 sp := g_11.ok hΓ mix_ok sp h

/-- chantry/chantrylaw08.Theirs -/
def ac_13 : ACode :=
 (.seq
  (.region false [] [⟨some 1, .box (.t 0), none, [0]⟩, ⟨some 2, .alloc [.int .i64 0, .int .u16 0, .int .u16 0, .int .u16 0, .int .u16 0, .int .u16 0, .int .u16 0, .int .u16 0, .int .u16 0, .int .u16 0, .int .u16 0, .int .u16 0, .int .u16 0, .int .u16 0, .int .u16 0, .int .u16 0, .int .u16 0, .int .u16 0, .slice none 0 0], none, []⟩])
 (.seal_ 1
  (.seq
   (.region false [] [⟨some 6, .fad 0 (.t 1), none, []⟩, ⟨some 7, .ld false 1 (.t 6), none, [6]⟩, ⟨some 8, .fad 1 (.t 1), none, []⟩, ⟨some 9, .ld false 1 (.t 8), none, [8]⟩, ⟨some 10, .fad 2 (.t 1), none, []⟩, ⟨some 11, .ld true 16 (.t 10), none, [10]⟩, ⟨some 12, .bld [.int .i64 0, .int .u16 0, .int .u16 0, .int .u16 0, .int .u16 0, .int .u16 0, .int .u16 0, .int .u16 0, .int .u16 0, .int .u16 0, .int .u16 0, .int .u16 0, .int .u16 0, .int .u16 0, .int .u16 0, .int .u16 0, .int .u16 0, .int .u16 0, .slice none 0 0] [(0, 1, .t 7), (1, 1, .t 9), (2, 16, .t 11)], none, [7, 9, 11]⟩, ⟨some 3, .alloc [.int .i64 0, .int .u16 0, .int .u16 0, .int .u16 0, .int .u16 0, .int .u16 0, .int .u16 0, .int .u16 0, .int .u16 0, .int .u16 0, .int .u16 0, .int .u16 0, .int .u16 0, .int .u16 0, .int .u16 0, .int .u16 0, .int .u16 0, .int .u16 0, .slice none 0 0], none, []⟩, ⟨none, .st 19 (.t 3) (.t 12), none, [12]⟩])
  (.seq
   (.seq
    (.region false [] [⟨some 13, .fad 18 (.t 1), none, [1]⟩, ⟨some 14, .ld false 1 (.t 13), none, [13]⟩, ⟨some 15, .len false (.t 14), none, []⟩, ⟨some 16, .mov (.c (.int .i64 0)), none, []⟩])
   (.block 0
    (.loop [2, 3, 14, 15, 16]
     (.seq
      (.region false [] [⟨some 17, .bin false .lss (.t 16) (.t 15), none, []⟩])
     (.seq
      (.cond (.t 17)
        (.drop [17]
         .skip)
        (.drop [14, 15, 16, 17]
         (.exit 0)))
     (.seq
      (.block 1
       (.seq
        (.region false [] [⟨some 18, .iax 7 (.t 14) (.t 16), none, []⟩, ⟨some 19, .ld true 7 (.t 18), none, [18]⟩, ⟨some 5, .alloc [.int .u8 0, .int .i64 0, .bool false, .bool false, .bool false, .slice none 0 0, .slice none 0 0], none, []⟩, ⟨none, .st 7 (.t 5) (.t 19), none, [19]⟩])
       (.seal_ 5
        (.draws (.tak 0 ⟨some 20, .fad 18 (.t 3), none, []⟩ (.tak 2 ⟨some 22, .fad 0 (.t 5), none, []⟩ (.tak 3 ⟨some 23, .ld false 1 (.t 22), none, []⟩ (.tak 4 ⟨some 24, .fad 1 (.t 5), none, []⟩ (.tak 5 ⟨some 25, .ld false 1 (.t 24), none, []⟩ (.tak 6 ⟨some 26, .fad 2 (.t 5), none, []⟩ (.tak 7 ⟨some 27, .ld true 5 (.t 26), none, []⟩ (.alt 1 ⟨some 21, .ld false 1 (.t 20), none, []⟩ (.alt 8 ⟨some 28, .call 28 [.t 27], none, []⟩ (.tak 9 ⟨some 29, .bld [.int .u8 0, .int .i64 0, .bool false, .bool false, .bool false, .slice none 0 0, .slice none 0 0] [(0, 1, .t 23), (1, 1, .t 25), (2, 5, .t 28)], none, []⟩ (.alt 10 ⟨some 30, .bsl 60 7 [.t 29], none, []⟩ (.alt 11 ⟨some 31, .app 60 7 72 (.t 21) (.t 30), none, []⟩ (.tak 12 ⟨some 32, .fad 18 (.t 3), none, []⟩ (.alt 13 ⟨none, .st 1 (.t 32) (.t 31), none, []⟩ .done .stop)) .stop) .stop)) .stop) (.alt 8 ⟨some 28, .call 28 [.t 27], none, []⟩ (.tak 9 ⟨some 29, .bld [.int .u8 0, .int .i64 0, .bool false, .bool false, .bool false, .slice none 0 0, .slice none 0 0] [(0, 1, .t 23), (1, 1, .t 25), (2, 5, .t 28)], none, []⟩ (.alt 1 ⟨some 21, .ld false 1 (.t 20), none, []⟩ (.alt 10 ⟨some 30, .bsl 60 7 [.t 29], none, []⟩ (.alt 11 ⟨some 31, .app 60 7 72 (.t 21) (.t 30), none, []⟩ (.tak 12 ⟨some 32, .fad 18 (.t 3), none, []⟩ (.alt 13 ⟨none, .st 1 (.t 32) (.t 31), none, []⟩ .done .stop)) .stop) .stop) (.alt 10 ⟨some 30, .bsl 60 7 [.t 29], none, []⟩ (.alt 1 ⟨some 21, .ld false 1 (.t 20), none, []⟩ (.alt 11 ⟨some 31, .app 60 7 72 (.t 21) (.t 30), none, []⟩ (.tak 12 ⟨some 32, .fad 18 (.t 3), none, []⟩ (.alt 13 ⟨none, .st 1 (.t 32) (.t 31), none, []⟩ .done .stop)) .stop) .stop) .stop))) .stop))))))))) [[], [0], [], [2], [], [4], [], [6], [7], [3, 5, 8], [9], [1, 10, 8], [0, 1, 2, 3, 4, 5, 6, 7, 8, 9, 10, 11], [12, 11, 11, 0, 1, 2, 3, 4, 5, 6, 7, 8, 9, 10, 11]] [⟨some 20, .fad 18 (.t 3), none, []⟩, ⟨some 21, .ld false 1 (.t 20), none, []⟩, ⟨some 22, .fad 0 (.t 5), none, []⟩, ⟨some 23, .ld false 1 (.t 22), none, []⟩, ⟨some 24, .fad 1 (.t 5), none, []⟩, ⟨some 25, .ld false 1 (.t 24), none, []⟩, ⟨some 26, .fad 2 (.t 5), none, []⟩, ⟨some 27, .ld true 5 (.t 26), none, []⟩, ⟨some 28, .call 28 [.t 27], none, []⟩, ⟨some 29, .bld [.int .u8 0, .int .i64 0, .bool false, .bool false, .bool false, .slice none 0 0, .slice none 0 0] [(0, 1, .t 23), (1, 1, .t 25), (2, 5, .t 28)], none, []⟩, ⟨some 30, .bsl 60 7 [.t 29], none, []⟩, ⟨some 31, .app 60 7 72 (.t 21) (.t 30), none, []⟩, ⟨some 32, .fad 18 (.t 3), none, []⟩, ⟨none, .st 1 (.t 32) (.t 31), none, []⟩]))))
     (.region false [] [⟨some 33, .bin false .add (.t 16) (.c (.int .i64 1)), none, [16]⟩, ⟨some 16, .mov (.t 33), none, [33]⟩])))))))
  (.seq
   (.region false [] [⟨some 34, .ld true 19 (.t 3), none, [3]⟩, ⟨none, .st 19 (.t 2) (.t 34), none, [34]⟩])
  .ret)))))
def rs_13 : List ARes := [.cell 2 true 19]
theorem g_13 : Good Try.prog 13 ac_13 rs_13 := ⟨Try.f13, Try.f13.body.getD .skip, by kernel_rfl, by kernel_rfl, by kernel_rfl, ⟨by kernel_rfl, by kernel_rfl⟩, by kernel_rfl, by kernel_rfl⟩
theorem ok_13 {Γ : Env} (hΓ : EnvOk Try.prog Γ) (sp : Spec) (h : WB Γ ac_13 rs_13 sp) : CallOk Try.prog 13 sp := g_13.ok hΓ mix_ok sp h

/-- chantry/chantrylaw08.Ours -/
def ac_18 : ACode :=
 (.seq
  (.region false [] [⟨some 1, .box (.t 0), none, [0]⟩, ⟨some 2, .alloc [.int .i64 0, .int .u16 0, .int .u16 0, .int .u16 0, .int .u16 0, .int .u16 0, .int .u16 0, .int .u16 0, .int .u16 0, .int .u16 0, .int .u16 0, .int .u16 0, .int .u16 0, .int .u16 0, .int .u16 0, .int .u16 0, .int .u16 0, .int .u16 0, .slice none 0 0], none, []⟩])
 (.seal_ 1
  (.seq
   (.region false [] [⟨some 6, .fad 0 (.t 1), none, []⟩, ⟨some 7, .ld false 1 (.t 6), none, [6]⟩, ⟨some 8, .fad 1 (.t 1), none, []⟩, ⟨some 9, .ld false 1 (.t 8), none, [8]⟩, ⟨some 10, .fad 2 (.t 1), none, []⟩, ⟨some 11, .ld true 16 (.t 10), none, [10]⟩, ⟨some 12, .bld [.int .i64 0, .int .u16 0, .int .u16 0, .int .u16 0, .int .u16 0, .int .u16 0, .int .u16 0, .int .u16 0, .int .u16 0, .int .u16 0, .int .u16 0, .int .u16 0, .int .u16 0, .int .u16 0, .int .u16 0, .int .u16 0, .int .u16 0, .int .u16 0, .slice none 0 0] [(0, 1, .t 7), (1, 1, .t 9), (2, 16, .t 11)], none, [7, 9, 11]⟩, ⟨some 3, .alloc [.int .i64 0, .int .u16 0, .int .u16 0, .int .u16 0, .int .u16 0, .int .u16 0, .int .u16 0, .int .u16 0, .int .u16 0, .int .u16 0, .int .u16 0, .int .u16 0, .int .u16 0, .int .u16 0, .int .u16 0, .int .u16 0, .int .u16 0, .int .u16 0, .slice none 0 0], none, []⟩, ⟨none, .st 19 (.t 3) (.t 12), none, [12]⟩])
  (.seq
   (.seq
    (.region false [] [⟨some 13, .fad 18 (.t 1), none, [1]⟩, ⟨some 14, .ld false 1 (.t 13), none, [13]⟩, ⟨some 15, .len false (.t 14), none, []⟩, ⟨some 16, .mov (.c (.int .i64 0)), none, []⟩])
   (.block 0
    (.loop [2, 3, 14, 15, 16]
     (.seq
      (.region false [] [⟨some 17, .bin false .lss (.t 16) (.t 15), none, []⟩])
     (.seq
      (.cond (.t 17)
        (.drop [17]
         .skip)
        (.drop [14, 15, 16, 17]
         (.exit 0)))
     (.seq
      (.block 1
       (.seq
        (.region false [] [⟨some 18, .iax 7 (.t 14) (.t 16), none, []⟩, ⟨some 19, .ld true 7 (.t 18), none, [18]⟩, ⟨some 5, .alloc [.int .u8 0, .int .i64 0, .bool false, .bool false, .bool false, .slice none 0 0, .slice none 0 0], none, []⟩, ⟨none, .st 7 (.t 5) (.t 19), none, [19]⟩])
       (.seal_ 5
        (.draws (.tak 0 ⟨some 20, .fad 18 (.t 3), none, []⟩ (.tak 2 ⟨some 22, .fad 0 (.t 5), none, []⟩ (.tak 3 ⟨some 23, .ld false 1 (.t 22), none, []⟩ (.tak 4 ⟨some 24, .fad 1 (.t 5), none, []⟩ (.tak 5 ⟨some 25, .ld false 1 (.t 24), none, []⟩ (.tak 6 ⟨some 26, .fad 2 (.t 5), none, []⟩ (.tak 7 ⟨some 27, .ld true 5 (.t 26), none, []⟩ (.alt 1 ⟨some 21, .ld false 1 (.t 20), none, []⟩ (.alt 8 ⟨some 28, .call 38 [.t 27], none, []⟩ (.tak 9 ⟨some 29, .bld [.int .u8 0, .int .i64 0, .bool false, .bool false, .bool false, .slice none 0 0, .slice none 0 0] [(0, 1, .t 23), (1, 1, .t 25), (2, 5, .t 28)], none, []⟩ (.alt 10 ⟨some 30, .bsl 66 7 [.t 29], none, []⟩ (.alt 11 ⟨some 31, .app 66 7 72 (.t 21) (.t 30), none, []⟩ (.tak 12 ⟨some 32, .fad 18 (.t 3), none, []⟩ (.alt 13 ⟨none, .st 1 (.t 32) (.t 31), none, []⟩ .done .stop)) .stop) .stop)) .stop) (.alt 8 ⟨some 28, .call 38 [.t 27], none, []⟩ (.tak 9 ⟨some 29, .bld [.int .u8 0, .int .i64 0, .bool false, .bool false, .bool false, .slice none 0 0, .slice none 0 0] [(0, 1, .t 23), (1, 1, .t 25), (2, 5, .t 28)], none, []⟩ (.alt 1 ⟨some 21, .ld false 1 (.t 20), none, []⟩ (.alt 10 ⟨some 30, .bsl 66 7 [.t 29], none, []⟩ (.alt 11 ⟨some 31, .app 66 7 72 (.t 21) (.t 30), none, []⟩ (.tak 12 ⟨some 32, .fad 18 (.t 3), none, []⟩ (.alt 13 ⟨none, .st 1 (.t 32) (.t 31), none, []⟩ .done .stop)) .stop) .stop) (.alt 10 ⟨some 30, .bsl 66 7 [.t 29], none, []⟩ (.alt 1 ⟨some 21, .ld false 1 (.t 20), none, []⟩ (.alt 11 ⟨some 31, .app 66 7 72 (.t 21) (.t 30), none, []⟩ (.tak 12 ⟨some 32, .fad 18 (.t 3), none, []⟩ (.alt 13 ⟨none, .st 1 (.t 32) (.t 31), none, []⟩ .done .stop)) .stop) .stop) .stop))) .stop))))))))) [[], [0], [], [2], [], [4], [], [6], [7], [3, 5, 8], [9], [1, 10, 8], [0, 1, 2, 3, 4, 5, 6, 7, 8, 9, 10, 11], [12, 11, 11, 0, 1, 2, 3, 4, 5, 6, 7, 8, 9, 10, 11]] [⟨some 20, .fad 18 (.t 3), none, []⟩, ⟨some 21, .ld false 1 (.t 20), none, []⟩, ⟨some 22, .fad 0 (.t 5), none, []⟩, ⟨some 23, .ld false 1 (.t 22), none, []⟩, ⟨some 24, .fad 1 (.t 5), none, []⟩, ⟨some 25, .ld false 1 (.t 24), none, []⟩, ⟨some 26, .fad 2 (.t 5), none, []⟩, ⟨some 27, .ld true 5 (.t 26), none, []⟩, ⟨some 28, .call 38 [.t 27], none, []⟩, ⟨some 29, .bld [.int .u8 0, .int .i64 0, .bool false, .bool false, .bool false, .slice none 0 0, .slice none 0 0] [(0, 1, .t 23), (1, 1, .t 25), (2, 5, .t 28)], none, []⟩, ⟨some 30, .bsl 66 7 [.t 29], none, []⟩, ⟨some 31, .app 66 7 72 (.t 21) (.t 30), none, []⟩, ⟨some 32, .fad 18 (.t 3), none, []⟩, ⟨none, .st 1 (.t 32) (.t 31), none, []⟩]))))
     (.region false [] [⟨some 33, .bin false .add (.t 16) (.c (.int .i64 1)), none, [16]⟩, ⟨some 16, .mov (.t 33), none, [33]⟩])))))))
  (.seq
   (.region false [] [⟨some 34, .ld true 19 (.t 3), none, [3]⟩, ⟨none, .st 19 (.t 2) (.t 34), none, [34]⟩])
  .ret)))))
def rs_18 : List ARes := [.cell 2 true 19]
theorem g_18 : Good Try.prog 18 ac_18 rs_18 := ⟨Try.f18, Try.f18.body.getD .skip, by kernel_rfl, by kernel_rfl, by kernel_rfl, ⟨by kernel_rfl, by kernel_rfl⟩, by kernel_rfl, by kernel_rfl⟩
theorem ok_18 {Γ : Env} (hΓ : EnvOk Try.prog Γ) (sp : Spec) (h : WB Γ ac_18 rs_18 sp) : CallOk Try.prog 18 sp := g_18.ok hΓ mix_ok sp h

/-- chantry/chantrylaw08.outs -/
def ac_19 : ACode :=
 (.seq
  (.region false [] [⟨some 4, .mov (.c (.bool false)), none, []⟩])
 (.seq
  (.seq
   (.region false [] [⟨some 7, .mov (.t 0), none, []⟩, ⟨some 8, .len false (.t 7), none, [7]⟩, ⟨some 9, .mov (.t 1), none, []⟩, ⟨some 10, .len false (.t 9), none, [9]⟩, ⟨some 11, .bin false .neq (.t 8) (.t 10), none, [8, 10]⟩])
  (.cond (.t 11)
    (.drop [0, 1, 11]
     (.seq
      (.region false [] [⟨some 4, .mov (.c (.bool false)), none, []⟩])
     .ret))
    (.drop [11]
     .skip)))
 (.seq
  (.seq
   (.region false [] [⟨some 12, .mov (.t 0), none, [0]⟩, ⟨some 13, .len false (.t 12), none, []⟩, ⟨some 14, .mov (.c (.int .i64 0)), none, []⟩])
  (.block 0
   (.loop [1, 12, 13, 14]
    (.seq
     (.region false [] [⟨some 15, .bin false .lss (.t 14) (.t 13), none, []⟩])
    (.seq
     (.cond (.t 15)
       (.drop [15]
        .skip)
       (.drop [1, 12, 13, 14, 15]
        (.exit 0)))
    (.seq
     (.block 1
      (.seq
       (.region false [] [⟨some 16, .mov (.t 14), none, []⟩, ⟨some 17, .iax 2 (.t 12) (.t 14), none, []⟩, ⟨some 18, .ld true 2 (.t 17), none, [17]⟩, ⟨some 6, .alloc [.int .i64 0, .string ⟨#[]⟩], none, []⟩, ⟨some 5, .mov (.t 16), none, [16]⟩, ⟨none, .st 2 (.t 6) (.t 18), none, [18]⟩])
      (.seal_ 6
       (.seq
        (.draws (.tak 0 ⟨some 19, .ld true 2 (.t 6), none, []⟩ (.tak 1 ⟨some 20, .mov (.t 1), none, []⟩ (.tak 2 ⟨some 21, .mov (.t 5), none, []⟩ (.tak 3 ⟨some 22, .iax 2 (.t 20) (.t 21), none, []⟩ (.tak 4 ⟨some 23, .ld true 2 (.t 22), none, []⟩ (.tak 5 ⟨some 24, .eqs true [.i, .s] (.t 19) (.t 23), none, []⟩ .done)))))) [[], [], [], [1, 2], [3], [0, 4]] [⟨some 19, .ld true 2 (.t 6), none, []⟩, ⟨some 20, .mov (.t 1), none, []⟩, ⟨some 21, .mov (.t 5), none, []⟩, ⟨some 22, .iax 2 (.t 20) (.t 21), none, []⟩, ⟨some 23, .ld true 2 (.t 22), none, []⟩, ⟨some 24, .eqs true [.i, .s] (.t 19) (.t 23), none, []⟩])
       (.drop [5, 6, 19, 20, 21, 22, 23]
        (.cond (.t 24)
          (.drop [1, 12, 13, 14, 24]
           (.seq
            (.region false [] [⟨some 4, .mov (.c (.bool false)), none, []⟩])
           .ret))
          (.drop [24]
           .skip)))))))
    (.region false [] [⟨some 25, .bin false .add (.t 14) (.c (.int .i64 1)), none, [14]⟩, ⟨some 14, .mov (.t 25), none, [25]⟩])))))))
 (.seq
  (.region false [] [⟨some 4, .mov (.c (.bool true)), none, []⟩])
 .ret))))
def rs_19 : List ARes := [.tmp 4]
theorem g_19 : Good Try.prog 19 ac_19 rs_19 := ⟨Try.f19, Try.f19.body.getD .skip, by kernel_rfl, by kernel_rfl, by kernel_rfl, ⟨by kernel_rfl, by kernel_rfl⟩, by kernel_rfl, by kernel_rfl⟩
theorem ok_19 {Γ : Env} (hΓ : EnvOk Try.prog Γ) (sp : Spec) (h : WB Γ ac_19 rs_19 sp) : CallOk Try.prog 19 sp := g_19.ok hΓ mix_ok sp h

/-- chantry/chantrylaw08.told -/
def ac_20 : ACode :=
 (.seq
  (.region false [] [⟨some 3, .box (.t 1), none, [1]⟩, ⟨some 4, .mov (.c (.bool false)), none, []⟩])
 (.seal_ 3
  (.seq
   (.seq
    (.region false [] [⟨some 7, .mov (.t 0), none, [0]⟩, ⟨some 8, .len false (.t 7), none, []⟩, ⟨some 9, .mov (.c (.int .i64 0)), none, []⟩])
   (.block 0
    (.loop [3, 7, 8, 9]
     (.seq
      (.region false [] [⟨some 10, .bin false .lss (.t 9) (.t 8), none, []⟩])
     (.seq
      (.cond (.t 10)
        (.drop [10]
         .skip)
        (.drop [3, 7, 8, 9, 10]
         (.exit 0)))
     (.seq
      (.block 1
       (.seq
        (.region false [] [⟨some 11, .iax 3 (.t 7) (.t 9), none, []⟩, ⟨some 12, .ld true 3 (.t 11), none, [11]⟩, ⟨some 6, .alloc [.int .i64 0, .int .u8 0, .int .i64 0], none, []⟩, ⟨none, .st 3 (.t 6) (.t 12), none, [12]⟩])
       (.seal_ 6
        (.seq
         (.region false [] [⟨some 13, .ld true 3 (.t 6), none, [6]⟩, ⟨some 14, .ld true 3 (.t 3), none, []⟩, ⟨some 15, .eqs false [.i, .i, .i] (.t 13) (.t 14), none, [13, 14]⟩])
        (.cond (.t 15)
          (.drop [3, 7, 8, 9, 15]
           (.seq
            (.region false [] [⟨some 4, .mov (.c (.bool true)), none, []⟩])
           .ret))
          (.drop [15]
           .skip))))))
     (.region false [] [⟨some 16, .bin false .add (.t 9) (.c (.int .i64 1)), none, [9]⟩, ⟨some 9, .mov (.t 16), none, [16]⟩])))))))
  (.seq
   (.region false [] [⟨some 4, .mov (.c (.bool false)), none, []⟩])
  .ret))))
def rs_20 : List ARes := [.tmp 4]
theorem g_20 : Good Try.prog 20 ac_20 rs_20 := ⟨Try.f20, Try.f20.body.getD .skip, by kernel_rfl, by kernel_rfl, by kernel_rfl, ⟨by kernel_rfl, by kernel_rfl⟩, by kernel_rfl, by kernel_rfl⟩
theorem ok_20 {Γ : Env} (hΓ : EnvOk Try.prog Γ) (sp : Spec) (h : WB Γ ac_20 rs_20 sp) : CallOk Try.prog 20 sp := g_20.ok hΓ mix_ok sp h

/-- chantry/chantrylaw07.Theirs -/
def ac_28 : ACode :=
 (.seq
  (.region false [] [⟨some 1, .box (.t 0), none, [0]⟩, ⟨some 2, .alloc [.bool false, .bool false, .bool false, .slice none 0 0, .slice none 0 0], none, []⟩])
 (.seal_ 1
  (.seq
   (.region false [] [⟨some 8, .fad 0 (.t 1), none, []⟩, ⟨some 9, .ld false 1 (.t 8), none, [8]⟩, ⟨some 10, .fad 1 (.t 1), none, []⟩, ⟨some 11, .ld false 1 (.t 10), none, [10]⟩, ⟨some 12, .fad 2 (.t 1), none, []⟩, ⟨some 13, .ld false 1 (.t 12), none, [12]⟩, ⟨some 14, .bld [.bool false, .bool false, .bool false, .slice none 0 0, .slice none 0 0] [(0, 1, .t 9), (1, 1, .t 11), (2, 1, .t 13)], none, [9, 11, 13]⟩, ⟨some 3, .alloc [.bool false, .bool false, .bool false, .slice none 0 0, .slice none 0 0], none, []⟩, ⟨none, .st 5 (.t 3) (.t 14), none, [14]⟩])
  (.seq
   (.seq
    (.region false [] [⟨some 15, .fad 3 (.t 1), none, []⟩, ⟨some 16, .ld false 1 (.t 15), none, [15]⟩, ⟨some 17, .len false (.t 16), none, []⟩, ⟨some 18, .mov (.c (.int .i64 0)), none, []⟩])
   (.block 0
    (.loop [1, 2, 3, 16, 17, 18]
     (.seq
      (.region false [] [⟨some 19, .bin false .lss (.t 18) (.t 17), none, []⟩])
     (.seq
      (.cond (.t 19)
        (.drop [19]
         .skip)
        (.drop [16, 17, 18, 19]
         (.exit 0)))
     (.seq
      (.block 1
       (.seq
        (.region false [] [⟨some 20, .iax 2 (.t 16) (.t 18), none, []⟩, ⟨some 21, .ld true 2 (.t 20), none, [20]⟩, ⟨some 5, .alloc [.string ⟨#[]⟩, .int .u16 0], none, []⟩, ⟨none, .st 2 (.t 5) (.t 21), none, [21]⟩])
       (.seal_ 5
        (.region false [] [⟨some 22, .fad 3 (.t 3), none, []⟩, ⟨some 23, .ld false 1 (.t 22), none, [22]⟩, ⟨some 24, .ld true 2 (.t 5), none, [5]⟩, ⟨some 25, .bsl 107 2 [.t 24], none, [24]⟩, ⟨some 26, .app 107 2 24 (.t 23) (.t 25), none, [23, 25]⟩, ⟨some 27, .fad 3 (.t 3), none, []⟩, ⟨none, .st 1 (.t 27) (.t 26), none, [26, 27]⟩]))))
     (.region false [] [⟨some 28, .bin false .add (.t 18) (.c (.int .i64 1)), none, [18]⟩, ⟨some 18, .mov (.t 28), none, [28]⟩])))))))
  (.seq
   (.seq
    (.region false [] [⟨some 29, .fad 4 (.t 1), none, [1]⟩, ⟨some 30, .ld false 1 (.t 29), none, [29]⟩, ⟨some 31, .len false (.t 30), none, []⟩, ⟨some 32, .mov (.c (.int .i64 0)), none, []⟩])
   (.block 2
    (.loop [2, 3, 30, 31, 32]
     (.seq
      (.region false [] [⟨some 33, .bin false .lss (.t 32) (.t 31), none, []⟩])
     (.seq
      (.cond (.t 33)
        (.drop [33]
         .skip)
        (.drop [30, 31, 32, 33]
         (.exit 2)))
     (.seq
      (.block 3
       (.seq
        (.region false [] [⟨some 34, .iax 2 (.t 30) (.t 32), none, []⟩, ⟨some 35, .ld true 2 (.t 34), none, [34]⟩, ⟨some 7, .alloc [.string ⟨#[]⟩, .int .u16 0], none, []⟩, ⟨none, .st 2 (.t 7) (.t 35), none, [35]⟩])
       (.seal_ 7
        (.region false [] [⟨some 36, .fad 4 (.t 3), none, []⟩, ⟨some 37, .ld false 1 (.t 36), none, [36]⟩, ⟨some 38, .ld true 2 (.t 7), none, [7]⟩, ⟨some 39, .bsl 107 2 [.t 38], none, [38]⟩, ⟨some 40, .app 107 2 24 (.t 37) (.t 39), none, [37, 39]⟩, ⟨some 41, .fad 4 (.t 3), none, []⟩, ⟨none, .st 1 (.t 41) (.t 40), none, [40, 41]⟩]))))
     (.region false [] [⟨some 42, .bin false .add (.t 32) (.c (.int .i64 1)), none, [32]⟩, ⟨some 32, .mov (.t 42), none, [42]⟩])))))))
  (.seq
   (.region false [] [⟨some 43, .ld true 5 (.t 3), none, [3]⟩, ⟨none, .st 5 (.t 2) (.t 43), none, [43]⟩])
  .ret))))))
def rs_28 : List ARes := [.cell 2 true 5]
theorem g_28 : Good Try.prog 28 ac_28 rs_28 := ⟨Try.f28, Try.f28.body.getD .skip, by kernel_rfl, by kernel_rfl, by kernel_rfl, ⟨by kernel_rfl, by kernel_rfl⟩, by kernel_rfl, by kernel_rfl⟩
theorem ok_28 {Γ : Env} (hΓ : EnvOk Try.prog Γ) (sp : Spec) (h : WB Γ ac_28 rs_28 sp) : CallOk Try.prog 28 sp := g_28.ok hΓ mix_ok sp h

/-- chantry/chantrylaw07.Ours -/
def ac_38 : ACode :=
 (.seq
  (.region false [] [⟨some 1, .box (.t 0), none, [0]⟩, ⟨some 2, .alloc [.bool false, .bool false, .bool false, .slice none 0 0, .slice none 0 0], none, []⟩])
 (.seal_ 1
  (.seq
   (.region false [] [⟨some 8, .fad 0 (.t 1), none, []⟩, ⟨some 9, .ld false 1 (.t 8), none, [8]⟩, ⟨some 10, .fad 1 (.t 1), none, []⟩, ⟨some 11, .ld false 1 (.t 10), none, [10]⟩, ⟨some 12, .fad 2 (.t 1), none, []⟩, ⟨some 13, .ld false 1 (.t 12), none, [12]⟩, ⟨some 14, .bld [.bool false, .bool false, .bool false, .slice none 0 0, .slice none 0 0] [(0, 1, .t 9), (1, 1, .t 11), (2, 1, .t 13)], none, [9, 11, 13]⟩, ⟨some 3, .alloc [.bool false, .bool false, .bool false, .slice none 0 0, .slice none 0 0], none, []⟩, ⟨none, .st 5 (.t 3) (.t 14), none, [14]⟩])
  (.seq
   (.seq
    (.region false [] [⟨some 15, .fad 3 (.t 1), none, []⟩, ⟨some 16, .ld false 1 (.t 15), none, [15]⟩, ⟨some 17, .len false (.t 16), none, []⟩, ⟨some 18, .mov (.c (.int .i64 0)), none, []⟩])
   (.block 0
    (.loop [1, 2, 3, 16, 17, 18]
     (.seq
      (.region false [] [⟨some 19, .bin false .lss (.t 18) (.t 17), none, []⟩])
     (.seq
      (.cond (.t 19)
        (.drop [19]
         .skip)
        (.drop [16, 17, 18, 19]
         (.exit 0)))
     (.seq
      (.block 1
       (.seq
        (.region false [] [⟨some 20, .iax 2 (.t 16) (.t 18), none, []⟩, ⟨some 21, .ld true 2 (.t 20), none, [20]⟩, ⟨some 5, .alloc [.string ⟨#[]⟩, .int .u16 0], none, []⟩, ⟨none, .st 2 (.t 5) (.t 21), none, [21]⟩])
       (.seal_ 5
        (.region false [] [⟨some 22, .fad 3 (.t 3), none, []⟩, ⟨some 23, .ld false 1 (.t 22), none, [22]⟩, ⟨some 24, .ld true 2 (.t 5), none, [5]⟩, ⟨some 25, .bsl 116 2 [.t 24], none, [24]⟩, ⟨some 26, .app 116 2 24 (.t 23) (.t 25), none, [23, 25]⟩, ⟨some 27, .fad 3 (.t 3), none, []⟩, ⟨none, .st 1 (.t 27) (.t 26), none, [26, 27]⟩]))))
     (.region false [] [⟨some 28, .bin false .add (.t 18) (.c (.int .i64 1)), none, [18]⟩, ⟨some 18, .mov (.t 28), none, [28]⟩])))))))
  (.seq
   (.seq
    (.region false [] [⟨some 29, .fad 4 (.t 1), none, [1]⟩, ⟨some 30, .ld false 1 (.t 29), none, [29]⟩, ⟨some 31, .len false (.t 30), none, []⟩, ⟨some 32, .mov (.c (.int .i64 0)), none, []⟩])
   (.block 2
    (.loop [2, 3, 30, 31, 32]
     (.seq
      (.region false [] [⟨some 33, .bin false .lss (.t 32) (.t 31), none, []⟩])
     (.seq
      (.cond (.t 33)
        (.drop [33]
         .skip)
        (.drop [30, 31, 32, 33]
         (.exit 2)))
     (.seq
      (.block 3
       (.seq
        (.region false [] [⟨some 34, .iax 2 (.t 30) (.t 32), none, []⟩, ⟨some 35, .ld true 2 (.t 34), none, [34]⟩, ⟨some 7, .alloc [.string ⟨#[]⟩, .int .u16 0], none, []⟩, ⟨none, .st 2 (.t 7) (.t 35), none, [35]⟩])
       (.seal_ 7
        (.region false [] [⟨some 36, .fad 4 (.t 3), none, []⟩, ⟨some 37, .ld false 1 (.t 36), none, [36]⟩, ⟨some 38, .ld true 2 (.t 7), none, [7]⟩, ⟨some 39, .bsl 116 2 [.t 38], none, [38]⟩, ⟨some 40, .app 116 2 24 (.t 37) (.t 39), none, [37, 39]⟩, ⟨some 41, .fad 4 (.t 3), none, []⟩, ⟨none, .st 1 (.t 41) (.t 40), none, [40, 41]⟩]))))
     (.region false [] [⟨some 42, .bin false .add (.t 32) (.c (.int .i64 1)), none, [32]⟩, ⟨some 32, .mov (.t 42), none, [42]⟩])))))))
  (.seq
   (.region false [] [⟨some 43, .ld true 5 (.t 3), none, [3]⟩, ⟨none, .st 5 (.t 2) (.t 43), none, [43]⟩])
  .ret))))))
def rs_38 : List ARes := [.cell 2 true 5]
theorem g_38 : Good Try.prog 38 ac_38 rs_38 := ⟨Try.f38, Try.f38.body.getD .skip, by kernel_rfl, by kernel_rfl, by kernel_rfl, ⟨by kernel_rfl, by kernel_rfl⟩, by kernel_rfl, by kernel_rfl⟩
theorem ok_38 {Γ : Env} (hΓ : EnvOk Try.prog Γ) (sp : Spec) (h : WB Γ ac_38 rs_38 sp) : CallOk Try.prog 38 sp := g_38.ok hΓ mix_ok sp h

end Go.Proofs.Ytkbgndebfcjojaa.Am
