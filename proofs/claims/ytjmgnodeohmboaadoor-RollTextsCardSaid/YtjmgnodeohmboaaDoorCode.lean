/-
  THE FUNCTIONS' ABSTRACT CODE, as Lean's own reduction of compCode printed it, with notes (genac.py); each is held against the translation by the kernel.
-/
import Derived.Test.YtjmgnodeohmboaaDoorProg
import Derived.Test.YtjmgnodeohmboaaDoorAmJ
namespace Go.Proofs.YtjmgnodeohmboaaDoor.Am
set_option linter.unusedSimpArgs false
set_option linter.unusedVariables false
open Go Go.Proofs
set_option maxRecDepth 100000

theorem mix_ok : Tryd.prog.follows .mixedOrders = true := by kernel_rfl

/-- chantry/chantrylaw11.alive -/
def ac_9 : ACode :=
 (.seq
  (.region false [] [⟨some 0, .mov (.c (.bool false)), none, []⟩])
 (.seq
  (.region false [] [⟨some 8, .bld [.int .i64 0, .int .u16 0] [(1, 1, .c (.int .u16 3))], none, []⟩, ⟨some 9, .bld [.bool false, .int .u8 0] [(0, 1, .c (.bool true)), (1, 1, .c (.int .u8 3))], none, []⟩, ⟨some 10, .call 10 [.t 8, .t 9], none, [8, 9]⟩, ⟨some 7, .mov (.t 10), none, [10]⟩, ⟨some 11, .ext 0 (.t 7), none, []⟩, ⟨some 12, .ext 1 (.t 7), none, [7]⟩, ⟨some 1, .alloc [.int .i64 0, .int .u16 0], none, []⟩, ⟨none, .st 2 (.t 1) (.t 11), none, [11]⟩, ⟨some 2, .mov (.t 12), none, [12]⟩])
 (.seal_ 1
  (.seq
   (.region false [] [⟨some 14, .call 14 [.c (.string ⟨#[45, 49, 53]⟩)], none, []⟩, ⟨some 13, .mov (.t 14), none, [14]⟩, ⟨some 15, .ext 0 (.t 13), none, []⟩, ⟨some 16, .ext 1 (.t 13), none, [13]⟩, ⟨some 3, .alloc [.bool false, .int .u8 0], none, []⟩, ⟨none, .st 2 (.t 3) (.t 15), none, [15]⟩, ⟨some 4, .mov (.t 16), none, [16]⟩])
  (.seal_ 3
   (.seq
    (.region false [] [⟨some 18, .call 14 [.c (.string ⟨#[43, 48, 51]⟩)], none, []⟩, ⟨some 17, .mov (.t 18), none, [18]⟩, ⟨some 19, .ext 0 (.t 17), none, []⟩, ⟨some 20, .ext 1 (.t 17), none, [17]⟩, ⟨some 5, .alloc [.bool false, .int .u8 0], none, []⟩, ⟨none, .st 2 (.t 5) (.t 19), none, [5, 19]⟩, ⟨some 6, .mov (.t 20), none, [20]⟩])
   (.seal_ 5
    (.seq
     (.region false [] [⟨some 21, .mov (.t 2), none, [2]⟩, ⟨some 22, .bin false .eql (.t 21) (.c (.int .i64 0)), none, [21]⟩, ⟨some 23, .mov (.t 22), none, [22]⟩, ⟨some 24, .ld true 2 (.t 1), some (23, true), []⟩, ⟨some 25, .bld [.int .i64 0, .int .u16 0] [(0, 1, .c (.int .i64 1)), (1, 1, .c (.int .u16 11))], some (23, true), []⟩, ⟨some 26, .eqs false [.i, .i] (.t 24) (.t 25), some (23, true), [24, 25]⟩, ⟨some 27, .pick (.t 23) (.t 26) (.c (.bool false)), none, [23, 26]⟩, ⟨some 28, .mov (.t 27), none, [27]⟩, ⟨some 29, .mov (.t 4), some (28, true), [4]⟩, ⟨some 30, .bin false .eql (.t 29) (.c (.int .i64 0)), some (28, true), [29]⟩, ⟨some 31, .pick (.t 28) (.t 30) (.c (.bool false)), none, [28, 30]⟩, ⟨some 32, .mov (.t 31), none, [31]⟩, ⟨some 33, .ld true 2 (.t 3), some (32, true), []⟩, ⟨some 34, .bld [.bool false, .int .u8 0] [(1, 1, .c (.int .u8 15))], some (32, true), []⟩, ⟨some 35, .eqs false [.b, .i] (.t 33) (.t 34), some (32, true), [33, 34]⟩, ⟨some 36, .pick (.t 32) (.t 35) (.c (.bool false)), none, [32, 35]⟩, ⟨some 37, .mov (.t 36), none, [36]⟩, ⟨some 38, .mov (.t 6), some (37, true), [6]⟩, ⟨some 39, .bin false .eql (.t 38) (.c (.int .i64 4)), some (37, true), [38]⟩, ⟨some 40, .pick (.t 37) (.t 39) (.c (.bool false)), none, [37, 39]⟩, ⟨some 41, .mov (.t 40), none, [40]⟩, ⟨some 42, .ld true 2 (.t 3), some (41, true), [3]⟩, ⟨some 43, .call 16 [.t 42], some (41, true), [42]⟩, ⟨some 44, .bin false .eql (.t 43) (.c (.string ⟨#[45, 49, 53]⟩)), some (41, true), [43]⟩, ⟨some 45, .pick (.t 41) (.t 44) (.c (.bool false)), none, [41, 44]⟩, ⟨some 46, .mov (.t 45), none, [45]⟩, ⟨some 47, .ld true 2 (.t 1), some (46, true), [1]⟩, ⟨some 48, .call 12 [.t 47], some (46, true), [47]⟩, ⟨some 49, .pick (.t 46) (.t 48) (.c (.bool false)), none, [46, 48]⟩, ⟨some 0, .mov (.t 49), none, [49]⟩])
    .ret))))))))
def rs_9 : List ARes := [.tmp 0]
theorem g_9 : Good Tryd.prog 9 ac_9 rs_9 := ⟨Tryd.f9, Tryd.f9.body.getD .skip, by kernel_rfl, by kernel_rfl, by kernel_rfl, ⟨by kernel_rfl, by kernel_rfl⟩, by kernel_rfl, by kernel_rfl⟩
theorem ok_9 {Γ : Env} (hΓ : EnvOk Tryd.prog Γ) (sp : Spec) (h : WB Γ ac_9 rs_9 sp) : CallOk Tryd.prog 9 sp := g_9.ok hΓ mix_ok sp h

/-- chantry/roll.Apply -/
def ac_10 : ACode :=
 (.seq
  (.region false [] [⟨some 2, .box (.t 0), none, [0]⟩, ⟨some 3, .box (.t 1), none, [1]⟩, ⟨some 4, .alloc [.int .i64 0, .int .u16 0], none, []⟩, ⟨some 5, .mov (.c (.int .i64 0)), none, []⟩])
 (.seal_ 3
  (.seal_ 2
   (.seq
    (.region false [] [⟨some 8, .fad 1 (.t 2), none, []⟩, ⟨some 9, .ld false 1 (.t 8), none, [8]⟩, ⟨some 10, .fad 1 (.t 3), none, []⟩, ⟨some 11, .ld false 1 (.t 10), none, [10]⟩, ⟨some 12, .call 23 [.t 9, .t 11], none, [9, 11]⟩, ⟨some 6, .mov (.t 12), none, [12]⟩])
   (.seq
    (.block 0
     (.seq
      (.region false [] [⟨some 14, .ld true 2 (.t 2), none, []⟩, ⟨some 15, .call 12 [.t 14], none, [14]⟩, ⟨some 16, .un .not (.t 15), none, [15]⟩, ⟨some 17, .mov (.t 16), none, [16]⟩, ⟨some 18, .fad 1 (.t 3), some (17, false), []⟩, ⟨some 19, .ld false 1 (.t 18), some (17, false), [18]⟩, ⟨some 20, .bin false .geq (.t 19) (.c (.int .u8 16)), some (17, false), [19]⟩, ⟨some 21, .pick (.t 17) (.c (.bool true)) (.t 20), none, [17, 20]⟩, ⟨some 13, .mov (.t 21), none, [21]⟩])
     (.cond (.t 13)
       (.drop [2, 3, 6, 13]
        (.seq
         (.region false [] [⟨some 22, .bld [.int .i64 0, .int .u16 0] [], none, []⟩, ⟨none, .st 2 (.t 4) (.t 22), none, [22]⟩, ⟨some 5, .mov (.c (.int .i64 2)), none, []⟩])
        .ret))
       (.drop [13]
        (.seq
         (.region false [] [⟨some 24, .fad 0 (.t 3), none, []⟩, ⟨some 25, .ld false 1 (.t 24), none, [24]⟩, ⟨some 26, .mov (.t 25), none, [25]⟩, ⟨some 27, .mov (.t 6), some (26, true), []⟩, ⟨some 28, .pick (.t 26) (.t 27) (.c (.bool false)), none, [26, 27]⟩, ⟨some 23, .mov (.t 28), none, [28]⟩])
        (.cond (.t 23)
          (.drop [2, 3, 6, 23]
           (.seq
            (.region false [] [⟨some 29, .bld [.int .i64 0, .int .u16 0] [], none, []⟩, ⟨none, .st 2 (.t 4) (.t 29), none, [29]⟩, ⟨some 5, .mov (.c (.int .i64 9)), none, []⟩])
           .ret))
          (.drop [23]
           (.seq
            (.region false [] [⟨some 31, .fad 0 (.t 3), none, []⟩, ⟨some 32, .ld false 1 (.t 31), none, [31]⟩, ⟨some 33, .un .not (.t 32), none, [32]⟩, ⟨some 34, .mov (.t 33), none, [33]⟩, ⟨some 35, .mov (.t 6), some (34, true), [6]⟩, ⟨some 36, .un .not (.t 35), some (34, true), [35]⟩, ⟨some 37, .pick (.t 34) (.t 36) (.c (.bool false)), none, [34, 36]⟩, ⟨some 30, .mov (.t 37), none, [37]⟩])
           (.cond (.t 30)
             (.drop [2, 3, 30]
              (.seq
               (.region false [] [⟨some 38, .bld [.int .i64 0, .int .u16 0] [], none, []⟩, ⟨none, .st 2 (.t 4) (.t 38), none, [38]⟩, ⟨some 5, .mov (.c (.int .i64 8)), none, []⟩])
              .ret))
             (.drop [30]
              (.seq
               (.region false [] [⟨some 40, .fad 0 (.t 2), none, []⟩, ⟨some 41, .ld false 1 (.t 40), none, [40]⟩, ⟨some 42, .bin false .eql (.t 41) (.c (.int .i64 1000)), none, [41]⟩, ⟨some 39, .mov (.t 42), none, [42]⟩])
              (.cond (.t 39)
                (.drop [2, 3, 39]
                 (.seq
                  (.region false [] [⟨some 43, .bld [.int .i64 0, .int .u16 0] [], none, []⟩, ⟨none, .st 2 (.t 4) (.t 43), none, [43]⟩, ⟨some 5, .mov (.c (.int .i64 11)), none, []⟩])
                 .ret))
                (.drop [39]
                 .skip)))))))))))))
   (.seq
    (.draws (.tak 0 ⟨some 44, .fad 0 (.t 2), none, []⟩ (.tak 1 ⟨some 45, .ld false 1 (.t 44), none, []⟩ (.tak 2 ⟨some 46, .bin false .add (.t 45) (.c (.int .i64 1)), none, []⟩ (.tak 3 ⟨some 47, .fad 1 (.t 2), none, []⟩ (.tak 4 ⟨some 48, .ld false 1 (.t 47), none, []⟩ (.tak 5 ⟨some 49, .fad 1 (.t 3), none, []⟩ (.tak 6 ⟨some 50, .ld false 1 (.t 49), none, []⟩ (.alt 7 ⟨some 51, .call 24 [.t 48, .t 50], none, []⟩ (.tak 8 ⟨some 52, .bld [.int .i64 0, .int .u16 0] [(0, 1, .t 46), (1, 1, .t 51)], none, []⟩ (.alt 9 ⟨some 7, .alloc [.int .i64 0, .int .u16 0], none, []⟩ (.alt 10 ⟨none, .st 2 (.t 7) (.t 52), none, []⟩ .done .stop) .stop)) (.alt 9 ⟨some 7, .alloc [.int .i64 0, .int .u16 0], none, []⟩ (.alt 7 ⟨some 51, .call 24 [.t 48, .t 50], none, []⟩ (.tak 8 ⟨some 52, .bld [.int .i64 0, .int .u16 0] [(0, 1, .t 46), (1, 1, .t 51)], none, []⟩ (.alt 10 ⟨none, .st 2 (.t 7) (.t 52), none, []⟩ .done .stop)) .stop) .stop))))))))) [[], [0], [1], [], [3], [], [5], [4, 6], [2, 7], [], [9, 8, 7, 0, 1, 2, 3, 4, 5, 6, 7, 8, 9]] [⟨some 44, .fad 0 (.t 2), none, []⟩, ⟨some 45, .ld false 1 (.t 44), none, []⟩, ⟨some 46, .bin false .add (.t 45) (.c (.int .i64 1)), none, []⟩, ⟨some 47, .fad 1 (.t 2), none, []⟩, ⟨some 48, .ld false 1 (.t 47), none, []⟩, ⟨some 49, .fad 1 (.t 3), none, []⟩, ⟨some 50, .ld false 1 (.t 49), none, []⟩, ⟨some 51, .call 24 [.t 48, .t 50], none, []⟩, ⟨some 52, .bld [.int .i64 0, .int .u16 0] [(0, 1, .t 46), (1, 1, .t 51)], none, []⟩, ⟨some 7, .alloc [.int .i64 0, .int .u16 0], none, []⟩, ⟨none, .st 2 (.t 7) (.t 52), none, []⟩])
   (.drop [44, 45, 46, 47, 48, 49, 50, 51, 52]
    (.seq
     (.seq
      (.region false [] [⟨some 53, .fad 0 (.t 3), none, []⟩, ⟨some 54, .ld false 1 (.t 53), none, [53]⟩])
     (.cond (.t 54)
       (.drop [54]
        (.region false [] [⟨some 55, .fad 1 (.t 2), none, [2]⟩, ⟨some 56, .ld false 1 (.t 55), none, [55]⟩, ⟨some 57, .fad 1 (.t 3), none, [3]⟩, ⟨some 58, .ld false 1 (.t 57), none, [57]⟩, ⟨some 59, .call 25 [.t 56, .t 58], none, [56, 58]⟩, ⟨some 60, .fad 1 (.t 7), none, []⟩, ⟨none, .st 1 (.t 60) (.t 59), none, [59, 60]⟩]))
       (.drop [2, 3, 54]
        .skip)))
    (.seq
     (.seq
      (.region false [] [⟨some 61, .fad 1 (.t 7), none, []⟩, ⟨some 62, .ld false 1 (.t 61), none, [61]⟩, ⟨some 63, .bin false .eql (.t 62) (.c (.int .u16 0)), none, [62]⟩])
     (.cond (.t 63)
       (.drop [7, 63]
        (.seq
         (.region false [] [⟨some 64, .bld [.int .i64 0, .int .u16 0] [], none, []⟩, ⟨none, .st 2 (.t 4) (.t 64), none, [64]⟩, ⟨some 5, .mov (.c (.int .i64 10)), none, []⟩])
        .ret))
       (.drop [63]
        .skip)))
    (.seq
     (.region false [] [⟨some 65, .ld true 2 (.t 7), none, [7]⟩, ⟨none, .st 2 (.t 4) (.t 65), none, [65]⟩, ⟨some 5, .mov (.c (.int .i64 0)), none, []⟩])
    .ret))))))))))
def rs_10 : List ARes := [.cell 4 true 2, .tmp 5]
theorem g_10 : Good Tryd.prog 10 ac_10 rs_10 := ⟨Tryd.f10, Tryd.f10.body.getD .skip, by kernel_rfl, by kernel_rfl, by kernel_rfl, ⟨by kernel_rfl, by kernel_rfl⟩, by kernel_rfl, by kernel_rfl⟩
theorem ok_10 {Γ : Env} (hΓ : EnvOk Tryd.prog Γ) (sp : Spec) (h : WB Γ ac_10 rs_10 sp) : CallOk Tryd.prog 10 sp := g_10.ok hΓ mix_ok sp h

/-- chantry/chantryref11.Apply -/
def ac_11 : ACode :=
 (.seq
  (.region false [] [⟨some 2, .box (.t 0), none, [0]⟩, ⟨some 3, .box (.t 1), none, [1]⟩, ⟨some 4, .alloc [.int .i64 0, .int .u16 0], none, []⟩, ⟨some 5, .mov (.c (.int .i64 0)), none, []⟩])
 (.seal_ 3
  (.seq
   (.region false [] [⟨some 7, .fad 1 (.t 2), none, []⟩, ⟨some 8, .ld false 1 (.t 7), none, [7]⟩, ⟨some 9, .fad 1 (.t 3), none, []⟩, ⟨some 10, .ld false 1 (.t 9), none, [9]⟩, ⟨some 11, .call 18 [.t 8, .t 10], none, [8, 10]⟩, ⟨some 6, .mov (.t 11), none, [11]⟩])
  (.seq
   (.block 0
    (.seq
     (.region false [] [⟨some 13, .ld true 2 (.t 2), none, []⟩, ⟨some 14, .call 13 [.t 13], none, [13]⟩, ⟨some 15, .un .not (.t 14), none, [14]⟩, ⟨some 16, .mov (.t 15), none, [15]⟩, ⟨some 17, .fad 1 (.t 3), some (16, false), []⟩, ⟨some 18, .ld false 1 (.t 17), some (16, false), [17]⟩, ⟨some 19, .bin false .gtr (.t 18) (.c (.int .u8 15)), some (16, false), [18]⟩, ⟨some 20, .pick (.t 16) (.c (.bool true)) (.t 19), none, [16, 19]⟩, ⟨some 12, .mov (.t 20), none, [20]⟩])
    (.cond (.t 12)
      (.drop [2, 3, 6, 12]
       (.seq
        (.region false [] [⟨some 21, .bld [.int .i64 0, .int .u16 0] [], none, []⟩, ⟨none, .st 2 (.t 4) (.t 21), none, [21]⟩, ⟨some 5, .mov (.c (.int .i64 2)), none, []⟩])
       .ret))
      (.drop [12]
       (.seq
        (.region false [] [⟨some 23, .fad 0 (.t 3), none, []⟩, ⟨some 24, .ld false 1 (.t 23), none, [23]⟩, ⟨some 25, .mov (.t 24), none, [24]⟩, ⟨some 26, .mov (.t 6), some (25, true), []⟩, ⟨some 27, .pick (.t 25) (.t 26) (.c (.bool false)), none, [25, 26]⟩, ⟨some 22, .mov (.t 27), none, [27]⟩])
       (.cond (.t 22)
         (.drop [2, 3, 6, 22]
          (.seq
           (.region false [] [⟨some 28, .bld [.int .i64 0, .int .u16 0] [], none, []⟩, ⟨none, .st 2 (.t 4) (.t 28), none, [28]⟩, ⟨some 5, .mov (.c (.int .i64 9)), none, []⟩])
          .ret))
         (.drop [22]
          (.seq
           (.region false [] [⟨some 30, .fad 0 (.t 3), none, []⟩, ⟨some 31, .ld false 1 (.t 30), none, [30]⟩, ⟨some 32, .un .not (.t 31), none, [31]⟩, ⟨some 33, .mov (.t 32), none, [32]⟩, ⟨some 34, .mov (.t 6), some (33, true), [6]⟩, ⟨some 35, .un .not (.t 34), some (33, true), [34]⟩, ⟨some 36, .pick (.t 33) (.t 35) (.c (.bool false)), none, [33, 35]⟩, ⟨some 29, .mov (.t 36), none, [36]⟩])
          (.cond (.t 29)
            (.drop [2, 3, 29]
             (.seq
              (.region false [] [⟨some 37, .bld [.int .i64 0, .int .u16 0] [], none, []⟩, ⟨none, .st 2 (.t 4) (.t 37), none, [37]⟩, ⟨some 5, .mov (.c (.int .i64 8)), none, []⟩])
             .ret))
            (.drop [29]
             (.seq
              (.region false [] [⟨some 39, .fad 0 (.t 2), none, []⟩, ⟨some 40, .ld false 1 (.t 39), none, [39]⟩, ⟨some 41, .bin false .eql (.t 40) (.c (.int .i64 1000)), none, [40]⟩, ⟨some 38, .mov (.t 41), none, [41]⟩])
             (.cond (.t 38)
               (.drop [2, 3, 38]
                (.seq
                 (.region false [] [⟨some 42, .bld [.int .i64 0, .int .u16 0] [], none, []⟩, ⟨none, .st 2 (.t 4) (.t 42), none, [42]⟩, ⟨some 5, .mov (.c (.int .i64 11)), none, []⟩])
                .ret))
               (.drop [38]
                (.seq
                 (.region false [] [⟨some 44, .fad 0 (.t 3), none, []⟩, ⟨some 45, .ld false 1 (.t 44), none, [44]⟩, ⟨some 46, .un .not (.t 45), none, [45]⟩, ⟨some 47, .mov (.t 46), none, [46]⟩, ⟨some 48, .fad 1 (.t 2), some (47, true), []⟩, ⟨some 49, .ld false 1 (.t 48), some (47, true), [48]⟩, ⟨some 50, .call 22 [.t 49], some (47, true), [49]⟩, ⟨some 51, .bin false .eql (.t 50) (.c (.int .i64 1)), some (47, true), [50]⟩, ⟨some 52, .pick (.t 47) (.t 51) (.c (.bool false)), none, [47, 51]⟩, ⟨some 43, .mov (.t 52), none, [52]⟩])
                (.cond (.t 43)
                  (.drop [2, 3, 43]
                   (.seq
                    (.region false [] [⟨some 53, .bld [.int .i64 0, .int .u16 0] [], none, []⟩, ⟨none, .st 2 (.t 4) (.t 53), none, [53]⟩, ⟨some 5, .mov (.c (.int .i64 10)), none, []⟩])
                   .ret))
                  (.drop [43]
                   .skip))))))))))))))))
  (.seq
   (.region false [] [⟨some 54, .fad 0 (.t 2), none, []⟩, ⟨some 55, .ld false 1 (.t 54), none, [54]⟩, ⟨some 56, .bin false .add (.t 55) (.c (.int .i64 1)), none, [55]⟩, ⟨some 57, .fad 0 (.t 2), none, []⟩, ⟨none, .st 1 (.t 57) (.t 56), none, [56, 57]⟩])
  (.seq
   (.seq
    (.region false [] [⟨some 58, .fad 0 (.t 3), none, []⟩, ⟨some 59, .ld false 1 (.t 58), none, [58]⟩])
   (.cond (.t 59)
     (.drop [59]
      (.region false [] [⟨some 60, .fad 1 (.t 2), none, []⟩, ⟨some 61, .ld false 1 (.t 60), none, [60]⟩, ⟨some 62, .fad 1 (.t 3), none, [3]⟩, ⟨some 63, .ld false 1 (.t 62), none, [62]⟩, ⟨some 64, .call 26 [.t 61, .t 63], none, [61, 63]⟩, ⟨some 65, .fad 1 (.t 2), none, []⟩, ⟨none, .st 1 (.t 65) (.t 64), none, [64, 65]⟩]))
     (.drop [59]
      (.region false [] [⟨some 66, .fad 1 (.t 2), none, []⟩, ⟨some 67, .ld false 1 (.t 66), none, [66]⟩, ⟨some 68, .fad 1 (.t 3), none, [3]⟩, ⟨some 69, .ld false 1 (.t 68), none, [68]⟩, ⟨some 70, .call 27 [.t 67, .t 69], none, [67, 69]⟩, ⟨some 71, .fad 1 (.t 2), none, []⟩, ⟨none, .st 1 (.t 71) (.t 70), none, [70, 71]⟩]))))
  (.seq
   (.region false [] [⟨some 72, .ld true 2 (.t 2), none, [2]⟩, ⟨none, .st 2 (.t 4) (.t 72), none, [72]⟩, ⟨some 5, .mov (.c (.int .i64 0)), none, []⟩])
  .ret)))))))
def rs_11 : List ARes := [.cell 4 true 2, .tmp 5]
theorem g_11 : Good Tryd.prog 11 ac_11 rs_11 := ⟨Tryd.f11, Tryd.f11.body.getD .skip, by kernel_rfl, by kernel_rfl, by kernel_rfl, ⟨by kernel_rfl, by kernel_rfl⟩, by kernel_rfl, by kernel_rfl⟩
theorem ok_11 {Γ : Env} (hΓ : EnvOk Tryd.prog Γ) (sp : Spec) (h : WB Γ ac_11 rs_11 sp) : CallOk Tryd.prog 11 sp := g_11.ok hΓ mix_ok sp h

/-- chantry/roll.Right -/
def ac_12 : ACode :=
 (.seq
  (.region false [] [⟨some 1, .box (.t 0), none, [0]⟩, ⟨some 2, .mov (.c (.bool false)), none, []⟩])
 (.seal_ 1
  (.seq
   (.region false [] [⟨some 3, .fad 0 (.t 1), none, []⟩, ⟨some 4, .ld false 1 (.t 3), none, [3]⟩, ⟨some 5, .bin false .geq (.t 4) (.c (.int .i64 0)), none, [4]⟩, ⟨some 6, .mov (.t 5), none, [5]⟩, ⟨some 7, .fad 0 (.t 1), some (6, true), []⟩, ⟨some 8, .ld false 1 (.t 7), some (6, true), [7]⟩, ⟨some 9, .bin false .leq (.t 8) (.c (.int .i64 1000)), some (6, true), [8]⟩, ⟨some 10, .pick (.t 6) (.t 9) (.c (.bool false)), none, [6, 9]⟩, ⟨some 11, .mov (.t 10), none, [10]⟩, ⟨some 12, .fad 1 (.t 1), some (11, true), [1]⟩, ⟨some 13, .ld false 1 (.t 12), some (11, true), [12]⟩, ⟨some 14, .bin false .neq (.t 13) (.c (.int .u16 0)), some (11, true), [13]⟩, ⟨some 15, .pick (.t 11) (.t 14) (.c (.bool false)), none, [11, 14]⟩, ⟨some 2, .mov (.t 15), none, [15]⟩])
  .ret)))
def rs_12 : List ARes := [.tmp 2]
theorem g_12 : Good Tryd.prog 12 ac_12 rs_12 := ⟨Tryd.f12, Tryd.f12.body.getD .skip, by kernel_rfl, by kernel_rfl, by kernel_rfl, ⟨by kernel_rfl, by kernel_rfl⟩, by kernel_rfl, by kernel_rfl⟩
theorem ok_12 {Γ : Env} (hΓ : EnvOk Tryd.prog Γ) (sp : Spec) (h : WB Γ ac_12 rs_12 sp) : CallOk Tryd.prog 12 sp := g_12.ok hΓ mix_ok sp h

/-- chantry/chantryref11.Right -/
def ac_13 : ACode :=
 (.seq
  (.region false [] [⟨some 1, .box (.t 0), none, [0]⟩, ⟨some 2, .mov (.c (.bool false)), none, []⟩])
 (.seal_ 1
  (.seq
   (.region false [] [⟨some 3, .fad 0 (.t 1), none, []⟩, ⟨some 4, .ld false 1 (.t 3), none, [3]⟩, ⟨some 5, .bin false .geq (.t 4) (.c (.int .i64 0)), none, [4]⟩, ⟨some 6, .mov (.t 5), none, [5]⟩, ⟨some 7, .fad 0 (.t 1), some (6, true), []⟩, ⟨some 8, .ld false 1 (.t 7), some (6, true), [7]⟩, ⟨some 9, .bin false .leq (.t 8) (.c (.int .i64 1000)), some (6, true), [8]⟩, ⟨some 10, .pick (.t 6) (.t 9) (.c (.bool false)), none, [6, 9]⟩, ⟨some 11, .mov (.t 10), none, [10]⟩, ⟨some 12, .fad 1 (.t 1), some (11, true), [1]⟩, ⟨some 13, .ld false 1 (.t 12), some (11, true), [12]⟩, ⟨some 14, .bin false .neq (.t 13) (.c (.int .u16 0)), some (11, true), [13]⟩, ⟨some 15, .pick (.t 11) (.t 14) (.c (.bool false)), none, [11, 14]⟩, ⟨some 2, .mov (.t 15), none, [15]⟩])
  .ret)))
def rs_13 : List ARes := [.tmp 2]
theorem g_13 : Good Tryd.prog 13 ac_13 rs_13 := ⟨Tryd.f13, Tryd.f13.body.getD .skip, by kernel_rfl, by kernel_rfl, by kernel_rfl, ⟨by kernel_rfl, by kernel_rfl⟩, by kernel_rfl, by kernel_rfl⟩
theorem ok_13 {Γ : Env} (hΓ : EnvOk Tryd.prog Γ) (sp : Spec) (h : WB Γ ac_13 rs_13 sp) : CallOk Tryd.prog 13 sp := g_13.ok hΓ mix_ok sp h

/-- chantry/roll.Parse -/
def ac_14 : ACode :=
 (.seq
  (.region false [] [⟨some 2, .alloc [.bool false, .int .u8 0], none, []⟩, ⟨some 3, .mov (.c (.int .i64 0)), none, []⟩])
 (.seq
  (.region false [] [⟨some 10, .mov (.t 0), none, []⟩, ⟨some 11, .call 28 [.t 10, .c (.string ⟨#[43]⟩)], none, [10]⟩, ⟨some 9, .mov (.t 11), none, [11]⟩, ⟨some 12, .ext 0 (.t 9), none, []⟩, ⟨some 13, .ext 1 (.t 9), none, [9]⟩, ⟨some 4, .mov (.t 12), none, [12]⟩, ⟨some 5, .mov (.t 13), none, [13]⟩])
 (.seq
  (.seq
   (.region false [] [⟨some 14, .mov (.t 5), none, []⟩, ⟨some 15, .un .not (.t 14), none, [14]⟩])
  (.cond (.t 15)
    (.drop [4, 15]
     (.region false [] [⟨some 16, .mov (.t 0), none, []⟩, ⟨some 17, .call 29 [.t 16, .c (.string ⟨#[45]⟩)], none, [16]⟩, ⟨some 4, .mov (.t 17), none, [17]⟩]))
    (.drop [15]
     .skip)))
 (.seq
  (.region false [] [⟨some 19, .mov (.t 4), none, [4]⟩, ⟨some 20, .call 30 [.t 19, .c (.int .i64 10), .c (.int .i64 4)], none, [19]⟩, ⟨some 18, .mov (.t 20), none, [20]⟩, ⟨some 21, .ext 0 (.t 18), none, []⟩, ⟨some 22, .ext 1 (.t 18), none, [18]⟩, ⟨some 6, .mov (.t 21), none, [21]⟩, ⟨some 7, .mov (.t 22), none, [22]⟩])
 (.seq
  (.region false [] [⟨some 23, .mov (.t 5), none, [5]⟩, ⟨some 24, .mov (.t 6), none, [6]⟩, ⟨some 25, .cvt .u8 (.t 24), none, [24]⟩, ⟨some 26, .bld [.bool false, .int .u8 0] [(0, 1, .t 23), (1, 1, .t 25)], none, [23, 25]⟩, ⟨some 8, .alloc [.bool false, .int .u8 0], none, []⟩, ⟨none, .st 2 (.t 8) (.t 26), none, [26]⟩])
 (.seal_ 8
  (.seq
   (.seq
    (.region false [] [⟨some 27, .mov (.t 7), none, [7]⟩, ⟨some 28, .isi true (.t 27), none, [27]⟩, ⟨some 29, .mov (.t 28), none, [28]⟩, ⟨some 30, .ld true 2 (.t 8), some (29, false), []⟩, ⟨some 31, .call 16 [.t 30], some (29, false), [30]⟩, ⟨some 32, .mov (.t 0), some (29, false), [0]⟩, ⟨some 33, .bin false .neq (.t 31) (.t 32), some (29, false), [31, 32]⟩, ⟨some 34, .pick (.t 29) (.c (.bool true)) (.t 33), none, [29, 33]⟩])
   (.cond (.t 34)
     (.drop [8, 34]
      (.seq
       (.region false [] [⟨some 35, .bld [.bool false, .int .u8 0] [], none, []⟩, ⟨none, .st 2 (.t 2) (.t 35), none, [35]⟩, ⟨some 3, .mov (.c (.int .i64 4)), none, []⟩])
      .ret))
     (.drop [34]
      .skip)))
  (.seq
   (.region false [] [⟨some 36, .ld true 2 (.t 8), none, [8]⟩, ⟨none, .st 2 (.t 2) (.t 36), none, [36]⟩, ⟨some 3, .mov (.c (.int .i64 0)), none, []⟩])
  .ret))))))))
def rs_14 : List ARes := [.cell 2 true 2, .tmp 3]
theorem g_14 : Good Tryd.prog 14 ac_14 rs_14 := ⟨Tryd.f14, Tryd.f14.body.getD .skip, by kernel_rfl, by kernel_rfl, by kernel_rfl, ⟨by kernel_rfl, by kernel_rfl⟩, by kernel_rfl, by kernel_rfl⟩
theorem ok_14 {Γ : Env} (hΓ : EnvOk Tryd.prog Γ) (sp : Spec) (h : WB Γ ac_14 rs_14 sp) : CallOk Tryd.prog 14 sp := g_14.ok hΓ mix_ok sp h

/-- chantry/chantryref11.Parse -/
def ac_15 : ACode :=
 (.seq
  (.region false [] [⟨some 2, .alloc [.bool false, .int .u8 0], none, []⟩, ⟨some 3, .mov (.c (.int .i64 0)), none, []⟩])
 (.seq
  (.seq
   (.region false [] [⟨some 4, .mov (.c (.int .i64 0)), none, []⟩])
  (.block 0
   (.loop [0, 2, 4]
    (.seq
     (.seq
      (.region false [] [⟨some 7, .mov (.t 4), none, []⟩, ⟨some 8, .bin false .lss (.t 7) (.c (.int .i64 16)), none, [7]⟩])
     (.cond (.t 8)
       (.drop [8]
        .skip)
       (.drop [0, 4, 8]
        (.exit 0))))
    (.seq
     (.block 1
      (.seq
       (.region false [] [⟨some 11, .mov (.t 4), none, []⟩, ⟨some 12, .cvt .u8 (.t 11), none, [11]⟩, ⟨some 13, .bld [.bool false, .int .u8 0] [(0, 1, .c (.bool true)), (1, 1, .t 12)], none, [12]⟩, ⟨some 5, .alloc [.bool false, .int .u8 0], none, []⟩, ⟨none, .st 2 (.t 5) (.t 13), none, [13]⟩])
      (.seal_ 5
       (.seq
        (.region false [] [⟨some 14, .mov (.t 4), none, []⟩, ⟨some 15, .cvt .u8 (.t 14), none, [14]⟩, ⟨some 16, .bld [.bool false, .int .u8 0] [(1, 1, .t 15)], none, [15]⟩, ⟨some 6, .alloc [.bool false, .int .u8 0], none, []⟩, ⟨none, .st 2 (.t 6) (.t 16), none, [16]⟩])
       (.seal_ 6
        (.seq
         (.seq
          (.region false [] [⟨some 17, .ld true 2 (.t 5), none, []⟩, ⟨some 18, .call 17 [.t 17], none, [17]⟩, ⟨some 19, .mov (.t 0), none, []⟩, ⟨some 20, .bin false .eql (.t 18) (.t 19), none, [18, 19]⟩])
         (.cond (.t 20)
           (.drop [0, 4, 6, 20]
            (.seq
             (.region false [] [⟨some 21, .ld true 2 (.t 5), none, [5]⟩, ⟨none, .st 2 (.t 2) (.t 21), none, [21]⟩, ⟨some 3, .mov (.c (.int .i64 0)), none, []⟩])
            .ret))
           (.drop [5, 20]
            .skip)))
        (.seq
         (.region false [] [⟨some 22, .ld true 2 (.t 6), none, []⟩, ⟨some 23, .call 17 [.t 22], none, [22]⟩, ⟨some 24, .mov (.t 0), none, []⟩, ⟨some 25, .bin false .eql (.t 23) (.t 24), none, [23, 24]⟩])
        (.cond (.t 25)
          (.drop [0, 4, 25]
           (.seq
            (.region false [] [⟨some 26, .ld true 2 (.t 6), none, [6]⟩, ⟨none, .st 2 (.t 2) (.t 26), none, [26]⟩, ⟨some 3, .mov (.c (.int .i64 0)), none, []⟩])
           .ret))
          (.drop [6, 25]
           .skip)))))))))
    (.region false [] [⟨some 9, .mov (.t 4), none, [4]⟩, ⟨some 10, .bin false .add (.t 9) (.c (.int .i64 1)), none, [9]⟩, ⟨some 4, .mov (.t 10), none, [10]⟩]))))))
 (.seq
  (.region false [] [⟨some 27, .bld [.bool false, .int .u8 0] [], none, []⟩, ⟨none, .st 2 (.t 2) (.t 27), none, [27]⟩, ⟨some 3, .mov (.c (.int .i64 4)), none, []⟩])
 .ret)))
def rs_15 : List ARes := [.cell 2 true 2, .tmp 3]
theorem g_15 : Good Tryd.prog 15 ac_15 rs_15 := ⟨Tryd.f15, Tryd.f15.body.getD .skip, by kernel_rfl, by kernel_rfl, by kernel_rfl, ⟨by kernel_rfl, by kernel_rfl⟩, by kernel_rfl, by kernel_rfl⟩
theorem ok_15 {Γ : Env} (hΓ : EnvOk Tryd.prog Γ) (sp : Spec) (h : WB Γ ac_15 rs_15 sp) : CallOk Tryd.prog 15 sp := g_15.ok hΓ mix_ok sp h

/-- chantry/roll.Text -/
def ac_16 : ACode :=
 (.seq
  (.region false [] [⟨some 1, .box (.t 0), none, [0]⟩, ⟨some 2, .mov (.c (.string ⟨#[]⟩)), none, []⟩])
 (.seal_ 1
  (.seq
   (.region false [] [⟨some 4, .fad 1 (.t 1), none, []⟩, ⟨some 5, .ld false 1 (.t 4), none, [4]⟩, ⟨some 6, .cvt .i64 (.t 5), none, [5]⟩, ⟨some 7, .call 31 [.t 6], none, [6]⟩, ⟨some 3, .mov (.t 7), none, [7]⟩])
  (.seq
   (.seq
    (.region false [] [⟨some 8, .fad 0 (.t 1), none, [1]⟩, ⟨some 9, .ld false 1 (.t 8), none, [8]⟩])
   (.cond (.t 9)
     (.drop [9]
      (.seq
       (.region false [] [⟨some 10, .mov (.t 3), none, [3]⟩, ⟨some 11, .bin false .add (.c (.string ⟨#[43]⟩)) (.t 10), none, [10]⟩, ⟨some 2, .mov (.t 11), none, [11]⟩])
      .ret))
     (.drop [9]
      .skip)))
  (.seq
   (.region false [] [⟨some 12, .mov (.t 3), none, [3]⟩, ⟨some 13, .bin false .add (.c (.string ⟨#[45]⟩)) (.t 12), none, [12]⟩, ⟨some 2, .mov (.t 13), none, [13]⟩])
  .ret)))))
def rs_16 : List ARes := [.tmp 2]
theorem g_16 : Good Tryd.prog 16 ac_16 rs_16 := ⟨Tryd.f16, Tryd.f16.body.getD .skip, by kernel_rfl, by kernel_rfl, by kernel_rfl, ⟨by kernel_rfl, by kernel_rfl⟩, by kernel_rfl, by kernel_rfl⟩
theorem ok_16 {Γ : Env} (hΓ : EnvOk Tryd.prog Γ) (sp : Spec) (h : WB Γ ac_16 rs_16 sp) : CallOk Tryd.prog 16 sp := g_16.ok hΓ mix_ok sp h

/-- chantry/chantryref11.Text -/
def ac_17 : ACode :=
 (.seq
  (.region false [] [⟨some 1, .box (.t 0), none, [0]⟩, ⟨some 2, .mov (.c (.string ⟨#[]⟩)), none, []⟩])
 (.seal_ 1
  (.seq
   (.region false [] [⟨some 3, .mov (.c (.string ⟨#[45]⟩)), none, []⟩])
  (.seq
   (.seq
    (.region false [] [⟨some 4, .fad 0 (.t 1), none, []⟩, ⟨some 5, .ld false 1 (.t 4), none, [4]⟩])
   (.cond (.t 5)
     (.drop [3, 5]
      (.region false [] [⟨some 3, .mov (.c (.string ⟨#[43]⟩)), none, []⟩]))
     (.drop [5]
      .skip)))
  (.seq
   (.region false [] [⟨some 6, .mov (.t 3), none, [3]⟩, ⟨some 7, .fad 1 (.t 1), none, [1]⟩, ⟨some 8, .ld false 1 (.t 7), none, [7]⟩, ⟨some 9, .cvt .i64 (.t 8), none, [8]⟩, ⟨some 10, .call 31 [.t 9], none, [9]⟩, ⟨some 11, .bin false .add (.t 6) (.t 10), none, [6, 10]⟩, ⟨some 2, .mov (.t 11), none, [11]⟩])
  .ret)))))
def rs_17 : List ARes := [.tmp 2]
theorem g_17 : Good Tryd.prog 17 ac_17 rs_17 := ⟨Tryd.f17, Tryd.f17.body.getD .skip, by kernel_rfl, by kernel_rfl, by kernel_rfl, ⟨by kernel_rfl, by kernel_rfl⟩, by kernel_rfl, by kernel_rfl⟩
theorem ok_17 {Γ : Env} (hΓ : EnvOk Tryd.prog Γ) (sp : Spec) (h : WB Γ ac_17 rs_17 sp) : CallOk Tryd.prog 17 sp := g_17.ok hΓ mix_ok sp h

/-- chantry/chantryref05.Has -/
def ac_18 : ACode :=
 (.seq
  (.region false [] [⟨some 4, .mov (.c (.bool false)), none, []⟩])
 (.seq
  (.region false [] [⟨some 5, .mov (.t 1), none, []⟩, ⟨some 6, .bin false .leq (.t 5) (.c (.int .u8 15)), none, [5]⟩, ⟨some 7, .mov (.t 6), none, [6]⟩, ⟨some 8, .mov (.t 0), some (7, true), [0]⟩, ⟨some 9, .mov (.t 1), some (7, true), [1]⟩, ⟨some 10, .call 32 [.t 9], some (7, true), [9]⟩, ⟨some 11, .bin false .quo (.t 8) (.t 10), some (7, true), [8, 10]⟩, ⟨some 12, .bin false .rem (.t 11) (.c (.int .u16 2)), some (7, true), [11]⟩, ⟨some 13, .bin false .eql (.t 12) (.c (.int .u16 1)), some (7, true), [12]⟩, ⟨some 14, .pick (.t 7) (.t 13) (.c (.bool false)), none, [7, 13]⟩, ⟨some 4, .mov (.t 14), none, [14]⟩])
 .ret))
def rs_18 : List ARes := [.tmp 4]
theorem g_18 : Good Tryd.prog 18 ac_18 rs_18 := ⟨Tryd.f18, Tryd.f18.body.getD .skip, by kernel_rfl, by kernel_rfl, by kernel_rfl, ⟨by kernel_rfl, by kernel_rfl⟩, by kernel_rfl, by kernel_rfl⟩
theorem ok_18 {Γ : Env} (hΓ : EnvOk Tryd.prog Γ) (sp : Spec) (h : WB Γ ac_18 rs_18 sp) : CallOk Tryd.prog 18 sp := g_18.ok hΓ mix_ok sp h

/-- chantry/roll.Path -/
def ac_19 : ACode :=
 (.seq
  (.region false [] [⟨some 2, .box (.t 0), none, [0]⟩, ⟨some 4, .mov (.c (.slice none 0 0)), none, []⟩])
 (.seal_ 2
  (.seq
   (.seq
    (.region false [] [⟨some 10, .ld true 2 (.t 2), none, []⟩, ⟨some 11, .call 12 [.t 10], none, [10]⟩, ⟨some 12, .un .not (.t 11), none, [11]⟩])
   (.cond (.t 12)
     (.drop [1, 2, 12]
      (.seq
       (.region false [] [⟨some 4, .mov (.c (.slice none 0 0)), none, []⟩])
      .ret))
     (.drop [12]
      .skip)))
  (.seq
   (.region false [] [⟨some 13, .ld true 2 (.t 2), none, [2]⟩, ⟨some 14, .bsl 29 2 [.t 13], none, [13]⟩, ⟨some 5, .mov (.t 14), none, [14]⟩])
  (.seq
   (.seq
    (.region false [] [⟨some 15, .mov (.t 1), none, [1]⟩, ⟨some 16, .len false (.t 15), none, []⟩, ⟨some 17, .mov (.c (.int .i64 0)), none, []⟩])
   (.block 0
    (.loop [5, 15, 16, 17]
     (.seq
      (.region false [] [⟨some 18, .bin false .lss (.t 17) (.t 16), none, []⟩])
     (.seq
      (.cond (.t 18)
        (.drop [18]
         .skip)
        (.drop [15, 16, 17, 18]
         (.exit 0)))
     (.seq
      (.block 1
       (.seq
        (.region false [] [⟨some 19, .iax 2 (.t 15) (.t 17), none, []⟩, ⟨some 20, .ld true 2 (.t 19), none, [19]⟩, ⟨some 7, .alloc [.bool false, .int .u8 0], none, []⟩, ⟨none, .st 2 (.t 7) (.t 20), none, [20]⟩])
       (.seal_ 7
        (.seq
         (.draws (.tak 0 ⟨some 22, .mov (.t 5), none, []⟩ (.tak 1 ⟨some 23, .mov (.t 5), none, []⟩ (.tak 2 ⟨some 24, .len false (.t 23), none, []⟩ (.tak 3 ⟨some 25, .bin false .sub (.t 24) (.c (.int .i64 1)), none, []⟩ (.tak 4 ⟨some 26, .iax 2 (.t 22) (.t 25), none, []⟩ (.tak 5 ⟨some 27, .ld true 2 (.t 26), none, []⟩ (.tak 6 ⟨some 28, .ld true 2 (.t 7), none, []⟩ (.alt 7 ⟨some 29, .call 10 [.t 27, .t 28], none, []⟩ (.tak 8 ⟨some 21, .mov (.t 29), none, []⟩ (.tak 9 ⟨some 30, .ext 0 (.t 21), none, []⟩ (.tak 10 ⟨some 31, .ext 1 (.t 21), none, []⟩ (.alt 11 ⟨some 8, .alloc [.int .i64 0, .int .u16 0], none, []⟩ (.alt 12 ⟨none, .st 2 (.t 8) (.t 30), none, []⟩ (.tak 13 ⟨some 9, .mov (.t 31), none, []⟩ .done) .stop) .stop)))) (.alt 11 ⟨some 8, .alloc [.int .i64 0, .int .u16 0], none, []⟩ (.alt 7 ⟨some 29, .call 10 [.t 27, .t 28], none, []⟩ (.tak 8 ⟨some 21, .mov (.t 29), none, []⟩ (.tak 9 ⟨some 30, .ext 0 (.t 21), none, []⟩ (.tak 10 ⟨some 31, .ext 1 (.t 21), none, []⟩ (.alt 12 ⟨none, .st 2 (.t 8) (.t 30), none, []⟩ (.tak 13 ⟨some 9, .mov (.t 31), none, []⟩ .done) .stop)))) .stop) .stop))))))))) [[], [], [1], [2], [0, 3], [4], [], [5, 6], [7], [8], [8], [], [11, 9, 7, 0, 1, 2, 3, 4, 5, 6, 7, 8, 9, 11], [10, 12, 0, 1, 2, 3, 4, 5, 6, 7, 8, 9, 10, 11, 12]] [⟨some 22, .mov (.t 5), none, []⟩, ⟨some 23, .mov (.t 5), none, []⟩, ⟨some 24, .len false (.t 23), none, []⟩, ⟨some 25, .bin false .sub (.t 24) (.c (.int .i64 1)), none, []⟩, ⟨some 26, .iax 2 (.t 22) (.t 25), none, []⟩, ⟨some 27, .ld true 2 (.t 26), none, []⟩, ⟨some 28, .ld true 2 (.t 7), none, []⟩, ⟨some 29, .call 10 [.t 27, .t 28], none, []⟩, ⟨some 21, .mov (.t 29), none, []⟩, ⟨some 30, .ext 0 (.t 21), none, []⟩, ⟨some 31, .ext 1 (.t 21), none, []⟩, ⟨some 8, .alloc [.int .i64 0, .int .u16 0], none, []⟩, ⟨none, .st 2 (.t 8) (.t 30), none, []⟩, ⟨some 9, .mov (.t 31), none, []⟩])
        (.drop [7, 21, 22, 23, 24, 25, 26, 27, 28, 29, 30, 31]
         (.pack [5, 8, 9, 15, 16, 17]
          (.seq
           (.seq
            (.region false [] [⟨some 32, .mov (.t 9), none, [9]⟩, ⟨some 33, .bin false .neq (.t 32) (.c (.int .i64 0)), none, [32]⟩])
           (.cond (.t 33)
             (.drop [8, 15, 16, 17, 33]
              (.exit 0))
             (.drop [33]
              .skip)))
          (.region false [] [⟨some 34, .mov (.t 5), none, [5]⟩, ⟨some 35, .ld true 2 (.t 8), none, [8]⟩, ⟨some 36, .bsl 29 2 [.t 35], none, [35]⟩, ⟨some 37, .app 29 2 16 (.t 34) (.t 36), none, [34, 36]⟩, ⟨some 5, .mov (.t 37), none, [37]⟩]))))))))
     (.region false [] [⟨some 38, .bin false .add (.t 17) (.c (.int .i64 1)), none, [17]⟩, ⟨some 17, .mov (.t 38), none, [38]⟩])))))))
  (.seq
   (.region false [] [⟨some 39, .mov (.t 5), none, [5]⟩, ⟨some 4, .mov (.t 39), none, [39]⟩])
  .ret))))))
def rs_19 : List ARes := [.tmp 4]
theorem g_19 : Good Tryd.prog 19 ac_19 rs_19 := ⟨Tryd.f19, Tryd.f19.body.getD .skip, by kernel_rfl, by kernel_rfl, by kernel_rfl, ⟨by kernel_rfl, by kernel_rfl⟩, by kernel_rfl, by kernel_rfl⟩
theorem ok_19 {Γ : Env} (hΓ : EnvOk Tryd.prog Γ) (sp : Spec) (h : WB Γ ac_19 rs_19 sp) : CallOk Tryd.prog 19 sp := g_19.ok hΓ mix_ok sp h

/-- chantry/chantrylaw11.changes -/
def ac_20 : ACode :=
 (.seq
  (.region false [] [⟨some 2, .mov (.c (.slice none 0 0)), none, []⟩])
 (.seq
  (.region false [] [⟨some 3, .mov (.c (.slice none 0 0)), none, []⟩])
 (.seq
  (.seq
   (.region false [] [⟨some 6, .mov (.t 0), none, [0]⟩, ⟨some 7, .len false (.t 6), none, []⟩, ⟨some 8, .mov (.c (.int .i64 0)), none, []⟩])
  (.block 0
   (.loop [3, 6, 7, 8]
    (.seq
     (.region false [] [⟨some 9, .bin false .lss (.t 8) (.t 7), none, []⟩])
    (.seq
     (.cond (.t 9)
       (.drop [9]
        .skip)
       (.drop [6, 7, 8, 9]
        (.exit 0)))
    (.seq
     (.block 1
      (.seq
       (.region false [] [⟨some 10, .iax 2 (.t 6) (.t 8), none, []⟩, ⟨some 11, .ld true 2 (.t 10), none, [10]⟩, ⟨some 5, .alloc [.bool false, .int .u8 0], none, []⟩, ⟨none, .st 2 (.t 5) (.t 11), none, [11]⟩])
      (.seal_ 5
       (.region false [] [⟨some 12, .mov (.t 3), none, [3]⟩, ⟨some 13, .ld true 2 (.t 5), none, [5]⟩, ⟨some 14, .bsl 33 2 [.t 13], none, [13]⟩, ⟨some 15, .app 33 2 2 (.t 12) (.t 14), none, [12, 14]⟩, ⟨some 3, .mov (.t 15), none, [15]⟩]))))
    (.region false [] [⟨some 16, .bin false .add (.t 8) (.c (.int .i64 1)), none, [8]⟩, ⟨some 8, .mov (.t 16), none, [16]⟩])))))))
 (.seq
  (.region false [] [⟨some 17, .mov (.t 3), none, [3]⟩, ⟨some 2, .mov (.t 17), none, [17]⟩])
 .ret))))
def rs_20 : List ARes := [.tmp 2]
theorem g_20 : Good Tryd.prog 20 ac_20 rs_20 := ⟨Tryd.f20, Tryd.f20.body.getD .skip, by kernel_rfl, by kernel_rfl, by kernel_rfl, ⟨by kernel_rfl, by kernel_rfl⟩, by kernel_rfl, by kernel_rfl⟩
theorem ok_20 {Γ : Env} (hΓ : EnvOk Tryd.prog Γ) (sp : Spec) (h : WB Γ ac_20 rs_20 sp) : CallOk Tryd.prog 20 sp := g_20.ok hΓ mix_ok sp h

/-- chantry/chantryref11.Path -/
def ac_21 : ACode :=
 (.seq
  (.region false [] [⟨some 2, .box (.t 0), none, [0]⟩, ⟨some 4, .mov (.c (.slice none 0 0)), none, []⟩])
 (.seq
  (.region false [] [⟨some 5, .mov (.c (.slice none 0 0)), none, []⟩])
 (.seq
  (.seq
   (.region false [] [⟨some 9, .ld true 2 (.t 2), none, []⟩, ⟨some 10, .call 13 [.t 9], none, [9]⟩, ⟨some 11, .un .not (.t 10), none, [10]⟩])
  (.cond (.t 11)
    (.drop [1, 2, 11]
     (.seq
      (.region false [] [⟨some 12, .mov (.t 5), none, [5]⟩, ⟨some 4, .mov (.t 12), none, [12]⟩])
     .ret))
    (.drop [11]
     .skip)))
 (.seq
  (.region false [] [⟨some 13, .mov (.t 5), none, [5]⟩, ⟨some 14, .ld true 2 (.t 2), none, []⟩, ⟨some 15, .bsl 25 2 [.t 14], none, [14]⟩, ⟨some 16, .app 25 2 16 (.t 13) (.t 15), none, [13, 15]⟩, ⟨some 5, .mov (.t 16), none, [16]⟩])
 (.seq
  (.seq
   (.region false [] [⟨some 6, .mov (.c (.int .i64 0)), none, []⟩])
  (.block 0
   (.loop [1, 2, 5, 6]
    (.seq
     (.seq
      (.region false [] [⟨some 17, .mov (.t 6), none, []⟩, ⟨some 18, .mov (.t 1), none, []⟩, ⟨some 19, .len false (.t 18), none, [18]⟩, ⟨some 20, .bin false .lss (.t 17) (.t 19), none, [17, 19]⟩])
     (.cond (.t 20)
       (.drop [20]
        .skip)
       (.drop [1, 2, 6, 20]
        (.exit 0))))
    (.seq
     (.block 1
      (.seq
       (.draws (.tak 1 ⟨some 25, .mov (.t 1), none, []⟩ (.tak 2 ⟨some 26, .mov (.t 6), none, []⟩ (.tak 3 ⟨some 27, .iax 2 (.t 25) (.t 26), none, []⟩ (.tak 4 ⟨some 28, .ld true 2 (.t 27), none, []⟩ (.alt 0 ⟨some 24, .ld true 2 (.t 2), none, []⟩ (.alt 5 ⟨some 29, .call 11 [.t 24, .t 28], none, []⟩ (.tak 6 ⟨some 23, .mov (.t 29), none, []⟩ (.tak 7 ⟨some 30, .ext 0 (.t 23), none, []⟩ (.tak 8 ⟨some 31, .ext 1 (.t 23), none, []⟩ (.alt 9 ⟨some 7, .alloc [.int .i64 0, .int .u16 0], none, []⟩ (.alt 10 ⟨none, .st 2 (.t 7) (.t 30), none, []⟩ (.tak 11 ⟨some 8, .mov (.t 31), none, []⟩ .done) .stop) .stop)))) (.alt 9 ⟨some 7, .alloc [.int .i64 0, .int .u16 0], none, []⟩ (.alt 5 ⟨some 29, .call 11 [.t 24, .t 28], none, []⟩ (.tak 6 ⟨some 23, .mov (.t 29), none, []⟩ (.tak 7 ⟨some 30, .ext 0 (.t 23), none, []⟩ (.tak 8 ⟨some 31, .ext 1 (.t 23), none, []⟩ (.alt 10 ⟨none, .st 2 (.t 7) (.t 30), none, []⟩ (.tak 11 ⟨some 8, .mov (.t 31), none, []⟩ .done) .stop)))) .stop) .stop)) (.alt 9 ⟨some 7, .alloc [.int .i64 0, .int .u16 0], none, []⟩ (.alt 0 ⟨some 24, .ld true 2 (.t 2), none, []⟩ (.alt 5 ⟨some 29, .call 11 [.t 24, .t 28], none, []⟩ (.tak 6 ⟨some 23, .mov (.t 29), none, []⟩ (.tak 7 ⟨some 30, .ext 0 (.t 23), none, []⟩ (.tak 8 ⟨some 31, .ext 1 (.t 23), none, []⟩ (.alt 10 ⟨none, .st 2 (.t 7) (.t 30), none, []⟩ (.tak 11 ⟨some 8, .mov (.t 31), none, []⟩ .done) .stop)))) .stop) .stop) .stop)))))) [[], [], [], [1, 2], [3], [0, 4], [5], [6], [6], [], [9, 7, 5, 0, 1, 2, 3, 4, 5, 6, 7, 9], [8, 10, 0, 1, 2, 3, 4, 5, 6, 7, 8, 9, 10]] [⟨some 24, .ld true 2 (.t 2), none, []⟩, ⟨some 25, .mov (.t 1), none, []⟩, ⟨some 26, .mov (.t 6), none, []⟩, ⟨some 27, .iax 2 (.t 25) (.t 26), none, []⟩, ⟨some 28, .ld true 2 (.t 27), none, []⟩, ⟨some 29, .call 11 [.t 24, .t 28], none, []⟩, ⟨some 23, .mov (.t 29), none, []⟩, ⟨some 30, .ext 0 (.t 23), none, []⟩, ⟨some 31, .ext 1 (.t 23), none, []⟩, ⟨some 7, .alloc [.int .i64 0, .int .u16 0], none, []⟩, ⟨none, .st 2 (.t 7) (.t 30), none, []⟩, ⟨some 8, .mov (.t 31), none, []⟩])
      (.drop [23, 24, 25, 26, 27, 28, 29, 30, 31]
       (.seq
        (.seq
         (.region false [] [⟨some 32, .mov (.t 8), none, [8]⟩, ⟨some 33, .bin false .neq (.t 32) (.c (.int .i64 0)), none, [32]⟩])
        (.cond (.t 33)
          (.drop [1, 2, 6, 7, 33]
           (.seq
            (.region false [] [⟨some 34, .mov (.t 5), none, [5]⟩, ⟨some 4, .mov (.t 34), none, [34]⟩])
           .ret))
          (.drop [33]
           .skip)))
       (.seq
        (.region false [] [⟨some 35, .ld true 2 (.t 7), none, [7]⟩, ⟨none, .st 2 (.t 2) (.t 35), none, [35]⟩])
       (.region false [] [⟨some 36, .mov (.t 5), none, [5]⟩, ⟨some 37, .ld true 2 (.t 2), none, []⟩, ⟨some 38, .bsl 25 2 [.t 37], none, [37]⟩, ⟨some 39, .app 25 2 16 (.t 36) (.t 38), none, [36, 38]⟩, ⟨some 5, .mov (.t 39), none, [39]⟩]))))))
    (.region false [] [⟨some 21, .mov (.t 6), none, [6]⟩, ⟨some 22, .bin false .add (.t 21) (.c (.int .i64 1)), none, [21]⟩, ⟨some 6, .mov (.t 22), none, [22]⟩]))))))
 (.seq
  (.region false [] [⟨some 40, .mov (.t 5), none, [5]⟩, ⟨some 4, .mov (.t 40), none, [40]⟩])
 .ret))))))
def rs_21 : List ARes := [.tmp 4]
theorem g_21 : Good Tryd.prog 21 ac_21 rs_21 := ⟨Tryd.f21, Tryd.f21.body.getD .skip, by kernel_rfl, by kernel_rfl, by kernel_rfl, ⟨by kernel_rfl, by kernel_rfl⟩, by kernel_rfl, by kernel_rfl⟩
theorem ok_21 {Γ : Env} (hΓ : EnvOk Tryd.prog Γ) (sp : Spec) (h : WB Γ ac_21 rs_21 sp) : CallOk Tryd.prog 21 sp := g_21.ok hΓ mix_ok sp h

/-- chantry/chantryref05.Size -/
def ac_22 : ACode :=
 (.seq
  (.region false [] [⟨some 2, .mov (.c (.int .i64 0)), none, []⟩])
 (.seq
  (.region false [] [⟨some 3, .mov (.t 0), none, [0]⟩, ⟨some 4, .call 33 [.t 3], none, [3]⟩, ⟨some 5, .len false (.t 4), none, [4]⟩, ⟨some 2, .mov (.t 5), none, [5]⟩])
 .ret))
def rs_22 : List ARes := [.tmp 2]
theorem g_22 : Good Tryd.prog 22 ac_22 rs_22 := ⟨Tryd.f22, Tryd.f22.body.getD .skip, by kernel_rfl, by kernel_rfl, by kernel_rfl, ⟨by kernel_rfl, by kernel_rfl⟩, by kernel_rfl, by kernel_rfl⟩
theorem ok_22 {Γ : Env} (hΓ : EnvOk Tryd.prog Γ) (sp : Spec) (h : WB Γ ac_22 rs_22 sp) : CallOk Tryd.prog 22 sp := g_22.ok hΓ mix_ok sp h

/-- chantry/count.Has -/
def ac_23 : ACode :=
 (.seq
  (.region false [] [⟨some 4, .mov (.c (.bool false)), none, []⟩])
 (.seq
  (.region false [] [⟨some 5, .mov (.t 0), none, [0]⟩, ⟨some 6, .mov (.t 1), none, [1]⟩, ⟨some 7, .call 34 [.t 6], none, [6]⟩, ⟨some 8, .bin false .and (.t 5) (.t 7), none, [5, 7]⟩, ⟨some 9, .bin false .neq (.t 8) (.c (.int .u16 0)), none, [8]⟩, ⟨some 4, .mov (.t 9), none, [9]⟩])
 .ret))
def rs_23 : List ARes := [.tmp 4]
theorem g_23 : Good Tryd.prog 23 ac_23 rs_23 := ⟨Tryd.f23, Tryd.f23.body.getD .skip, by kernel_rfl, by kernel_rfl, by kernel_rfl, ⟨by kernel_rfl, by kernel_rfl⟩, by kernel_rfl, by kernel_rfl⟩
theorem ok_23 {Γ : Env} (hΓ : EnvOk Tryd.prog Γ) (sp : Spec) (h : WB Γ ac_23 rs_23 sp) : CallOk Tryd.prog 23 sp := g_23.ok hΓ mix_ok sp h

/-- chantry/count.Without -/
def ac_24 : ACode :=
 (.seq
  (.region false [] [⟨some 4, .mov (.c (.int .u16 0)), none, []⟩])
 (.seq
  (.region false [] [⟨some 5, .mov (.t 0), none, [0]⟩, ⟨some 6, .mov (.t 1), none, [1]⟩, ⟨some 7, .call 34 [.t 6], none, [6]⟩, ⟨some 8, .bin false .andNot (.t 5) (.t 7), none, [5, 7]⟩, ⟨some 4, .mov (.t 8), none, [8]⟩])
 .ret))
def rs_24 : List ARes := [.tmp 4]
theorem g_24 : Good Tryd.prog 24 ac_24 rs_24 := ⟨Tryd.f24, Tryd.f24.body.getD .skip, by kernel_rfl, by kernel_rfl, by kernel_rfl, ⟨by kernel_rfl, by kernel_rfl⟩, by kernel_rfl, by kernel_rfl⟩
theorem ok_24 {Γ : Env} (hΓ : EnvOk Tryd.prog Γ) (sp : Spec) (h : WB Γ ac_24 rs_24 sp) : CallOk Tryd.prog 24 sp := g_24.ok hΓ mix_ok sp h

/-- chantry/count.With -/
def ac_25 : ACode :=
 (.seq
  (.region false [] [⟨some 4, .mov (.c (.int .u16 0)), none, []⟩])
 (.seq
  (.region false [] [⟨some 5, .mov (.t 0), none, [0]⟩, ⟨some 6, .mov (.t 1), none, [1]⟩, ⟨some 7, .call 34 [.t 6], none, [6]⟩, ⟨some 8, .bin false .or (.t 5) (.t 7), none, [5, 7]⟩, ⟨some 4, .mov (.t 8), none, [8]⟩])
 .ret))
def rs_25 : List ARes := [.tmp 4]
theorem g_25 : Good Tryd.prog 25 ac_25 rs_25 := ⟨Tryd.f25, Tryd.f25.body.getD .skip, by kernel_rfl, by kernel_rfl, by kernel_rfl, ⟨by kernel_rfl, by kernel_rfl⟩, by kernel_rfl, by kernel_rfl⟩
theorem ok_25 {Γ : Env} (hΓ : EnvOk Tryd.prog Γ) (sp : Spec) (h : WB Γ ac_25 rs_25 sp) : CallOk Tryd.prog 25 sp := g_25.ok hΓ mix_ok sp h

/-- chantry/chantryref05.With -/
def ac_26 : ACode :=
 (.seq
  (.region false [] [⟨some 4, .mov (.c (.int .u16 0)), none, []⟩])
 (.seq
  (.seq
   (.region false [] [⟨some 5, .mov (.t 0), none, []⟩, ⟨some 6, .mov (.t 1), none, []⟩, ⟨some 7, .call 18 [.t 5, .t 6], none, [5, 6]⟩])
  (.cond (.t 7)
    (.drop [1, 7]
     (.seq
      (.region false [] [⟨some 8, .mov (.t 0), none, [0]⟩, ⟨some 4, .mov (.t 8), none, [8]⟩])
     .ret))
    (.drop [7]
     .skip)))
 (.seq
  (.region false [] [⟨some 9, .mov (.t 0), none, [0]⟩, ⟨some 10, .mov (.t 1), none, [1]⟩, ⟨some 11, .call 32 [.t 10], none, [10]⟩, ⟨some 12, .bin false .add (.t 9) (.t 11), none, [9, 11]⟩, ⟨some 4, .mov (.t 12), none, [12]⟩])
 .ret)))
def rs_26 : List ARes := [.tmp 4]
theorem g_26 : Good Tryd.prog 26 ac_26 rs_26 := ⟨Tryd.f26, Tryd.f26.body.getD .skip, by kernel_rfl, by kernel_rfl, by kernel_rfl, ⟨by kernel_rfl, by kernel_rfl⟩, by kernel_rfl, by kernel_rfl⟩
theorem ok_26 {Γ : Env} (hΓ : EnvOk Tryd.prog Γ) (sp : Spec) (h : WB Γ ac_26 rs_26 sp) : CallOk Tryd.prog 26 sp := g_26.ok hΓ mix_ok sp h

/-- chantry/chantryref05.Without -/
def ac_27 : ACode :=
 (.seq
  (.region false [] [⟨some 4, .mov (.c (.int .u16 0)), none, []⟩])
 (.seq
  (.seq
   (.region false [] [⟨some 5, .mov (.t 0), none, []⟩, ⟨some 6, .mov (.t 1), none, []⟩, ⟨some 7, .call 18 [.t 5, .t 6], none, [5, 6]⟩, ⟨some 8, .un .not (.t 7), none, [7]⟩])
  (.cond (.t 8)
    (.drop [1, 8]
     (.seq
      (.region false [] [⟨some 9, .mov (.t 0), none, [0]⟩, ⟨some 4, .mov (.t 9), none, [9]⟩])
     .ret))
    (.drop [8]
     .skip)))
 (.seq
  (.region false [] [⟨some 10, .mov (.t 0), none, [0]⟩, ⟨some 11, .mov (.t 1), none, [1]⟩, ⟨some 12, .call 32 [.t 11], none, [11]⟩, ⟨some 13, .bin false .sub (.t 10) (.t 12), none, [10, 12]⟩, ⟨some 4, .mov (.t 13), none, [13]⟩])
 .ret)))
def rs_27 : List ARes := [.tmp 4]
theorem g_27 : Good Tryd.prog 27 ac_27 rs_27 := ⟨Tryd.f27, Tryd.f27.body.getD .skip, by kernel_rfl, by kernel_rfl, by kernel_rfl, ⟨by kernel_rfl, by kernel_rfl⟩, by kernel_rfl, by kernel_rfl⟩
theorem ok_27 {Γ : Env} (hΓ : EnvOk Tryd.prog Γ) (sp : Spec) (h : WB Γ ac_27 rs_27 sp) : CallOk Tryd.prog 27 sp := g_27.ok hΓ mix_ok sp h

/-- strings.CutPrefix -/
def ac_28 : ACode :=
 (.seq
  (.region false [] [⟨some 4, .mov (.c (.string ⟨#[]⟩)), none, []⟩, ⟨some 5, .mov (.c (.bool false)), none, [4]⟩])
 (.seq
  (.region false [] [⟨some 6, .mov (.t 0), none, [0]⟩, ⟨some 7, .mov (.t 1), none, [1]⟩, ⟨some 8, .call 35 [.t 6, .t 7], none, [6, 7]⟩, ⟨some 9, .ext 0 (.t 8), none, []⟩, ⟨some 10, .ext 1 (.t 8), none, [8]⟩, ⟨some 4, .mov (.t 9), none, [9]⟩, ⟨some 5, .mov (.t 10), none, [10]⟩])
 .ret))
def rs_28 : List ARes := [.tmp 4, .tmp 5]
theorem g_28 : Good Tryd.prog 28 ac_28 rs_28 := ⟨Tryd.f28, Tryd.f28.body.getD .skip, by kernel_rfl, by kernel_rfl, by kernel_rfl, ⟨by kernel_rfl, by kernel_rfl⟩, by kernel_rfl, by kernel_rfl⟩
theorem ok_28 {Γ : Env} (hΓ : EnvOk Tryd.prog Γ) (sp : Spec) (h : WB Γ ac_28 rs_28 sp) : CallOk Tryd.prog 28 sp := g_28.ok hΓ mix_ok sp h

/-- strings.TrimPrefix -/
def ac_29 : ACode :=
 (.seq
  (.region false [] [⟨some 4, .mov (.c (.string ⟨#[]⟩)), none, []⟩])
 (.seq
  (.region false [] [⟨some 5, .mov (.t 0), none, [0]⟩, ⟨some 6, .mov (.t 1), none, [1]⟩, ⟨some 7, .call 36 [.t 5, .t 6], none, [5, 6]⟩, ⟨some 4, .mov (.t 7), none, [7]⟩])
 .ret))
def rs_29 : List ARes := [.tmp 4]
theorem g_29 : Good Tryd.prog 29 ac_29 rs_29 := ⟨Tryd.f29, Tryd.f29.body.getD .skip, by kernel_rfl, by kernel_rfl, by kernel_rfl, ⟨by kernel_rfl, by kernel_rfl⟩, by kernel_rfl, by kernel_rfl⟩
theorem ok_29 {Γ : Env} (hΓ : EnvOk Tryd.prog Γ) (sp : Spec) (h : WB Γ ac_29 rs_29 sp) : CallOk Tryd.prog 29 sp := g_29.ok hΓ mix_ok sp h

/-- chantry/chantryref05.value -/
def ac_32 : ACode :=
 (.seq
  (.region false [] [⟨some 2, .mov (.c (.int .u16 0)), none, []⟩])
 (.seq
  (.seq
   (.region false [] [⟨some 5, .mov (.t 0), none, []⟩, ⟨some 6, .bin false .gtr (.t 5) (.c (.int .u8 15)), none, [5]⟩])
  (.cond (.t 6)
    (.drop [0, 6]
     (.seq
      (.region false [] [⟨some 2, .mov (.c (.int .u16 0)), none, []⟩])
     .ret))
    (.drop [6]
     .skip)))
 (.seq
  (.region false [] [⟨some 3, .mov (.c (.int .u16 1)), none, []⟩])
 (.seq
  (.seq
   (.region false [] [⟨some 4, .mov (.c (.int .i64 0)), none, []⟩])
  (.block 0
   (.loop [0, 3, 4]
    (.seq
     (.seq
      (.region false [] [⟨some 7, .mov (.t 4), none, []⟩, ⟨some 8, .mov (.t 0), none, []⟩, ⟨some 9, .cvt .i64 (.t 8), none, [8]⟩, ⟨some 10, .bin false .lss (.t 7) (.t 9), none, [7, 9]⟩])
     (.cond (.t 10)
       (.drop [10]
        .skip)
       (.drop [0, 4, 10]
        (.exit 0))))
    (.seq
     (.block 1
      (.region false [] [⟨some 13, .mov (.t 3), none, [3]⟩, ⟨some 14, .bin false .mul (.t 13) (.c (.int .u16 2)), none, [13]⟩, ⟨some 3, .mov (.t 14), none, [14]⟩]))
    (.region false [] [⟨some 11, .mov (.t 4), none, [4]⟩, ⟨some 12, .bin false .add (.t 11) (.c (.int .i64 1)), none, [11]⟩, ⟨some 4, .mov (.t 12), none, [12]⟩]))))))
 (.seq
  (.region false [] [⟨some 15, .mov (.t 3), none, [3]⟩, ⟨some 2, .mov (.t 15), none, [15]⟩])
 .ret)))))
def rs_32 : List ARes := [.tmp 2]
theorem g_32 : Good Tryd.prog 32 ac_32 rs_32 := ⟨Tryd.f32, Tryd.f32.body.getD .skip, by kernel_rfl, by kernel_rfl, by kernel_rfl, ⟨by kernel_rfl, by kernel_rfl⟩, by kernel_rfl, by kernel_rfl⟩
theorem ok_32 {Γ : Env} (hΓ : EnvOk Tryd.prog Γ) (sp : Spec) (h : WB Γ ac_32 rs_32 sp) : CallOk Tryd.prog 32 sp := g_32.ok hΓ mix_ok sp h

/-- chantry/chantryref05.List -/
def ac_33 : ACode :=
 (.seq
  (.region false [] [⟨some 2, .mov (.c (.slice none 0 0)), none, []⟩])
 (.seq
  (.region false [] [⟨some 3, .mov (.c (.slice none 0 0)), none, []⟩])
 (.seq
  (.seq
   (.region false [] [⟨some 4, .mov (.c (.int .i64 0)), none, []⟩])
  (.block 0
   (.loop [0, 3, 4]
    (.seq
     (.seq
      (.region false [] [⟨some 5, .mov (.t 4), none, []⟩, ⟨some 6, .bin false .lss (.t 5) (.c (.int .i64 16)), none, [5]⟩])
     (.cond (.t 6)
       (.drop [6]
        .skip)
       (.drop [0, 4, 6]
        (.exit 0))))
    (.seq
     (.block 1
      (.seq
       (.region false [] [⟨some 9, .mov (.t 0), none, []⟩, ⟨some 10, .mov (.t 4), none, []⟩, ⟨some 11, .cvt .u8 (.t 10), none, [10]⟩, ⟨some 12, .call 18 [.t 9, .t 11], none, [9, 11]⟩])
      (.cond (.t 12)
        (.drop [12]
         (.region false [] [⟨some 13, .mov (.t 3), none, [3]⟩, ⟨some 14, .mov (.t 4), none, []⟩, ⟨some 15, .cvt .u8 (.t 14), none, [14]⟩, ⟨some 16, .bsl 5 1 [.t 15], none, [15]⟩, ⟨some 17, .app 5 1 1 (.t 13) (.t 16), none, [13, 16]⟩, ⟨some 3, .mov (.t 17), none, [17]⟩]))
        (.drop [12]
         .skip))))
    (.region false [] [⟨some 7, .mov (.t 4), none, [4]⟩, ⟨some 8, .bin false .add (.t 7) (.c (.int .i64 1)), none, [7]⟩, ⟨some 4, .mov (.t 8), none, [8]⟩]))))))
 (.seq
  (.region false [] [⟨some 18, .mov (.t 3), none, [3]⟩, ⟨some 2, .mov (.t 18), none, [18]⟩])
 .ret))))
def rs_33 : List ARes := [.tmp 2]
theorem g_33 : Good Tryd.prog 33 ac_33 rs_33 := ⟨Tryd.f33, Tryd.f33.body.getD .skip, by kernel_rfl, by kernel_rfl, by kernel_rfl, ⟨by kernel_rfl, by kernel_rfl⟩, by kernel_rfl, by kernel_rfl⟩
theorem ok_33 {Γ : Env} (hΓ : EnvOk Tryd.prog Γ) (sp : Spec) (h : WB Γ ac_33 rs_33 sp) : CallOk Tryd.prog 33 sp := g_33.ok hΓ mix_ok sp h

/-- chantry/count.bit -/
def ac_34 : ACode :=
 (.seq
  (.region false [] [⟨some 2, .mov (.c (.int .u16 0)), none, []⟩])
 (.seq
  (.region false [] [⟨some 3, .mov (.t 0), none, [0]⟩, ⟨some 4, .bin false .shl (.c (.int .u64 1)) (.t 3), none, [3]⟩, ⟨some 5, .cvt .u16 (.t 4), none, [4]⟩, ⟨some 2, .mov (.t 5), none, [5]⟩])
 .ret))
def rs_34 : List ARes := [.tmp 2]
theorem g_34 : Good Tryd.prog 34 ac_34 rs_34 := ⟨Tryd.f34, Tryd.f34.body.getD .skip, by kernel_rfl, by kernel_rfl, by kernel_rfl, ⟨by kernel_rfl, by kernel_rfl⟩, by kernel_rfl, by kernel_rfl⟩
theorem ok_34 {Γ : Env} (hΓ : EnvOk Tryd.prog Γ) (sp : Spec) (h : WB Γ ac_34 rs_34 sp) : CallOk Tryd.prog 34 sp := g_34.ok hΓ mix_ok sp h

/-- internal/stringslite.CutPrefix -/
def ac_35 : ACode :=
 (.seq
  (.region false [] [⟨some 4, .mov (.c (.string ⟨#[]⟩)), none, []⟩, ⟨some 5, .mov (.c (.bool false)), none, [4]⟩])
 (.seq
  (.seq
   (.region false [] [⟨some 6, .mov (.t 0), none, []⟩, ⟨some 7, .mov (.t 1), none, []⟩, ⟨some 8, .call 40 [.t 6, .t 7], none, [6, 7]⟩, ⟨some 9, .un .not (.t 8), none, [8]⟩])
  (.cond (.t 9)
    (.drop [1, 9]
     (.seq
      (.region false [] [⟨some 10, .mov (.t 0), none, [0]⟩, ⟨some 4, .mov (.t 10), none, [10]⟩, ⟨some 5, .mov (.c (.bool false)), none, []⟩])
     .ret))
    (.drop [9]
     .skip)))
 (.seq
  (.region false [] [⟨some 11, .mov (.t 0), none, [0]⟩, ⟨some 12, .mov (.t 1), none, [1]⟩, ⟨some 13, .len true (.t 12), none, [12]⟩, ⟨some 14, .slc true 0 (.t 11) (some (.t 13)) none, none, [11, 13]⟩, ⟨some 4, .mov (.t 14), none, [14]⟩, ⟨some 5, .mov (.c (.bool true)), none, []⟩])
 .ret)))
def rs_35 : List ARes := [.tmp 4, .tmp 5]
theorem g_35 : Good Tryd.prog 35 ac_35 rs_35 := ⟨Tryd.f35, Tryd.f35.body.getD .skip, by kernel_rfl, by kernel_rfl, by kernel_rfl, ⟨by kernel_rfl, by kernel_rfl⟩, by kernel_rfl, by kernel_rfl⟩
theorem ok_35 {Γ : Env} (hΓ : EnvOk Tryd.prog Γ) (sp : Spec) (h : WB Γ ac_35 rs_35 sp) : CallOk Tryd.prog 35 sp := g_35.ok hΓ mix_ok sp h

/-- internal/stringslite.TrimPrefix -/
def ac_36 : ACode :=
 (.seq
  (.region false [] [⟨some 4, .mov (.c (.string ⟨#[]⟩)), none, []⟩])
 (.seq
  (.seq
   (.region false [] [⟨some 5, .mov (.t 0), none, []⟩, ⟨some 6, .mov (.t 1), none, []⟩, ⟨some 7, .call 40 [.t 5, .t 6], none, [5, 6]⟩])
  (.cond (.t 7)
    (.drop [7]
     (.seq
      (.region false [] [⟨some 8, .mov (.t 0), none, [0]⟩, ⟨some 9, .mov (.t 1), none, [1]⟩, ⟨some 10, .len true (.t 9), none, [9]⟩, ⟨some 11, .slc true 0 (.t 8) (some (.t 10)) none, none, [8, 10]⟩, ⟨some 4, .mov (.t 11), none, [11]⟩])
     .ret))
    (.drop [1, 7]
     .skip)))
 (.seq
  (.region false [] [⟨some 12, .mov (.t 0), none, [0]⟩, ⟨some 4, .mov (.t 12), none, [12]⟩])
 .ret)))
def rs_36 : List ARes := [.tmp 4]
theorem g_36 : Good Tryd.prog 36 ac_36 rs_36 := ⟨Tryd.f36, Tryd.f36.body.getD .skip, by kernel_rfl, by kernel_rfl, by kernel_rfl, ⟨by kernel_rfl, by kernel_rfl⟩, by kernel_rfl, by kernel_rfl⟩
theorem ok_36 {Γ : Env} (hΓ : EnvOk Tryd.prog Γ) (sp : Spec) (h : WB Γ ac_36 rs_36 sp) : CallOk Tryd.prog 36 sp := g_36.ok hΓ mix_ok sp h

/-- internal/stringslite.HasPrefix -/
def ac_40 : ACode :=
 (.seq
  (.region false [] [⟨some 4, .mov (.c (.bool false)), none, []⟩])
 (.seq
  (.region false [] [⟨some 5, .mov (.t 0), none, []⟩, ⟨some 6, .len true (.t 5), none, [5]⟩, ⟨some 7, .mov (.t 1), none, []⟩, ⟨some 8, .len true (.t 7), none, [7]⟩, ⟨some 9, .bin false .geq (.t 6) (.t 8), none, [6, 8]⟩, ⟨some 10, .mov (.t 9), none, [9]⟩, ⟨some 11, .mov (.t 0), some (10, true), [0]⟩, ⟨some 12, .mov (.t 1), some (10, true), []⟩, ⟨some 13, .len true (.t 12), some (10, true), [12]⟩, ⟨some 14, .slc true 0 (.t 11) none (some (.t 13)), some (10, true), [11, 13]⟩, ⟨some 15, .mov (.t 1), some (10, true), [1]⟩, ⟨some 16, .bin false .eql (.t 14) (.t 15), some (10, true), [14, 15]⟩, ⟨some 17, .pick (.t 10) (.t 16) (.c (.bool false)), none, [10, 16]⟩, ⟨some 4, .mov (.t 17), none, [17]⟩])
 .ret))
def rs_40 : List ARes := [.tmp 4]
theorem g_40 : Good Tryd.prog 40 ac_40 rs_40 := ⟨Tryd.f40, Tryd.f40.body.getD .skip, by kernel_rfl, by kernel_rfl, by kernel_rfl, ⟨by kernel_rfl, by kernel_rfl⟩, by kernel_rfl, by kernel_rfl⟩
theorem ok_40 {Γ : Env} (hΓ : EnvOk Tryd.prog Γ) (sp : Spec) (h : WB Γ ac_40 rs_40 sp) : CallOk Tryd.prog 40 sp := g_40.ok hΓ mix_ok sp h

end Go.Proofs.YtjmgnodeohmboaaDoor.Am
