/-
  THE FUNCTIONS' ABSTRACT CODE, as Lean's own reduction of compCode printed it, with notes (genac.py); each is held against the translation by the kernel.
-/
import Derived.Test.YtajpaagbfmjacaaGreatDoorProg
import Derived.Test.YtajpaagbfmjacaaGreatDoorZXE
namespace Go.Proofs.YtajpaagbfmjacaaGreatDoor.Am
set_option linter.unusedSimpArgs false
set_option linter.unusedVariables false
open Go Go.Proofs
set_option maxRecDepth 100000


/-- chantry/chantrylaw21.ScriptDecodes -/
def ac_3 : ACode :=
 (.seq
  (.region false [] [⟨some 2, .mov (.c (.bool false)), none, []⟩])
 (.seq
  (.seq
   (.region false [] [⟨some 6, .call 8 [], none, []⟩, ⟨some 7, .un .not (.t 6), none, [6]⟩])
  (.cond (.t 7)
    (.drop [0, 7]
     (.seq
      (.region false [] [⟨some 2, .mov (.c (.bool false)), none, []⟩])
     .ret))
    (.drop [7]
     .skip)))
 (.seq
  (.seq
   (.region false [] [⟨some 8, .mov (.t 0), none, []⟩, ⟨some 9, .len false (.t 8), none, [8]⟩, ⟨some 10, .bin false .gtr (.t 9) (.c (.int .i64 2000)), none, [9]⟩])
  (.cond (.t 10)
    (.drop [0, 10]
     (.seq
      (.region false [] [⟨some 2, .mov (.c (.bool true)), none, []⟩])
     .ret))
    (.drop [10]
     .skip)))
 (.seq
  (.region false [] [⟨some 11, .mov (.t 0), none, []⟩, ⟨some 12, .call 9 [.t 11], none, [11]⟩, ⟨some 13, .mov (.t 0), none, [0]⟩, ⟨some 14, .call 10 [.t 13], none, [13]⟩, ⟨some 3, .mov (.t 12), none, [12]⟩, ⟨some 4, .mov (.t 14), none, [14]⟩])
 (.seq
  (.seq
   (.region false [] [⟨some 15, .mov (.t 3), none, []⟩, ⟨some 16, .len false (.t 15), none, [15]⟩, ⟨some 17, .mov (.t 4), none, []⟩, ⟨some 18, .len false (.t 17), none, [17]⟩, ⟨some 19, .bin false .neq (.t 16) (.t 18), none, [16, 18]⟩])
  (.cond (.t 19)
    (.drop [3, 4, 19]
     (.seq
      (.region false [] [⟨some 2, .mov (.c (.bool false)), none, []⟩])
     .ret))
    (.drop [19]
     .skip)))
 (.seq
  (.seq
   (.region false [] [⟨some 20, .mov (.t 3), none, []⟩, ⟨some 21, .len false (.t 20), none, [20]⟩, ⟨some 22, .mov (.c (.int .i64 0)), none, []⟩])
  (.block 0
   (.loop [3, 4, 21, 22]
    (.seq
     (.region false [] [⟨some 23, .bin false .lss (.t 22) (.t 21), none, []⟩])
    (.seq
     (.cond (.t 23)
       (.drop [23]
        .skip)
       (.drop [3, 4, 21, 22, 23]
        (.exit 0)))
    (.seq
     (.block 1
      (.seq
       (.region false [] [⟨some 24, .mov (.t 22), none, []⟩, ⟨some 5, .mov (.t 24), none, [24]⟩])
      (.seq
       (.draws (.tak 0 ⟨some 25, .mov (.t 3), none, []⟩ (.tak 1 ⟨some 26, .mov (.t 5), none, []⟩ (.tak 2 ⟨some 27, .iax 11 (.t 25) (.t 26), none, []⟩ (.tak 3 ⟨some 28, .ld true 11 (.t 27), none, []⟩ (.tak 5 ⟨some 30, .mov (.t 4), none, []⟩ (.tak 6 ⟨some 31, .mov (.t 5), none, []⟩ (.tak 7 ⟨some 32, .iax 11 (.t 30) (.t 31), none, []⟩ (.tak 8 ⟨some 33, .ld true 11 (.t 32), none, []⟩ (.alt 4 ⟨some 29, .call 11 [.t 28], none, []⟩ (.tak 9 ⟨some 34, .eqs true [.i, .i, .i, .i, .i, .i, .i, .i, .s, .b, .i] (.t 29) (.t 33), none, []⟩ .done) .stop))))))))) [[], [], [0, 1], [2], [3], [], [], [5, 6], [7], [4, 8]] [⟨some 25, .mov (.t 3), none, []⟩, ⟨some 26, .mov (.t 5), none, []⟩, ⟨some 27, .iax 11 (.t 25) (.t 26), none, []⟩, ⟨some 28, .ld true 11 (.t 27), none, []⟩, ⟨some 29, .call 11 [.t 28], none, []⟩, ⟨some 30, .mov (.t 4), none, []⟩, ⟨some 31, .mov (.t 5), none, []⟩, ⟨some 32, .iax 11 (.t 30) (.t 31), none, []⟩, ⟨some 33, .ld true 11 (.t 32), none, []⟩, ⟨some 34, .eqs true [.i, .i, .i, .i, .i, .i, .i, .i, .s, .b, .i] (.t 29) (.t 33), none, []⟩])
      (.drop [5, 25, 26, 27, 28, 29, 30, 31, 32, 33]
       (.cond (.t 34)
         (.drop [3, 4, 21, 22, 34]
          (.seq
           (.region false [] [⟨some 2, .mov (.c (.bool false)), none, []⟩])
          .ret))
         (.drop [34]
          .skip))))))
    (.region false [] [⟨some 35, .bin false .add (.t 22) (.c (.int .i64 1)), none, [22]⟩, ⟨some 22, .mov (.t 35), none, [35]⟩])))))))
 (.seq
  (.region false [] [⟨some 2, .mov (.c (.bool true)), none, []⟩])
 .ret)))))))
def rs_3 : List ARes := [.tmp 2]
theorem g_3 : Good Tryz.prog 3 ac_3 rs_3 := ⟨Tryz.f3, Tryz.f3.body.getD .skip, by kernel_rfl, by kernel_rfl, by kernel_rfl, ⟨by kernel_rfl, by kernel_rfl⟩, by kernel_rfl, by kernel_rfl⟩
theorem ok_3 {Γ : Env} (hΓ : EnvOk Tryz.prog Γ) (sp : Spec) (h : WB Γ ac_3 rs_3 sp) : CallOk Tryz.prog 3 sp := g_3.ok hΓ mix_ok sp h

/-- chantry/chantrylaw21.ScriptShort -/
def ac_4 : ACode :=
 (.seq
  (.region false [] [⟨some 4, .mov (.c (.bool false)), none, []⟩])
 (.seq
  (.seq
   (.region false [] [⟨some 8, .call 8 [], none, []⟩, ⟨some 9, .un .not (.t 8), none, [8]⟩])
  (.cond (.t 9)
    (.drop [0, 1, 9]
     (.seq
      (.region false [] [⟨some 4, .mov (.c (.bool false)), none, []⟩])
     .ret))
    (.drop [9]
     .skip)))
 (.seq
  (.seq
   (.region false [] [⟨some 10, .mov (.t 0), none, []⟩, ⟨some 11, .len false (.t 10), none, [10]⟩, ⟨some 12, .bin false .gtr (.t 11) (.c (.int .i64 2000)), none, [11]⟩])
  (.cond (.t 12)
    (.drop [0, 1, 12]
     (.seq
      (.region false [] [⟨some 4, .mov (.c (.bool true)), none, []⟩])
     .ret))
    (.drop [12]
     .skip)))
 (.seq
  (.draws (.tak 0 ⟨some 13, .mov (.t 0), none, []⟩ (.tak 2 ⟨some 15, .mov (.t 0), none, []⟩ (.tak 3 ⟨some 16, .mov (.t 1), none, []⟩ (.tak 4 ⟨some 17, .cvt .i64 (.t 16), none, []⟩ (.tak 5 ⟨some 18, .mov (.t 0), none, []⟩ (.tak 6 ⟨some 19, .len false (.t 18), none, []⟩ (.tak 7 ⟨some 20, .mnn [.t 17, .t 19], none, []⟩ (.tak 8 ⟨some 21, .slc false 1 (.t 15) none (some (.t 20)), none, []⟩ (.alt 1 ⟨some 14, .call 9 [.t 13], none, []⟩ (.alt 9 ⟨some 22, .call 9 [.t 21], none, []⟩ (.tak 10 ⟨some 5, .mov (.t 14), none, []⟩ (.tak 11 ⟨some 6, .mov (.t 22), none, []⟩ .done)) .stop) .stop))))))))) [[], [0], [], [], [3], [], [5], [4, 6], [2, 7], [8, 1], [1, 9, 0, 1], [9, 10, 0, 1, 2, 3, 4, 5, 6, 7, 8, 9, 10]] [⟨some 13, .mov (.t 0), none, []⟩, ⟨some 14, .call 9 [.t 13], none, []⟩, ⟨some 15, .mov (.t 0), none, []⟩, ⟨some 16, .mov (.t 1), none, []⟩, ⟨some 17, .cvt .i64 (.t 16), none, []⟩, ⟨some 18, .mov (.t 0), none, []⟩, ⟨some 19, .len false (.t 18), none, []⟩, ⟨some 20, .mnn [.t 17, .t 19], none, []⟩, ⟨some 21, .slc false 1 (.t 15) none (some (.t 20)), none, []⟩, ⟨some 22, .call 9 [.t 21], none, []⟩, ⟨some 5, .mov (.t 14), none, []⟩, ⟨some 6, .mov (.t 22), none, []⟩])
 (.drop [0, 1, 13, 14, 15, 16, 17, 18, 19, 20, 21, 22]
  (.seq
   (.seq
    (.region false [] [⟨some 23, .mov (.t 6), none, []⟩, ⟨some 24, .len false (.t 23), none, [23]⟩, ⟨some 25, .mov (.t 5), none, []⟩, ⟨some 26, .len false (.t 25), none, [25]⟩, ⟨some 27, .bin false .gtr (.t 24) (.t 26), none, [24, 26]⟩, ⟨some 28, .mov (.t 27), none, [27]⟩, ⟨some 29, .mov (.t 5), some (28, false), []⟩, ⟨some 30, .len false (.t 29), some (28, false), [29]⟩, ⟨some 31, .bin false .gtr (.t 30) (.c (.int .i64 300)), some (28, false), [30]⟩, ⟨some 32, .pick (.t 28) (.c (.bool true)) (.t 31), none, [28, 31]⟩])
   (.cond (.t 32)
     (.drop [5, 6, 32]
      (.seq
       (.region false [] [⟨some 4, .mov (.c (.bool false)), none, []⟩])
      .ret))
     (.drop [32]
      .skip)))
  (.seq
   (.seq
    (.region false [] [⟨some 33, .mov (.t 6), none, []⟩, ⟨some 34, .len false (.t 33), none, [33]⟩, ⟨some 35, .mov (.c (.int .i64 0)), none, []⟩])
   (.block 0
    (.loop [5, 6, 34, 35]
     (.seq
      (.region false [] [⟨some 36, .bin false .lss (.t 35) (.t 34), none, []⟩])
     (.seq
      (.cond (.t 36)
        (.drop [36]
         .skip)
        (.drop [5, 6, 34, 35, 36]
         (.exit 0)))
     (.seq
      (.block 1
       (.seq
        (.region false [] [⟨some 37, .mov (.t 35), none, []⟩, ⟨some 7, .mov (.t 37), none, [37]⟩])
       (.seq
        (.draws (.tak 0 ⟨some 38, .mov (.t 6), none, []⟩ (.tak 1 ⟨some 39, .mov (.t 7), none, []⟩ (.tak 2 ⟨some 40, .iax 11 (.t 38) (.t 39), none, []⟩ (.tak 3 ⟨some 41, .ld true 11 (.t 40), none, []⟩ (.tak 4 ⟨some 42, .mov (.t 5), none, []⟩ (.tak 5 ⟨some 43, .mov (.t 7), none, []⟩ (.tak 6 ⟨some 44, .iax 11 (.t 42) (.t 43), none, []⟩ (.tak 7 ⟨some 45, .ld true 11 (.t 44), none, []⟩ (.tak 8 ⟨some 46, .eqs true [.i, .i, .i, .i, .i, .i, .i, .i, .s, .b, .i] (.t 41) (.t 45), none, []⟩ .done))))))))) [[], [], [0, 1], [2], [], [], [4, 5], [6], [3, 7]] [⟨some 38, .mov (.t 6), none, []⟩, ⟨some 39, .mov (.t 7), none, []⟩, ⟨some 40, .iax 11 (.t 38) (.t 39), none, []⟩, ⟨some 41, .ld true 11 (.t 40), none, []⟩, ⟨some 42, .mov (.t 5), none, []⟩, ⟨some 43, .mov (.t 7), none, []⟩, ⟨some 44, .iax 11 (.t 42) (.t 43), none, []⟩, ⟨some 45, .ld true 11 (.t 44), none, []⟩, ⟨some 46, .eqs true [.i, .i, .i, .i, .i, .i, .i, .i, .s, .b, .i] (.t 41) (.t 45), none, []⟩])
       (.drop [7, 38, 39, 40, 41, 42, 43, 44, 45]
        (.cond (.t 46)
          (.drop [5, 6, 34, 35, 46]
           (.seq
            (.region false [] [⟨some 4, .mov (.c (.bool false)), none, []⟩])
           .ret))
          (.drop [46]
           .skip))))))
     (.region false [] [⟨some 47, .bin false .add (.t 35) (.c (.int .i64 1)), none, [35]⟩, ⟨some 35, .mov (.t 47), none, [47]⟩])))))))
  (.seq
   (.region false [] [⟨some 4, .mov (.c (.bool true)), none, []⟩])
  .ret))))))))
def rs_4 : List ARes := [.tmp 4]
theorem g_4 : Good Tryz.prog 4 ac_4 rs_4 := ⟨Tryz.f4, Tryz.f4.body.getD .skip, by kernel_rfl, by kernel_rfl, by kernel_rfl, ⟨by kernel_rfl, by kernel_rfl⟩, by kernel_rfl, by kernel_rfl⟩
theorem ok_4 {Γ : Env} (hΓ : EnvOk Tryz.prog Γ) (sp : Spec) (h : WB Γ ac_4 rs_4 sp) : CallOk Tryz.prog 4 sp := g_4.ok hΓ mix_ok sp h

/-- chantry/chantrylaw21.ScriptSteps -/
def ac_5 : ACode :=
 (.seq
  (.region false [] [⟨some 2, .mov (.c (.bool false)), none, []⟩])
 (.seq
  (.seq
   (.region false [] [⟨some 7, .call 8 [], none, []⟩, ⟨some 8, .un .not (.t 7), none, [7]⟩])
  (.cond (.t 8)
    (.drop [0, 8]
     (.seq
      (.region false [] [⟨some 2, .mov (.c (.bool false)), none, []⟩])
     .ret))
    (.drop [8]
     .skip)))
 (.seq
  (.seq
   (.region false [] [⟨some 9, .mov (.t 0), none, []⟩, ⟨some 10, .len false (.t 9), none, [9]⟩, ⟨some 11, .bin false .gtr (.t 10) (.c (.int .i64 2000)), none, [10]⟩])
  (.cond (.t 11)
    (.drop [0, 11]
     (.seq
      (.region false [] [⟨some 2, .mov (.c (.bool true)), none, []⟩])
     .ret))
    (.drop [11]
     .skip)))
 (.seq
  (.seq
   (.region false [] [⟨some 12, .mov (.t 0), none, [0]⟩, ⟨some 13, .call 9 [.t 12], none, [12]⟩, ⟨some 14, .len false (.t 13), none, []⟩, ⟨some 15, .mov (.c (.int .i64 0)), none, []⟩])
  (.block 0
   (.loop [13, 14, 15]
    (.seq
     (.region false [] [⟨some 16, .bin false .lss (.t 15) (.t 14), none, []⟩])
    (.seq
     (.cond (.t 16)
       (.drop [16]
        .skip)
       (.drop [13, 14, 15, 16]
        (.exit 0)))
    (.seq
     (.block 1
      (.seq
       (.region false [] [⟨some 17, .iax 11 (.t 13) (.t 15), none, []⟩, ⟨some 18, .ld true 11 (.t 17), none, [17]⟩, ⟨some 4, .alloc [.int .i64 0, .int .u8 0, .int .u8 0, .int .i64 0, .int .i64 0, .int .i64 0, .int .u8 0, .int .i64 0, .string ⟨#[]⟩, .bool false, .int .u8 0], none, []⟩, ⟨none, .st 11 (.t 4) (.t 18), none, [18]⟩])
      (.seal_ 4
       (.seq
        (.region false [] [⟨some 19, .ld true 11 (.t 4), none, []⟩, ⟨some 20, .call 11 [.t 19], none, [19]⟩, ⟨some 5, .alloc [.int .i64 0, .int .u8 0, .int .u8 0, .int .i64 0, .int .i64 0, .int .i64 0, .int .u8 0, .int .i64 0, .string ⟨#[]⟩, .bool false, .int .u8 0], none, []⟩, ⟨none, .st 11 (.t 5) (.t 20), none, [20]⟩])
       (.seal_ 5
        (.seq
         (.region false [] [⟨some 21, .fad 0 (.t 5), none, []⟩, ⟨some 22, .ld false 1 (.t 21), none, [21]⟩, ⟨some 23, .bld [.int .i64 0, .int .u8 0, .int .u8 0, .int .i64 0, .int .i64 0, .int .i64 0, .int .u8 0, .int .i64 0, .string ⟨#[]⟩, .bool false, .int .u8 0] [(0, 1, .t 22)], none, [22]⟩, ⟨some 6, .alloc [.int .i64 0, .int .u8 0, .int .u8 0, .int .i64 0, .int .i64 0, .int .i64 0, .int .u8 0, .int .i64 0, .string ⟨#[]⟩, .bool false, .int .u8 0], none, []⟩, ⟨none, .st 11 (.t 6) (.t 23), none, [23]⟩])
        (.seq
         (.seq
          (.region false [] [⟨some 24, .fad 0 (.t 4), none, []⟩, ⟨some 25, .ld false 1 (.t 24), none, [24]⟩])
         (.block 2
          (.seq
           (.region false [] [⟨some 30, .bin false .eql (.t 25) (.c (.int .i64 1)), none, []⟩, ⟨some 29, .mov (.t 30), none, [30]⟩])
          (.cond (.t 29)
            (.drop [25, 29]
             (.draws (.tak 0 ⟨some 31, .fad 1 (.t 5), none, []⟩ (.tak 1 ⟨some 32, .ld false 1 (.t 31), none, []⟩ (.tak 2 ⟨some 33, .fad 8 (.t 5), none, []⟩ (.tak 3 ⟨some 34, .ld false 1 (.t 33), none, []⟩ (.tak 4 ⟨some 35, .fad 1 (.t 6), none, []⟩ (.alt 5 ⟨none, .st 1 (.t 35) (.t 32), none, []⟩ (.tak 6 ⟨some 36, .fad 8 (.t 6), none, []⟩ (.alt 7 ⟨none, .st 1 (.t 36) (.t 34), none, []⟩ .done .stop)) .stop)))))) [[], [0], [], [2], [0, 1], [4, 1, 0, 1], [0, 1, 2, 3, 4, 5], [6, 3, 5, 0, 1, 2, 3, 4, 5]] [⟨some 31, .fad 1 (.t 5), none, []⟩, ⟨some 32, .ld false 1 (.t 31), none, []⟩, ⟨some 33, .fad 8 (.t 5), none, []⟩, ⟨some 34, .ld false 1 (.t 33), none, []⟩, ⟨some 35, .fad 1 (.t 6), none, []⟩, ⟨none, .st 1 (.t 35) (.t 32), none, []⟩, ⟨some 36, .fad 8 (.t 6), none, []⟩, ⟨none, .st 1 (.t 36) (.t 34), none, []⟩]))
            (.drop [29]
             (.seq
              (.region false [] [⟨some 38, .bin false .eql (.t 25) (.c (.int .i64 2)), none, []⟩, ⟨some 37, .mov (.t 38), none, [38]⟩])
             (.cond (.t 37)
               (.drop [25, 37]
                (.draws (.tak 0 ⟨some 39, .fad 1 (.t 5), none, []⟩ (.tak 1 ⟨some 40, .ld false 1 (.t 39), none, []⟩ (.tak 2 ⟨some 41, .fad 9 (.t 5), none, []⟩ (.tak 3 ⟨some 42, .ld true 2 (.t 41), none, []⟩ (.tak 4 ⟨some 43, .fad 1 (.t 6), none, []⟩ (.alt 5 ⟨none, .st 1 (.t 43) (.t 40), none, []⟩ (.tak 6 ⟨some 44, .fad 9 (.t 6), none, []⟩ (.alt 7 ⟨none, .st 2 (.t 44) (.t 42), none, []⟩ .done .stop)) .stop)))))) [[], [0], [], [2], [0, 1], [4, 1, 0, 1], [0, 1, 2, 3, 4, 5], [6, 3, 5, 0, 1, 2, 3, 4, 5]] [⟨some 39, .fad 1 (.t 5), none, []⟩, ⟨some 40, .ld false 1 (.t 39), none, []⟩, ⟨some 41, .fad 9 (.t 5), none, []⟩, ⟨some 42, .ld true 2 (.t 41), none, []⟩, ⟨some 43, .fad 1 (.t 6), none, []⟩, ⟨none, .st 1 (.t 43) (.t 40), none, []⟩, ⟨some 44, .fad 9 (.t 6), none, []⟩, ⟨none, .st 2 (.t 44) (.t 42), none, []⟩]))
               (.drop [37]
                (.seq
                 (.region false [] [⟨some 46, .bin false .eql (.t 25) (.c (.int .i64 6)), none, [25]⟩, ⟨some 45, .mov (.t 46), none, [46]⟩])
                (.cond (.t 45)
                  (.drop [45]
                   (.seq
                    (.region false [] [⟨some 47, .ld true 11 (.t 5), none, []⟩, ⟨none, .st 11 (.t 6) (.t 47), none, [47]⟩])
                   (.region false [] [⟨some 48, .bld [.bool false, .int .u8 0] [], none, []⟩, ⟨some 49, .fad 3 (.t 6), none, []⟩, ⟨none, .st 1 (.t 49) (.c (.int .i64 0)), none, [49]⟩, ⟨some 50, .fad 9 (.t 6), none, []⟩, ⟨none, .st 2 (.t 50) (.t 48), none, [48, 50]⟩])))
                  (.drop [45]
                   (.region false [] [⟨some 26, .fad 3 (.t 5), none, []⟩, ⟨some 27, .ld false 1 (.t 26), none, [26]⟩, ⟨some 28, .fad 3 (.t 6), none, []⟩, ⟨none, .st 1 (.t 28) (.t 27), none, [27, 28]⟩]))))))))))))
        (.seq
         (.region false [] [⟨some 51, .ld true 11 (.t 5), none, [5]⟩, ⟨some 52, .ld true 11 (.t 6), none, [6]⟩, ⟨some 53, .eqs true [.i, .i, .i, .i, .i, .i, .i, .i, .s, .b, .i] (.t 51) (.t 52), none, [51, 52]⟩, ⟨some 54, .mov (.t 53), none, [53]⟩, ⟨some 55, .fad 0 (.t 4), some (54, false), []⟩, ⟨some 56, .ld false 1 (.t 55), some (54, false), [55]⟩, ⟨some 57, .bin false .lss (.t 56) (.c (.int .i64 1)), some (54, false), [56]⟩, ⟨some 58, .pick (.t 54) (.c (.bool true)) (.t 57), none, [54, 57]⟩, ⟨some 59, .mov (.t 58), none, [58]⟩, ⟨some 60, .fad 0 (.t 4), some (59, false), []⟩, ⟨some 61, .ld false 1 (.t 60), some (59, false), [60]⟩, ⟨some 62, .bin false .gtr (.t 61) (.c (.int .i64 6)), some (59, false), [61]⟩, ⟨some 63, .pick (.t 59) (.c (.bool true)) (.t 62), none, [59, 62]⟩, ⟨some 64, .mov (.t 63), none, [63]⟩, ⟨some 65, .fad 3 (.t 4), some (64, false), []⟩, ⟨some 66, .ld false 1 (.t 65), some (64, false), [65]⟩, ⟨some 67, .bin false .gtr (.t 66) (.c (.int .i64 255)), some (64, false), [66]⟩, ⟨some 68, .pick (.t 64) (.c (.bool true)) (.t 67), none, [64, 67]⟩, ⟨some 69, .mov (.t 68), none, [68]⟩, ⟨some 70, .fad 9 (.t 4), some (69, false), []⟩, ⟨some 71, .fad 1 (.t 70), some (69, false), [70]⟩, ⟨some 72, .ld false 1 (.t 71), some (69, false), [71]⟩, ⟨some 73, .bin false .gtr (.t 72) (.c (.int .u8 15)), some (69, false), [72]⟩, ⟨some 74, .pick (.t 69) (.c (.bool true)) (.t 73), none, [69, 73]⟩, ⟨some 75, .mov (.t 74), none, [74]⟩, ⟨some 76, .fad 0 (.t 4), some (75, false), []⟩, ⟨some 77, .ld false 1 (.t 76), some (75, false), [76]⟩, ⟨some 78, .bin false .eql (.t 77) (.c (.int .i64 1)), some (75, false), [77]⟩, ⟨some 79, .mov (.t 78), some (75, false), [78]⟩, ⟨some 80, .fad 8 (.t 4), some (79, true), [4]⟩, ⟨some 81, .ld false 1 (.t 80), some (79, true), [80]⟩, ⟨some 82, .len true (.t 81), some (79, true), [81]⟩, ⟨some 83, .bin false .neq (.t 82) (.c (.int .i64 1)), some (79, true), [82]⟩, ⟨some 84, .pick (.t 79) (.t 83) (.c (.bool false)), some (75, false), [79, 83]⟩, ⟨some 85, .pick (.t 75) (.c (.bool true)) (.t 84), none, [75, 84]⟩])
        (.cond (.t 85)
          (.drop [13, 14, 15, 85]
           (.seq
            (.region false [] [⟨some 2, .mov (.c (.bool false)), none, []⟩])
           .ret))
          (.drop [85]
           .skip))))))))))
    (.region false [] [⟨some 86, .bin false .add (.t 15) (.c (.int .i64 1)), none, [15]⟩, ⟨some 15, .mov (.t 86), none, [86]⟩])))))))
 (.seq
  (.region false [] [⟨some 2, .mov (.c (.bool true)), none, []⟩])
 .ret)))))
def rs_5 : List ARes := [.tmp 2]
theorem g_5 : Good Tryz.prog 5 ac_5 rs_5 := ⟨Tryz.f5, Tryz.f5.body.getD .skip, by kernel_rfl, by kernel_rfl, by kernel_rfl, ⟨by kernel_rfl, by kernel_rfl⟩, by kernel_rfl, by kernel_rfl⟩
theorem ok_5 {Γ : Env} (hΓ : EnvOk Tryz.prog Γ) (sp : Spec) (h : WB Γ ac_5 rs_5 sp) : CallOk Tryz.prog 5 sp := g_5.ok hΓ mix_ok sp h

/-- chantry/chantrylaw21.ScriptNothing -/
def ac_6 : ACode :=
 (.seq
  (.region false [] [⟨some 6, .mov (.c (.bool false)), none, []⟩])
 (.seq
  (.seq
   (.region false [] [⟨some 11, .call 8 [], none, []⟩, ⟨some 12, .un .not (.t 11), none, [11]⟩])
  (.cond (.t 12)
    (.drop [0, 1, 2, 12]
     (.seq
      (.region false [] [⟨some 6, .mov (.c (.bool false)), none, []⟩])
     .ret))
    (.drop [12]
     .skip)))
 (.seq
  (.seq
   (.region false [] [⟨some 13, .mov (.t 0), none, []⟩, ⟨some 14, .len false (.t 13), none, [13]⟩, ⟨some 15, .bin false .gtr (.t 14) (.c (.int .i64 2000)), none, [14]⟩])
  (.cond (.t 15)
    (.drop [0, 1, 2, 15]
     (.seq
      (.region false [] [⟨some 6, .mov (.c (.bool true)), none, []⟩])
     .ret))
    (.drop [15]
     .skip)))
 (.seq
  (.region false [] [⟨some 16, .mov (.t 0), none, []⟩, ⟨some 17, .call 9 [.t 16], none, [16]⟩, ⟨some 7, .mov (.t 17), none, [17]⟩])
 (.seq
  (.region false [] [⟨some 18, .mov (.t 1), none, []⟩, ⟨some 19, .mks 5 1 (.int .u8 0) (.t 18) (.t 18), none, [18]⟩, ⟨some 20, .mov (.t 0), none, [0]⟩, ⟨some 21, .app 5 1 1 (.t 19) (.t 20), none, [19, 20]⟩, ⟨some 22, .call 9 [.t 21], none, [21]⟩, ⟨some 8, .mov (.t 22), none, [22]⟩])
 (.seq
  (.seq
   (.region false [] [⟨some 23, .mov (.t 7), none, []⟩, ⟨some 24, .len false (.t 23), none, [23]⟩, ⟨some 25, .mov (.t 8), none, []⟩, ⟨some 26, .len false (.t 25), none, [25]⟩, ⟨some 27, .bin false .neq (.t 24) (.t 26), none, [24, 26]⟩])
  (.cond (.t 27)
    (.drop [1, 2, 7, 8, 27]
     (.seq
      (.region false [] [⟨some 6, .mov (.c (.bool false)), none, []⟩])
     .ret))
    (.drop [27]
     .skip)))
 (.seq
  (.seq
   (.region false [] [⟨some 28, .mov (.t 7), none, []⟩, ⟨some 29, .len false (.t 28), none, [28]⟩, ⟨some 30, .mov (.c (.int .i64 0)), none, []⟩])
  (.block 0
   (.loop [1, 2, 7, 8, 29, 30]
    (.seq
     (.region false [] [⟨some 31, .bin false .lss (.t 30) (.t 29), none, []⟩])
    (.seq
     (.cond (.t 31)
       (.drop [31]
        .skip)
       (.drop [7, 8, 29, 30, 31]
        (.exit 0)))
    (.seq
     (.block 1
      (.seq
       (.region false [] [⟨some 32, .mov (.t 30), none, []⟩, ⟨some 9, .mov (.t 32), none, [32]⟩])
      (.seq
       (.draws (.tak 0 ⟨some 33, .mov (.t 7), none, []⟩ (.tak 1 ⟨some 34, .mov (.t 9), none, []⟩ (.tak 2 ⟨some 35, .iax 11 (.t 33) (.t 34), none, []⟩ (.tak 3 ⟨some 36, .ld true 11 (.t 35), none, []⟩ (.tak 4 ⟨some 37, .mov (.t 8), none, []⟩ (.tak 5 ⟨some 38, .mov (.t 9), none, []⟩ (.tak 6 ⟨some 39, .iax 11 (.t 37) (.t 38), none, []⟩ (.tak 7 ⟨some 40, .ld true 11 (.t 39), none, []⟩ (.tak 8 ⟨some 41, .eqs true [.i, .i, .i, .i, .i, .i, .i, .i, .s, .b, .i] (.t 36) (.t 40), none, []⟩ .done))))))))) [[], [], [0, 1], [2], [], [], [4, 5], [6], [3, 7]] [⟨some 33, .mov (.t 7), none, []⟩, ⟨some 34, .mov (.t 9), none, []⟩, ⟨some 35, .iax 11 (.t 33) (.t 34), none, []⟩, ⟨some 36, .ld true 11 (.t 35), none, []⟩, ⟨some 37, .mov (.t 8), none, []⟩, ⟨some 38, .mov (.t 9), none, []⟩, ⟨some 39, .iax 11 (.t 37) (.t 38), none, []⟩, ⟨some 40, .ld true 11 (.t 39), none, []⟩, ⟨some 41, .eqs true [.i, .i, .i, .i, .i, .i, .i, .i, .s, .b, .i] (.t 36) (.t 40), none, []⟩])
      (.drop [9, 33, 34, 35, 36, 37, 38, 39, 40]
       (.cond (.t 41)
         (.drop [1, 2, 7, 8, 29, 30, 41]
          (.seq
           (.region false [] [⟨some 6, .mov (.c (.bool false)), none, []⟩])
          .ret))
         (.drop [41]
          .skip))))))
    (.region false [] [⟨some 42, .bin false .add (.t 30) (.c (.int .i64 1)), none, [30]⟩, ⟨some 30, .mov (.t 42), none, [42]⟩])))))))
 (.seq
  (.region false [] [⟨some 43, .mov (.t 2), none, [2]⟩, ⟨some 44, .bin false .rem (.t 43) (.c (.int .u8 30)), none, [43]⟩, ⟨some 45, .bin false .mul (.c (.int .u8 7)) (.t 44), none, [44]⟩, ⟨some 46, .mov (.t 1), none, [1]⟩, ⟨some 47, .bin false .rem (.t 46) (.c (.int .u8 30)), none, [46]⟩, ⟨some 48, .bin false .mul (.c (.int .u8 7)) (.t 47), none, [47]⟩, ⟨some 49, .bsl 5 1 [.t 45, .t 48, .c (.int .u8 0)], none, [45, 48]⟩, ⟨some 50, .call 9 [.t 49], none, [49]⟩, ⟨some 10, .mov (.t 50), none, [50]⟩])
 (.seq
  (.region false [] [⟨some 51, .mov (.t 10), none, [10]⟩, ⟨some 52, .len false (.t 51), none, [51]⟩, ⟨some 53, .bin false .eql (.t 52) (.c (.int .i64 0)), none, [52]⟩, ⟨some 6, .mov (.t 53), none, [53]⟩])
 .ret)))))))))
def rs_6 : List ARes := [.tmp 6]
theorem g_6 : Good Tryz.prog 6 ac_6 rs_6 := ⟨Tryz.f6, Tryz.f6.body.getD .skip, by kernel_rfl, by kernel_rfl, by kernel_rfl, ⟨by kernel_rfl, by kernel_rfl⟩, by kernel_rfl, by kernel_rfl⟩
theorem ok_6 {Γ : Env} (hΓ : EnvOk Tryz.prog Γ) (sp : Spec) (h : WB Γ ac_6 rs_6 sp) : CallOk Tryz.prog 6 sp := g_6.ok hΓ mix_ok sp h

/-- chantry/script.Decode -/
def ac_9 : ACode :=
 (.seq
  (.region false [] [⟨some 2, .mov (.c (.slice none 0 0)), none, []⟩])
 (.seq
  (.region false [] [⟨some 3, .mov (.c (.slice none 0 0)), none, []⟩])
 (.seq
  (.block 0
   (.loop [0, 3]
    (.seq
     (.seq
      (.region false [] [⟨some 6, .mov (.t 0), none, []⟩, ⟨some 7, .len false (.t 6), none, [6]⟩, ⟨some 8, .bin false .gtr (.t 7) (.c (.int .i64 0)), none, [7]⟩, ⟨some 9, .mov (.t 8), none, [8]⟩, ⟨some 10, .mov (.t 3), some (9, true), []⟩, ⟨some 11, .len false (.t 10), some (9, true), [10]⟩, ⟨some 12, .bin false .lss (.t 11) (.c (.int .i64 300)), some (9, true), [11]⟩, ⟨some 13, .pick (.t 9) (.t 12) (.c (.bool false)), none, [9, 12]⟩])
     (.cond (.t 13)
       (.drop [13]
        .skip)
       (.drop [0, 13]
        (.exit 0))))
    (.block 1
     (.seq
      (.region false [] [⟨some 14, .mov (.t 0), none, []⟩, ⟨some 15, .iax 1 (.t 14) (.c (.int .i64 0)), none, [14]⟩, ⟨some 16, .ld false 1 (.t 15), none, [15]⟩, ⟨some 17, .bin false .rem (.t 16) (.c (.int .u8 7)), none, [16]⟩, ⟨some 18, .cvt .i64 (.t 17), none, [17]⟩, ⟨some 4, .mov (.t 18), none, [18]⟩])
     (.seq
      (.region false [] [⟨some 19, .mov (.t 0), none, [0]⟩, ⟨some 20, .slo 1 (.t 19) (.c (.int .i64 1)), none, [19]⟩, ⟨some 0, .mov (.t 20), none, [20]⟩])
     (.seq
      (.seq
       (.region false [] [⟨some 21, .mov (.t 4), none, []⟩, ⟨some 22, .bin false .eql (.t 21) (.c (.int .i64 0)), none, [21]⟩])
      (.cond (.t 22)
        (.drop [4, 22]
         (.exit 1))
        (.drop [22]
         .skip)))
     (.seq
      (.region false [] [⟨some 23, .mov (.t 4), none, []⟩, ⟨some 24, .call 23 [.t 23], none, [23]⟩, ⟨some 5, .mov (.t 24), none, [24]⟩])
     (.seq
      (.seq
       (.region false [] [⟨some 25, .mov (.t 0), none, []⟩, ⟨some 26, .len false (.t 25), none, [25]⟩, ⟨some 27, .mov (.t 5), none, []⟩, ⟨some 28, .bin false .lss (.t 26) (.t 27), none, [26, 27]⟩])
      (.cond (.t 28)
        (.drop [0, 4, 5, 28]
         (.exit 0))
        (.drop [28]
         .skip)))
     (.seq
      (.region false [] [⟨some 29, .mov (.t 3), none, [3]⟩, ⟨some 30, .mov (.t 4), none, [4]⟩, ⟨some 31, .mov (.t 0), none, []⟩, ⟨some 32, .mov (.t 5), none, []⟩, ⟨some 33, .slc false 1 (.t 31) none (some (.t 32)), none, [31, 32]⟩, ⟨some 34, .call 24 [.t 30, .t 33], none, [30, 33]⟩, ⟨some 35, .bsl 37 11 [.t 34], none, [34]⟩, ⟨some 36, .app 37 11 80 (.t 29) (.t 35), none, [29, 35]⟩, ⟨some 3, .mov (.t 36), none, [36]⟩])
     (.region false [] [⟨some 37, .mov (.t 0), none, [0]⟩, ⟨some 38, .mov (.t 5), none, [5]⟩, ⟨some 39, .slo 1 (.t 37) (.t 38), none, [37, 38]⟩, ⟨some 0, .mov (.t 39), none, [39]⟩])))))))))))
 (.seq
  (.region false [] [⟨some 40, .mov (.t 3), none, [3]⟩, ⟨some 2, .mov (.t 40), none, [40]⟩])
 .ret))))
def rs_9 : List ARes := [.tmp 2]
theorem g_9 : Good Tryz.prog 9 ac_9 rs_9 := ⟨Tryz.f9, Tryz.f9.body.getD .skip, by kernel_rfl, by kernel_rfl, by kernel_rfl, ⟨by kernel_rfl, by kernel_rfl⟩, by kernel_rfl, by kernel_rfl⟩
theorem ok_9 {Γ : Env} (hΓ : EnvOk Tryz.prog Γ) (sp : Spec) (h : WB Γ ac_9 rs_9 sp) : CallOk Tryz.prog 9 sp := g_9.ok hΓ mix_ok sp h

/-- chantry/chantryref21.Decode -/
def ac_10 : ACode :=
 (.seq
  (.region false [] [⟨some 2, .mov (.c (.slice none 0 0)), none, []⟩])
 (.seq
  (.region false [] [⟨some 3, .mov (.c (.slice none 0 0)), none, []⟩])
 (.seq
  (.block 0
   (.loop [0, 3]
    (.seq
     (.seq
      (.region false [] [⟨some 6, .mov (.t 0), none, []⟩, ⟨some 7, .len false (.t 6), none, [6]⟩, ⟨some 8, .bin false .gtr (.t 7) (.c (.int .i64 0)), none, [7]⟩, ⟨some 9, .mov (.t 8), none, [8]⟩, ⟨some 10, .mov (.t 3), some (9, true), []⟩, ⟨some 11, .len false (.t 10), some (9, true), [10]⟩, ⟨some 12, .bin false .lss (.t 11) (.c (.int .i64 300)), some (9, true), [11]⟩, ⟨some 13, .pick (.t 9) (.t 12) (.c (.bool false)), none, [9, 12]⟩])
     (.cond (.t 13)
       (.drop [13]
        .skip)
       (.drop [0, 13]
        (.exit 0))))
    (.block 1
     (.seq
      (.region false [] [⟨some 14, .mov (.t 0), none, []⟩, ⟨some 15, .iax 1 (.t 14) (.c (.int .i64 0)), none, [14]⟩, ⟨some 16, .ld false 1 (.t 15), none, [15]⟩, ⟨some 17, .cvt .i64 (.t 16), none, [16]⟩, ⟨some 18, .bin false .rem (.t 17) (.c (.int .i64 7)), none, [17]⟩, ⟨some 4, .mov (.t 18), none, [18]⟩])
     (.seq
      (.seq
       (.region false [] [⟨some 19, .mov (.t 4), none, []⟩, ⟨some 20, .bin false .eql (.t 19) (.c (.int .i64 0)), none, [19]⟩])
      (.cond (.t 20)
        (.drop [4, 20]
         (.seq
          (.region false [] [⟨some 21, .mov (.t 0), none, [0]⟩, ⟨some 22, .slo 1 (.t 21) (.c (.int .i64 1)), none, [21]⟩, ⟨some 0, .mov (.t 22), none, [22]⟩])
         (.exit 1)))
        (.drop [20]
         .skip)))
     (.seq
      (.region false [] [⟨some 23, .mov (.t 4), none, [4]⟩, ⟨some 24, .call 25 [.t 23], none, [23]⟩, ⟨some 5, .mov (.t 24), none, [24]⟩])
     (.seq
      (.seq
       (.region false [] [⟨some 25, .mov (.t 0), none, []⟩, ⟨some 26, .len false (.t 25), none, [25]⟩, ⟨some 27, .mov (.t 5), none, []⟩, ⟨some 28, .bin false .lss (.t 26) (.t 27), none, [26, 27]⟩])
      (.cond (.t 28)
        (.drop [0, 5, 28]
         (.seq
          (.region false [] [⟨some 29, .mov (.t 3), none, [3]⟩, ⟨some 2, .mov (.t 29), none, [29]⟩])
         .ret))
        (.drop [28]
         .skip)))
     (.seq
      (.region false [] [⟨some 30, .mov (.t 3), none, [3]⟩, ⟨some 31, .mov (.t 0), none, []⟩, ⟨some 32, .mov (.t 5), none, []⟩, ⟨some 33, .slc false 1 (.t 31) none (some (.t 32)), none, [31, 32]⟩, ⟨some 34, .call 26 [.t 33], none, [33]⟩, ⟨some 35, .bsl 33 11 [.t 34], none, [34]⟩, ⟨some 36, .app 33 11 80 (.t 30) (.t 35), none, [30, 35]⟩, ⟨some 3, .mov (.t 36), none, [36]⟩])
     (.region false [] [⟨some 37, .mov (.t 0), none, [0]⟩, ⟨some 38, .mov (.t 5), none, [5]⟩, ⟨some 39, .slo 1 (.t 37) (.t 38), none, [37, 38]⟩, ⟨some 0, .mov (.t 39), none, [39]⟩]))))))))))
 (.seq
  (.region false [] [⟨some 40, .mov (.t 3), none, [3]⟩, ⟨some 2, .mov (.t 40), none, [40]⟩])
 .ret))))
def rs_10 : List ARes := [.tmp 2]
theorem g_10 : Good Tryz.prog 10 ac_10 rs_10 := ⟨Tryz.f10, Tryz.f10.body.getD .skip, by kernel_rfl, by kernel_rfl, by kernel_rfl, ⟨by kernel_rfl, by kernel_rfl⟩, by kernel_rfl, by kernel_rfl⟩
theorem ok_10 {Γ : Env} (hΓ : EnvOk Tryz.prog Γ) (sp : Spec) (h : WB Γ ac_10 rs_10 sp) : CallOk Tryz.prog 10 sp := g_10.ok hΓ mix_ok sp h

/-- chantry/chantrylaw21.ours -/
def ac_11 : ACode :=
 (.seq
  (.region false [] [⟨some 1, .box (.t 0), none, [0]⟩, ⟨some 2, .alloc [.int .i64 0, .int .u8 0, .int .u8 0, .int .i64 0, .int .i64 0, .int .i64 0, .int .u8 0, .int .i64 0, .string ⟨#[]⟩, .bool false, .int .u8 0], none, []⟩])
 (.seal_ 1
  (.seq
   (.region false [] [⟨some 3, .fad 0 (.t 1), none, []⟩, ⟨some 4, .ld false 1 (.t 3), none, [3]⟩, ⟨some 5, .fad 1 (.t 1), none, []⟩, ⟨some 6, .ld false 1 (.t 5), none, [5]⟩, ⟨some 7, .fad 2 (.t 1), none, []⟩, ⟨some 8, .ld false 1 (.t 7), none, [7]⟩, ⟨some 9, .fad 3 (.t 1), none, []⟩, ⟨some 10, .ld false 1 (.t 9), none, [9]⟩, ⟨some 11, .fad 4 (.t 1), none, []⟩, ⟨some 12, .ld false 1 (.t 11), none, [11]⟩, ⟨some 13, .fad 5 (.t 1), none, []⟩, ⟨some 14, .ld true 3 (.t 13), none, [13]⟩, ⟨some 15, .fad 8 (.t 1), none, []⟩, ⟨some 16, .ld false 1 (.t 15), none, [15]⟩, ⟨some 17, .fad 9 (.t 1), none, [1]⟩, ⟨some 18, .ld true 2 (.t 17), none, [17]⟩, ⟨some 19, .bld [.int .i64 0, .int .u8 0, .int .u8 0, .int .i64 0, .int .i64 0, .int .i64 0, .int .u8 0, .int .i64 0, .string ⟨#[]⟩, .bool false, .int .u8 0] [(0, 1, .t 4), (1, 1, .t 6), (2, 1, .t 8), (3, 1, .t 10), (4, 1, .t 12), (5, 3, .t 14), (8, 1, .t 16), (9, 2, .t 18)], none, [4, 6, 8, 10, 12, 14, 16, 18]⟩, ⟨none, .st 11 (.t 2) (.t 19), none, [19]⟩])
  .ret)))
def rs_11 : List ARes := [.cell 2 true 11]
theorem g_11 : Good Tryz.prog 11 ac_11 rs_11 := ⟨Tryz.f11, Tryz.f11.body.getD .skip, by kernel_rfl, by kernel_rfl, by kernel_rfl, ⟨by kernel_rfl, by kernel_rfl⟩, by kernel_rfl, by kernel_rfl⟩
theorem ok_11 {Γ : Env} (hΓ : EnvOk Tryz.prog Γ) (sp : Spec) (h : WB Γ ac_11 rs_11 sp) : CallOk Tryz.prog 11 sp := g_11.ok hΓ mix_ok sp h

/-- chantry/script.size -/
def ac_23 : ACode :=
 (.seq
  (.region false [] [⟨some 2, .mov (.c (.int .i64 0)), none, []⟩])
 (.seq
  (.seq
   (.region false [] [⟨some 3, .mov (.t 0), none, [0]⟩])
  (.block 0
   (.seq
    (.seq
     (.region false [] [⟨some 5, .bin false .eql (.t 3) (.c (.int .i64 1)), none, []⟩, ⟨some 4, .mov (.t 5), none, [5]⟩])
    (.cond (.t 4)
      .skip
      (.drop [4]
       (.region false [] [⟨some 6, .bin false .eql (.t 3) (.c (.int .i64 2)), none, []⟩, ⟨some 4, .mov (.t 6), none, [6]⟩]))))
   (.cond (.t 4)
     (.drop [3, 4]
      (.seq
       (.region false [] [⟨some 2, .mov (.c (.int .i64 2)), none, []⟩])
      .ret))
     (.drop [4]
      (.seq
       (.region false [] [⟨some 8, .bin false .eql (.t 3) (.c (.int .i64 6)), none, [3]⟩, ⟨some 7, .mov (.t 8), none, [8]⟩])
      (.cond (.t 7)
        (.drop [7]
         (.seq
          (.region false [] [⟨some 2, .mov (.c (.int .i64 6)), none, []⟩])
         .ret))
        (.drop [7]
         .skip))))))))
 (.seq
  (.region false [] [⟨some 2, .mov (.c (.int .i64 1)), none, []⟩])
 .ret)))
def rs_23 : List ARes := [.tmp 2]
theorem g_23 : Good Tryz.prog 23 ac_23 rs_23 := ⟨Tryz.f23, Tryz.f23.body.getD .skip, by kernel_rfl, by kernel_rfl, by kernel_rfl, ⟨by kernel_rfl, by kernel_rfl⟩, by kernel_rfl, by kernel_rfl⟩
theorem ok_23 {Γ : Env} (hΓ : EnvOk Tryz.prog Γ) (sp : Spec) (h : WB Γ ac_23 rs_23 sp) : CallOk Tryz.prog 23 sp := g_23.ok hΓ mix_ok sp h

/-- chantry/script.step -/
def ac_24 : ACode :=
 (.seq
  (.region false [] [⟨some 4, .alloc [.int .i64 0, .int .u8 0, .int .u8 0, .int .i64 0, .int .i64 0, .int .i64 0, .int .u8 0, .int .i64 0, .string ⟨#[]⟩, .bool false, .int .u8 0], none, []⟩])
 (.seq
  (.region false [] [⟨some 6, .mov (.t 0), none, []⟩, ⟨some 7, .bld [.int .i64 0, .int .u8 0, .int .u8 0, .int .i64 0, .int .i64 0, .int .i64 0, .int .u8 0, .int .i64 0, .string ⟨#[]⟩, .bool false, .int .u8 0] [(0, 1, .t 6)], none, [6]⟩, ⟨some 5, .alloc [.int .i64 0, .int .u8 0, .int .u8 0, .int .i64 0, .int .i64 0, .int .i64 0, .int .u8 0, .int .i64 0, .string ⟨#[]⟩, .bool false, .int .u8 0], none, []⟩, ⟨none, .st 11 (.t 5) (.t 7), none, [7]⟩])
 (.seq
  (.seq
   (.region false [] [⟨some 8, .mov (.t 0), none, [0]⟩])
  (.block 0
   (.seq
    (.region false [] [⟨some 15, .bin false .eql (.t 8) (.c (.int .i64 1)), none, []⟩, ⟨some 14, .mov (.t 15), none, [15]⟩])
   (.cond (.t 14)
     (.drop [8, 14]
      (.draws (.tak 0 ⟨some 16, .mov (.t 1), none, []⟩ (.tak 1 ⟨some 17, .iax 1 (.t 16) (.c (.int .i64 0)), none, []⟩ (.tak 2 ⟨some 18, .ld false 1 (.t 17), none, []⟩ (.tak 3 ⟨some 19, .mov (.t 1), none, []⟩ (.tak 4 ⟨some 20, .slc false 1 (.t 19) (some (.c (.int .i64 1))) (some (.c (.int .i64 2))), none, []⟩ (.tak 5 ⟨some 21, .b2s (.t 20), none, []⟩ (.tak 6 ⟨some 22, .fad 1 (.t 5), none, []⟩ (.alt 7 ⟨none, .st 1 (.t 22) (.t 18), none, []⟩ (.tak 8 ⟨some 23, .fad 8 (.t 5), none, []⟩ (.alt 9 ⟨none, .st 1 (.t 23) (.t 21), none, []⟩ .done .stop)) .stop)))))))) [[], [0], [1], [], [3], [4], [0, 1, 2], [6, 2, 0, 1, 2], [0, 1, 2, 3, 4, 5, 6, 7], [8, 5, 7, 0, 1, 2, 3, 4, 5, 6, 7]] [⟨some 16, .mov (.t 1), none, []⟩, ⟨some 17, .iax 1 (.t 16) (.c (.int .i64 0)), none, []⟩, ⟨some 18, .ld false 1 (.t 17), none, []⟩, ⟨some 19, .mov (.t 1), none, []⟩, ⟨some 20, .slc false 1 (.t 19) (some (.c (.int .i64 1))) (some (.c (.int .i64 2))), none, []⟩, ⟨some 21, .b2s (.t 20), none, []⟩, ⟨some 22, .fad 1 (.t 5), none, []⟩, ⟨none, .st 1 (.t 22) (.t 18), none, []⟩, ⟨some 23, .fad 8 (.t 5), none, []⟩, ⟨none, .st 1 (.t 23) (.t 21), none, []⟩]))
     (.drop [14]
      (.seq
       (.region false [] [⟨some 25, .bin false .eql (.t 8) (.c (.int .i64 2)), none, []⟩, ⟨some 24, .mov (.t 25), none, [25]⟩])
      (.cond (.t 24)
        (.drop [8, 24]
         (.draws (.tak 0 ⟨some 26, .mov (.t 1), none, []⟩ (.tak 1 ⟨some 27, .iax 1 (.t 26) (.c (.int .i64 0)), none, []⟩ (.tak 2 ⟨some 28, .ld false 1 (.t 27), none, []⟩ (.tak 3 ⟨some 29, .mov (.t 1), none, []⟩ (.tak 4 ⟨some 30, .iax 1 (.t 29) (.c (.int .i64 1)), none, []⟩ (.tak 5 ⟨some 31, .ld false 1 (.t 30), none, []⟩ (.tak 6 ⟨some 32, .bin false .and (.t 31) (.c (.int .u8 1)), none, []⟩ (.tak 7 ⟨some 33, .bin false .eql (.t 32) (.c (.int .u8 1)), none, []⟩ (.tak 8 ⟨some 34, .mov (.t 1), none, []⟩ (.tak 9 ⟨some 35, .iax 1 (.t 34) (.c (.int .i64 1)), none, []⟩ (.tak 10 ⟨some 36, .ld false 1 (.t 35), none, []⟩ (.tak 11 ⟨some 37, .bin false .shr (.t 36) (.c (.int .u64 1)), none, []⟩ (.tak 12 ⟨some 38, .bin false .and (.t 37) (.c (.int .u8 15)), none, []⟩ (.tak 13 ⟨some 39, .bld [.bool false, .int .u8 0] [(0, 1, .t 33), (1, 1, .t 38)], none, []⟩ (.tak 14 ⟨some 40, .fad 1 (.t 5), none, []⟩ (.alt 15 ⟨none, .st 1 (.t 40) (.t 28), none, []⟩ (.tak 16 ⟨some 41, .fad 9 (.t 5), none, []⟩ (.alt 17 ⟨none, .st 2 (.t 41) (.t 39), none, []⟩ .done .stop)) .stop)))))))))))))))) [[], [0], [1], [], [3], [4], [5], [6], [], [8], [9], [10], [11], [7, 12], [0, 1, 2], [14, 2, 0, 1, 2], [0, 1, 2, 3, 4, 5, 6, 7, 8, 9, 10, 11, 12, 13, 14, 15], [16, 13, 15, 0, 1, 2, 3, 4, 5, 6, 7, 8, 9, 10, 11, 12, 13, 14, 15]] [⟨some 26, .mov (.t 1), none, []⟩, ⟨some 27, .iax 1 (.t 26) (.c (.int .i64 0)), none, []⟩, ⟨some 28, .ld false 1 (.t 27), none, []⟩, ⟨some 29, .mov (.t 1), none, []⟩, ⟨some 30, .iax 1 (.t 29) (.c (.int .i64 1)), none, []⟩, ⟨some 31, .ld false 1 (.t 30), none, []⟩, ⟨some 32, .bin false .and (.t 31) (.c (.int .u8 1)), none, []⟩, ⟨some 33, .bin false .eql (.t 32) (.c (.int .u8 1)), none, []⟩, ⟨some 34, .mov (.t 1), none, []⟩, ⟨some 35, .iax 1 (.t 34) (.c (.int .i64 1)), none, []⟩, ⟨some 36, .ld false 1 (.t 35), none, []⟩, ⟨some 37, .bin false .shr (.t 36) (.c (.int .u64 1)), none, []⟩, ⟨some 38, .bin false .and (.t 37) (.c (.int .u8 15)), none, []⟩, ⟨some 39, .bld [.bool false, .int .u8 0] [(0, 1, .t 33), (1, 1, .t 38)], none, []⟩, ⟨some 40, .fad 1 (.t 5), none, []⟩, ⟨none, .st 1 (.t 40) (.t 28), none, []⟩, ⟨some 41, .fad 9 (.t 5), none, []⟩, ⟨none, .st 2 (.t 41) (.t 39), none, []⟩]))
        (.drop [24]
         (.seq
          (.region false [] [⟨some 43, .bin false .eql (.t 8) (.c (.int .i64 6)), none, [8]⟩, ⟨some 42, .mov (.t 43), none, [43]⟩])
         (.cond (.t 42)
           (.drop [42]
            (.seq
             (.draws (.tak 0 ⟨some 44, .mov (.t 1), none, []⟩ (.tak 1 ⟨some 45, .iax 1 (.t 44) (.c (.int .i64 0)), none, []⟩ (.tak 2 ⟨some 46, .ld false 1 (.t 45), none, []⟩ (.tak 3 ⟨some 47, .mov (.t 1), none, []⟩ (.tak 4 ⟨some 48, .iax 1 (.t 47) (.c (.int .i64 1)), none, []⟩ (.tak 5 ⟨some 49, .ld false 1 (.t 48), none, []⟩ (.tak 6 ⟨some 50, .mov (.t 1), none, []⟩ (.tak 7 ⟨some 51, .iax 1 (.t 50) (.c (.int .i64 2)), none, []⟩ (.tak 8 ⟨some 52, .ld false 1 (.t 51), none, []⟩ (.tak 9 ⟨some 53, .cvt .i64 (.t 52), none, []⟩ (.tak 10 ⟨some 54, .fad 1 (.t 5), none, []⟩ (.alt 11 ⟨none, .st 1 (.t 54) (.t 46), none, []⟩ (.tak 12 ⟨some 55, .fad 2 (.t 5), none, []⟩ (.alt 13 ⟨none, .st 1 (.t 55) (.t 49), none, []⟩ (.tak 14 ⟨some 56, .fad 4 (.t 5), none, []⟩ (.alt 15 ⟨none, .st 1 (.t 56) (.t 53), none, []⟩ .done .stop)) .stop)) .stop)))))))))))) [[], [0], [1], [], [3], [4], [], [6], [7], [8], [0, 1, 2], [10, 2, 0, 1, 2], [0, 1, 2, 3, 4, 5, 10, 11], [12, 5, 11, 0, 1, 2, 3, 4, 5, 10, 11], [0, 1, 2, 3, 4, 5, 6, 7, 8, 9, 10, 11, 12, 13], [14, 9, 13, 0, 1, 2, 3, 4, 5, 6, 7, 8, 9, 10, 11, 12, 13]] [⟨some 44, .mov (.t 1), none, []⟩, ⟨some 45, .iax 1 (.t 44) (.c (.int .i64 0)), none, []⟩, ⟨some 46, .ld false 1 (.t 45), none, []⟩, ⟨some 47, .mov (.t 1), none, []⟩, ⟨some 48, .iax 1 (.t 47) (.c (.int .i64 1)), none, []⟩, ⟨some 49, .ld false 1 (.t 48), none, []⟩, ⟨some 50, .mov (.t 1), none, []⟩, ⟨some 51, .iax 1 (.t 50) (.c (.int .i64 2)), none, []⟩, ⟨some 52, .ld false 1 (.t 51), none, []⟩, ⟨some 53, .cvt .i64 (.t 52), none, []⟩, ⟨some 54, .fad 1 (.t 5), none, []⟩, ⟨none, .st 1 (.t 54) (.t 46), none, []⟩, ⟨some 55, .fad 2 (.t 5), none, []⟩, ⟨none, .st 1 (.t 55) (.t 49), none, []⟩, ⟨some 56, .fad 4 (.t 5), none, []⟩, ⟨none, .st 1 (.t 56) (.t 53), none, []⟩])
            (.drop [44, 45, 46, 47, 48, 49, 50, 51, 52, 53, 54, 55, 56]
             (.seq
              (.draws (.tak 0 ⟨some 57, .mov (.t 1), none, []⟩ (.tak 1 ⟨some 58, .iax 1 (.t 57) (.c (.int .i64 3)), none, []⟩ (.tak 2 ⟨some 59, .ld false 1 (.t 58), none, []⟩ (.tak 3 ⟨some 60, .mov (.t 1), none, []⟩ (.tak 4 ⟨some 61, .iax 1 (.t 60) (.c (.int .i64 4)), none, []⟩ (.tak 5 ⟨some 62, .ld false 1 (.t 61), none, []⟩ (.tak 6 ⟨some 63, .cvt .i64 (.t 62), none, []⟩ (.tak 7 ⟨some 64, .bld [.int .i64 0, .int .u8 0, .int .i64 0] [(1, 1, .t 59), (2, 1, .t 63)], none, []⟩ (.tak 8 ⟨some 65, .fad 5 (.t 5), none, []⟩ (.alt 9 ⟨none, .st 3 (.t 65) (.t 64), none, []⟩ .done .stop)))))))))) [[], [0], [1], [], [3], [4], [5], [2, 6], [0, 1, 2, 3, 4, 5, 6, 7], [8, 7, 0, 1, 2, 3, 4, 5, 6, 7]] [⟨some 57, .mov (.t 1), none, []⟩, ⟨some 58, .iax 1 (.t 57) (.c (.int .i64 3)), none, []⟩, ⟨some 59, .ld false 1 (.t 58), none, []⟩, ⟨some 60, .mov (.t 1), none, []⟩, ⟨some 61, .iax 1 (.t 60) (.c (.int .i64 4)), none, []⟩, ⟨some 62, .ld false 1 (.t 61), none, []⟩, ⟨some 63, .cvt .i64 (.t 62), none, []⟩, ⟨some 64, .bld [.int .i64 0, .int .u8 0, .int .i64 0] [(1, 1, .t 59), (2, 1, .t 63)], none, []⟩, ⟨some 65, .fad 5 (.t 5), none, []⟩, ⟨none, .st 3 (.t 65) (.t 64), none, []⟩])
             (.drop [57, 58, 59, 60, 61, 62, 63, 64, 65]
              (.draws (.tak 0 ⟨some 66, .fad 5 (.t 5), none, []⟩ (.tak 2 ⟨some 68, .mov (.t 1), none, []⟩ (.tak 3 ⟨some 69, .iax 1 (.t 68) (.c (.int .i64 5)), none, []⟩ (.tak 4 ⟨some 70, .ld false 1 (.t 69), none, []⟩ (.alt 1 ⟨some 67, .ld true 3 (.t 66), none, []⟩ (.alt 5 ⟨some 71, .call 40 [.t 67, .t 70], none, []⟩ (.tak 6 ⟨some 72, .fad 8 (.t 5), none, []⟩ (.alt 7 ⟨none, .st 1 (.t 72) (.t 71), none, []⟩ .done .stop)) .stop) .stop))))) [[], [0], [], [2], [3], [1, 4], [0, 1, 2, 3, 4, 5], [6, 5, 5, 0, 1, 2, 3, 4, 5]] [⟨some 66, .fad 5 (.t 5), none, []⟩, ⟨some 67, .ld true 3 (.t 66), none, []⟩, ⟨some 68, .mov (.t 1), none, []⟩, ⟨some 69, .iax 1 (.t 68) (.c (.int .i64 5)), none, []⟩, ⟨some 70, .ld false 1 (.t 69), none, []⟩, ⟨some 71, .call 40 [.t 67, .t 70], none, []⟩, ⟨some 72, .fad 8 (.t 5), none, []⟩, ⟨none, .st 1 (.t 72) (.t 71), none, []⟩]))))))
           (.drop [42]
            (.region false [] [⟨some 9, .mov (.t 1), none, [1]⟩, ⟨some 10, .iax 1 (.t 9) (.c (.int .i64 0)), none, [9]⟩, ⟨some 11, .ld false 1 (.t 10), none, [10]⟩, ⟨some 12, .cvt .i64 (.t 11), none, [11]⟩, ⟨some 13, .fad 3 (.t 5), none, []⟩, ⟨none, .st 1 (.t 13) (.t 12), none, [12, 13]⟩]))))))))))))
 (.seq
  (.region false [] [⟨some 73, .ld true 11 (.t 5), none, [5]⟩, ⟨none, .st 11 (.t 4) (.t 73), none, [73]⟩])
 .ret))))
def rs_24 : List ARes := [.cell 4 true 11]
theorem g_24 : Good Tryz.prog 24 ac_24 rs_24 := ⟨Tryz.f24, Tryz.f24.body.getD .skip, by kernel_rfl, by kernel_rfl, by kernel_rfl, ⟨by kernel_rfl, by kernel_rfl⟩, by kernel_rfl, by kernel_rfl⟩
theorem ok_24 {Γ : Env} (hΓ : EnvOk Tryz.prog Γ) (sp : Spec) (h : WB Γ ac_24 rs_24 sp) : CallOk Tryz.prog 24 sp := g_24.ok hΓ mix_ok sp h

/-- chantry/chantryref21.size -/
def ac_25 : ACode :=
 (.seq
  (.region false [] [⟨some 2, .mov (.c (.int .i64 0)), none, []⟩])
 (.seq
  (.seq
   (.region false [] [⟨some 3, .mov (.t 0), none, [0]⟩])
  (.block 0
   (.seq
    (.seq
     (.region false [] [⟨some 5, .bin false .eql (.t 3) (.c (.int .i64 1)), none, []⟩, ⟨some 4, .mov (.t 5), none, [5]⟩])
    (.cond (.t 4)
      .skip
      (.drop [4]
       (.region false [] [⟨some 6, .bin false .eql (.t 3) (.c (.int .i64 2)), none, []⟩, ⟨some 4, .mov (.t 6), none, [6]⟩]))))
   (.cond (.t 4)
     (.drop [3, 4]
      (.seq
       (.region false [] [⟨some 2, .mov (.c (.int .i64 3)), none, []⟩])
      .ret))
     (.drop [4]
      (.seq
       (.region false [] [⟨some 8, .bin false .eql (.t 3) (.c (.int .i64 6)), none, [3]⟩, ⟨some 7, .mov (.t 8), none, [8]⟩])
      (.cond (.t 7)
        (.drop [7]
         (.seq
          (.region false [] [⟨some 2, .mov (.c (.int .i64 7)), none, []⟩])
         .ret))
        (.drop [7]
         .skip))))))))
 (.seq
  (.region false [] [⟨some 2, .mov (.c (.int .i64 2)), none, []⟩])
 .ret)))
def rs_25 : List ARes := [.tmp 2]
theorem g_25 : Good Tryz.prog 25 ac_25 rs_25 := ⟨Tryz.f25, Tryz.f25.body.getD .skip, by kernel_rfl, by kernel_rfl, by kernel_rfl, ⟨by kernel_rfl, by kernel_rfl⟩, by kernel_rfl, by kernel_rfl⟩
theorem ok_25 {Γ : Env} (hΓ : EnvOk Tryz.prog Γ) (sp : Spec) (h : WB Γ ac_25 rs_25 sp) : CallOk Tryz.prog 25 sp := g_25.ok hΓ mix_ok sp h

/-- chantry/chantryref21.told -/
def ac_26 : ACode :=
 (.seq
  (.region false [] [⟨some 2, .alloc [.int .i64 0, .int .u8 0, .int .u8 0, .int .i64 0, .int .i64 0, .int .i64 0, .int .u8 0, .int .i64 0, .string ⟨#[]⟩, .bool false, .int .u8 0], none, []⟩])
 (.seq
  (.region false [] [⟨some 4, .mov (.t 0), none, []⟩, ⟨some 5, .iax 1 (.t 4) (.c (.int .i64 0)), none, [4]⟩, ⟨some 6, .ld false 1 (.t 5), none, [5]⟩, ⟨some 7, .cvt .i64 (.t 6), none, [6]⟩, ⟨some 8, .bin false .rem (.t 7) (.c (.int .i64 7)), none, [7]⟩, ⟨some 9, .bld [.int .i64 0, .int .u8 0, .int .u8 0, .int .i64 0, .int .i64 0, .int .i64 0, .int .u8 0, .int .i64 0, .string ⟨#[]⟩, .bool false, .int .u8 0] [(0, 1, .t 8)], none, [8]⟩, ⟨some 3, .alloc [.int .i64 0, .int .u8 0, .int .u8 0, .int .i64 0, .int .i64 0, .int .i64 0, .int .u8 0, .int .i64 0, .string ⟨#[]⟩, .bool false, .int .u8 0], none, []⟩, ⟨none, .st 11 (.t 3) (.t 9), none, [9]⟩])
 (.seq
  (.seq
   (.region false [] [⟨some 10, .fad 0 (.t 3), none, []⟩, ⟨some 11, .ld false 1 (.t 10), none, [10]⟩])
  (.block 0
   (.seq
    (.region false [] [⟨some 18, .bin false .eql (.t 11) (.c (.int .i64 1)), none, []⟩, ⟨some 17, .mov (.t 18), none, [18]⟩])
   (.cond (.t 17)
     (.drop [11, 17]
      (.seq
       (.region false [] [⟨some 19, .mov (.t 0), none, []⟩, ⟨some 20, .iax 1 (.t 19) (.c (.int .i64 1)), none, [19]⟩, ⟨some 21, .ld false 1 (.t 20), none, [20]⟩, ⟨some 22, .fad 1 (.t 3), none, []⟩, ⟨none, .st 1 (.t 22) (.t 21), none, [21, 22]⟩])
      (.region false [] [⟨some 23, .mov (.t 0), none, [0]⟩, ⟨some 24, .slc false 1 (.t 23) (some (.c (.int .i64 2))) (some (.c (.int .i64 3))), none, [23]⟩, ⟨some 25, .b2s (.t 24), none, [24]⟩, ⟨some 26, .fad 8 (.t 3), none, []⟩, ⟨none, .st 1 (.t 26) (.t 25), none, [25, 26]⟩])))
     (.drop [17]
      (.seq
       (.region false [] [⟨some 28, .bin false .eql (.t 11) (.c (.int .i64 2)), none, []⟩, ⟨some 27, .mov (.t 28), none, [28]⟩])
      (.cond (.t 27)
        (.drop [11, 27]
         (.seq
          (.region false [] [⟨some 29, .mov (.t 0), none, []⟩, ⟨some 30, .iax 1 (.t 29) (.c (.int .i64 1)), none, [29]⟩, ⟨some 31, .ld false 1 (.t 30), none, [30]⟩, ⟨some 32, .fad 1 (.t 3), none, []⟩, ⟨none, .st 1 (.t 32) (.t 31), none, [31, 32]⟩])
         (.draws (.tak 0 ⟨some 33, .mov (.t 0), none, []⟩ (.tak 1 ⟨some 34, .iax 1 (.t 33) (.c (.int .i64 2)), none, []⟩ (.tak 2 ⟨some 35, .ld false 1 (.t 34), none, []⟩ (.tak 3 ⟨some 36, .bin false .rem (.t 35) (.c (.int .u8 2)), none, []⟩ (.tak 4 ⟨some 37, .bin false .eql (.t 36) (.c (.int .u8 1)), none, []⟩ (.tak 5 ⟨some 38, .mov (.t 0), none, []⟩ (.tak 6 ⟨some 39, .iax 1 (.t 38) (.c (.int .i64 2)), none, []⟩ (.tak 7 ⟨some 40, .ld false 1 (.t 39), none, []⟩ (.tak 8 ⟨some 41, .bin false .quo (.t 40) (.c (.int .u8 2)), none, []⟩ (.tak 9 ⟨some 42, .bin false .rem (.t 41) (.c (.int .u8 16)), none, []⟩ (.tak 10 ⟨some 43, .bld [.bool false, .int .u8 0] [(0, 1, .t 37), (1, 1, .t 42)], none, []⟩ (.tak 11 ⟨some 44, .fad 9 (.t 3), none, []⟩ (.alt 12 ⟨none, .st 2 (.t 44) (.t 43), none, []⟩ .done .stop))))))))))))) [[], [0], [1], [2], [3], [], [5], [6], [7], [8], [4, 9], [0, 1, 2, 3, 4, 5, 6, 7, 8, 9, 10], [11, 10, 0, 1, 2, 3, 4, 5, 6, 7, 8, 9, 10]] [⟨some 33, .mov (.t 0), none, []⟩, ⟨some 34, .iax 1 (.t 33) (.c (.int .i64 2)), none, []⟩, ⟨some 35, .ld false 1 (.t 34), none, []⟩, ⟨some 36, .bin false .rem (.t 35) (.c (.int .u8 2)), none, []⟩, ⟨some 37, .bin false .eql (.t 36) (.c (.int .u8 1)), none, []⟩, ⟨some 38, .mov (.t 0), none, []⟩, ⟨some 39, .iax 1 (.t 38) (.c (.int .i64 2)), none, []⟩, ⟨some 40, .ld false 1 (.t 39), none, []⟩, ⟨some 41, .bin false .quo (.t 40) (.c (.int .u8 2)), none, []⟩, ⟨some 42, .bin false .rem (.t 41) (.c (.int .u8 16)), none, []⟩, ⟨some 43, .bld [.bool false, .int .u8 0] [(0, 1, .t 37), (1, 1, .t 42)], none, []⟩, ⟨some 44, .fad 9 (.t 3), none, []⟩, ⟨none, .st 2 (.t 44) (.t 43), none, []⟩])))
        (.drop [27]
         (.seq
          (.region false [] [⟨some 46, .bin false .eql (.t 11) (.c (.int .i64 6)), none, [11]⟩, ⟨some 45, .mov (.t 46), none, [46]⟩])
         (.cond (.t 45)
           (.drop [45]
            (.seq
             (.region false [] [⟨some 47, .mov (.t 0), none, []⟩, ⟨some 48, .iax 1 (.t 47) (.c (.int .i64 1)), none, [47]⟩, ⟨some 49, .ld false 1 (.t 48), none, [48]⟩, ⟨some 50, .fad 1 (.t 3), none, []⟩, ⟨none, .st 1 (.t 50) (.t 49), none, [49, 50]⟩])
            (.seq
             (.region false [] [⟨some 51, .mov (.t 0), none, []⟩, ⟨some 52, .iax 1 (.t 51) (.c (.int .i64 2)), none, [51]⟩, ⟨some 53, .ld false 1 (.t 52), none, [52]⟩, ⟨some 54, .fad 2 (.t 3), none, []⟩, ⟨none, .st 1 (.t 54) (.t 53), none, [53, 54]⟩])
            (.seq
             (.region false [] [⟨some 55, .mov (.t 0), none, []⟩, ⟨some 56, .iax 1 (.t 55) (.c (.int .i64 3)), none, [55]⟩, ⟨some 57, .ld false 1 (.t 56), none, [56]⟩, ⟨some 58, .cvt .i64 (.t 57), none, [57]⟩, ⟨some 59, .fad 4 (.t 3), none, []⟩, ⟨none, .st 1 (.t 59) (.t 58), none, [58, 59]⟩])
            (.seq
             (.draws (.tak 0 ⟨some 60, .mov (.t 0), none, []⟩ (.tak 1 ⟨some 61, .iax 1 (.t 60) (.c (.int .i64 4)), none, []⟩ (.tak 2 ⟨some 62, .ld false 1 (.t 61), none, []⟩ (.tak 3 ⟨some 63, .mov (.t 0), none, []⟩ (.tak 4 ⟨some 64, .iax 1 (.t 63) (.c (.int .i64 5)), none, []⟩ (.tak 5 ⟨some 65, .ld false 1 (.t 64), none, []⟩ (.tak 6 ⟨some 66, .cvt .i64 (.t 65), none, []⟩ (.tak 7 ⟨some 67, .bld [.int .i64 0, .int .u8 0, .int .i64 0] [(1, 1, .t 62), (2, 1, .t 66)], none, []⟩ (.tak 8 ⟨some 68, .fad 5 (.t 3), none, []⟩ (.alt 9 ⟨none, .st 3 (.t 68) (.t 67), none, []⟩ .done .stop)))))))))) [[], [0], [1], [], [3], [4], [5], [2, 6], [0, 1, 2, 3, 4, 5, 6, 7], [8, 7, 0, 1, 2, 3, 4, 5, 6, 7]] [⟨some 60, .mov (.t 0), none, []⟩, ⟨some 61, .iax 1 (.t 60) (.c (.int .i64 4)), none, []⟩, ⟨some 62, .ld false 1 (.t 61), none, []⟩, ⟨some 63, .mov (.t 0), none, []⟩, ⟨some 64, .iax 1 (.t 63) (.c (.int .i64 5)), none, []⟩, ⟨some 65, .ld false 1 (.t 64), none, []⟩, ⟨some 66, .cvt .i64 (.t 65), none, []⟩, ⟨some 67, .bld [.int .i64 0, .int .u8 0, .int .i64 0] [(1, 1, .t 62), (2, 1, .t 66)], none, []⟩, ⟨some 68, .fad 5 (.t 3), none, []⟩, ⟨none, .st 3 (.t 68) (.t 67), none, []⟩])
            (.drop [60, 61, 62, 63, 64, 65, 66, 67, 68]
             (.draws (.tak 0 ⟨some 69, .mov (.t 0), none, []⟩ (.tak 1 ⟨some 70, .iax 1 (.t 69) (.c (.int .i64 4)), none, []⟩ (.tak 2 ⟨some 71, .ld false 1 (.t 70), none, []⟩ (.tak 3 ⟨some 72, .mov (.t 0), none, []⟩ (.tak 4 ⟨some 73, .iax 1 (.t 72) (.c (.int .i64 5)), none, []⟩ (.tak 5 ⟨some 74, .ld false 1 (.t 73), none, []⟩ (.tak 6 ⟨some 75, .mov (.t 0), none, []⟩ (.tak 7 ⟨some 76, .iax 1 (.t 75) (.c (.int .i64 6)), none, []⟩ (.tak 8 ⟨some 77, .ld false 1 (.t 76), none, []⟩ (.alt 9 ⟨some 78, .call 41 [.t 71, .t 74, .t 77], none, []⟩ (.tak 10 ⟨some 79, .fad 8 (.t 3), none, []⟩ (.alt 11 ⟨none, .st 1 (.t 79) (.t 78), none, []⟩ .done .stop)) .stop)))))))))) [[], [0], [1], [], [3], [4], [], [6], [7], [2, 5, 8], [0, 1, 2, 3, 4, 5, 6, 7, 8, 9], [10, 9, 9, 0, 1, 2, 3, 4, 5, 6, 7, 8, 9]] [⟨some 69, .mov (.t 0), none, []⟩, ⟨some 70, .iax 1 (.t 69) (.c (.int .i64 4)), none, []⟩, ⟨some 71, .ld false 1 (.t 70), none, []⟩, ⟨some 72, .mov (.t 0), none, []⟩, ⟨some 73, .iax 1 (.t 72) (.c (.int .i64 5)), none, []⟩, ⟨some 74, .ld false 1 (.t 73), none, []⟩, ⟨some 75, .mov (.t 0), none, []⟩, ⟨some 76, .iax 1 (.t 75) (.c (.int .i64 6)), none, []⟩, ⟨some 77, .ld false 1 (.t 76), none, []⟩, ⟨some 78, .call 41 [.t 71, .t 74, .t 77], none, []⟩, ⟨some 79, .fad 8 (.t 3), none, []⟩, ⟨none, .st 1 (.t 79) (.t 78), none, []⟩])))))))
           (.drop [45]
            (.region false [] [⟨some 12, .mov (.t 0), none, [0]⟩, ⟨some 13, .iax 1 (.t 12) (.c (.int .i64 1)), none, [12]⟩, ⟨some 14, .ld false 1 (.t 13), none, [13]⟩, ⟨some 15, .cvt .i64 (.t 14), none, [14]⟩, ⟨some 16, .fad 3 (.t 3), none, []⟩, ⟨none, .st 1 (.t 16) (.t 15), none, [15, 16]⟩]))))))))))))
 (.seq
  (.region false [] [⟨some 80, .ld true 11 (.t 3), none, [3]⟩, ⟨none, .st 11 (.t 2) (.t 80), none, [80]⟩])
 .ret))))
def rs_26 : List ARes := [.cell 2 true 11]
theorem g_26 : Good Tryz.prog 26 ac_26 rs_26 := ⟨Tryz.f26, Tryz.f26.body.getD .skip, by kernel_rfl, by kernel_rfl, by kernel_rfl, ⟨by kernel_rfl, by kernel_rfl⟩, by kernel_rfl, by kernel_rfl⟩
theorem ok_26 {Γ : Env} (hΓ : EnvOk Tryz.prog Γ) (sp : Spec) (h : WB Γ ac_26 rs_26 sp) : CallOk Tryz.prog 26 sp := g_26.ok hΓ mix_ok sp h

/-- chantry/script.forged -/
def ac_40 : ACode :=
 (.seq
  (.region false [] [⟨some 2, .box (.t 0), none, [0]⟩, ⟨some 4, .mov (.c (.string ⟨#[]⟩)), none, []⟩])
 (.seal_ 2
  (.seq
   (.region false [] [⟨some 8, .mov (.t 1), none, [1]⟩, ⟨some 9, .bsl 5 1 [.t 8], none, [8]⟩, ⟨some 10, .b2s (.t 9), none, [9]⟩, ⟨some 11, .bld [.int .i64 0, .int .u16 0, .int .u16 0, .int .u16 0, .int .u16 0, .int .u16 0, .int .u16 0, .int .u16 0, .int .u16 0, .int .u16 0, .int .u16 0, .int .u16 0, .int .u16 0, .int .u16 0, .int .u16 0, .int .u16 0, .int .u16 0, .string ⟨#[]⟩] [(0, 1, .c (.int .i64 1)), (17, 1, .t 10)], none, [10]⟩, ⟨some 5, .alloc [.int .i64 0, .int .u16 0, .int .u16 0, .int .u16 0, .int .u16 0, .int .u16 0, .int .u16 0, .int .u16 0, .int .u16 0, .int .u16 0, .int .u16 0, .int .u16 0, .int .u16 0, .int .u16 0, .int .u16 0, .int .u16 0, .int .u16 0, .string ⟨#[]⟩], none, []⟩, ⟨none, .st 18 (.t 5) (.t 11), none, [11]⟩])
  (.seq
   (.seq
    (.region false [] [⟨some 12, .fad 1 (.t 2), none, []⟩, ⟨some 13, .ld false 1 (.t 12), none, [12]⟩, ⟨some 14, .bin false .lss (.t 13) (.c (.int .u8 16)), none, [13]⟩])
   (.cond (.t 14)
     (.drop [14]
      (.region false [] [⟨some 15, .fad 1 (.t 2), none, []⟩, ⟨some 16, .ld false 1 (.t 15), none, [15]⟩, ⟨some 17, .fad 2 (.t 2), none, [2]⟩, ⟨some 18, .ld false 1 (.t 17), none, [17]⟩, ⟨some 19, .cvt .u16 (.t 18), none, [18]⟩, ⟨some 20, .fad 1 (.t 5), none, []⟩, ⟨some 21, .iaa 16 1 (.t 20) (.t 16), none, [16, 20]⟩, ⟨none, .st 1 (.t 21) (.t 19), none, [19, 21]⟩]))
     (.drop [2, 14]
      .skip)))
  (.seq
   (.region false [] [⟨some 23, .ld true 18 (.t 5), none, [5]⟩, ⟨some 24, .call 59 [.t 23], none, [23]⟩, ⟨some 22, .mov (.t 24), none, [24]⟩, ⟨some 25, .ext 0 (.t 22), none, []⟩, ⟨some 26, .ext 1 (.t 22), none, [22]⟩, ⟨some 6, .mov (.t 25), none, [25]⟩, ⟨some 7, .mov (.t 26), none, [26]⟩])
  (.seq
   (.region false [] [⟨some 27, .mov (.t 6), none, [6]⟩, ⟨some 4, .mov (.t 27), none, [27]⟩])
  .ret))))))
def rs_40 : List ARes := [.tmp 4]
theorem g_40 : Good Tryz.prog 40 ac_40 rs_40 := ⟨Tryz.f40, Tryz.f40.body.getD .skip, by kernel_rfl, by kernel_rfl, by kernel_rfl, ⟨by kernel_rfl, by kernel_rfl⟩, by kernel_rfl, by kernel_rfl⟩
theorem ok_40 {Γ : Env} (hΓ : EnvOk Tryz.prog Γ) (sp : Spec) (h : WB Γ ac_40 rs_40 sp) : CallOk Tryz.prog 40 sp := g_40.ok hΓ mix_ok sp h

/-- chantry/chantryref21.forged -/
def ac_41 : ACode :=
 (.seq
  (.region false [] [⟨some 6, .mov (.c (.string ⟨#[]⟩)), none, []⟩])
 (.seq
  (.region false [] [⟨some 7, .alloc [.int .u16 0, .int .u16 0, .int .u16 0, .int .u16 0, .int .u16 0, .int .u16 0, .int .u16 0, .int .u16 0, .int .u16 0, .int .u16 0, .int .u16 0, .int .u16 0, .int .u16 0, .int .u16 0, .int .u16 0, .int .u16 0], none, []⟩])
 (.seq
  (.seq
   (.region false [] [⟨some 10, .mov (.t 0), none, []⟩, ⟨some 11, .bin false .lss (.t 10) (.c (.int .u8 16)), none, [10]⟩])
  (.cond (.t 11)
    (.drop [11]
     (.region false [] [⟨some 12, .mov (.t 0), none, [0]⟩, ⟨some 13, .mov (.t 1), none, [1]⟩, ⟨some 14, .cvt .u16 (.t 13), none, [13]⟩, ⟨some 15, .iaa 16 1 (.t 7) (.t 12), none, [12]⟩, ⟨none, .st 1 (.t 15) (.t 14), none, [14, 15]⟩]))
    (.drop [0, 1, 11]
     .skip)))
 (.seq
  (.region false [] [⟨some 17, .ld true 16 (.t 7), none, [7]⟩, ⟨some 18, .mov (.t 2), none, [2]⟩, ⟨some 19, .bsl 5 1 [.t 18], none, [18]⟩, ⟨some 20, .b2s (.t 19), none, [19]⟩, ⟨some 21, .bld [.int .i64 0, .int .u16 0, .int .u16 0, .int .u16 0, .int .u16 0, .int .u16 0, .int .u16 0, .int .u16 0, .int .u16 0, .int .u16 0, .int .u16 0, .int .u16 0, .int .u16 0, .int .u16 0, .int .u16 0, .int .u16 0, .int .u16 0, .string ⟨#[]⟩] [(0, 1, .c (.int .i64 1)), (1, 16, .t 17), (17, 1, .t 20)], none, [17, 20]⟩, ⟨some 22, .call 60 [.t 21], none, [21]⟩, ⟨some 16, .mov (.t 22), none, [22]⟩, ⟨some 23, .ext 0 (.t 16), none, []⟩, ⟨some 24, .ext 1 (.t 16), none, [16]⟩, ⟨some 8, .mov (.t 23), none, [23]⟩, ⟨some 9, .mov (.t 24), none, [24]⟩])
 (.seq
  (.region false [] [⟨some 25, .mov (.t 8), none, [8]⟩, ⟨some 6, .mov (.t 25), none, [25]⟩])
 .ret)))))
def rs_41 : List ARes := [.tmp 6]
theorem g_41 : Good Tryz.prog 41 ac_41 rs_41 := ⟨Tryz.f41, Tryz.f41.body.getD .skip, by kernel_rfl, by kernel_rfl, by kernel_rfl, ⟨by kernel_rfl, by kernel_rfl⟩, by kernel_rfl, by kernel_rfl⟩
theorem ok_41 {Γ : Env} (hΓ : EnvOk Tryz.prog Γ) (sp : Spec) (h : WB Γ ac_41 rs_41 sp) : CallOk Tryz.prog 41 sp := g_41.ok hΓ mix_ok sp h

end Go.Proofs.YtajpaagbfmjacaaGreatDoor.Am
