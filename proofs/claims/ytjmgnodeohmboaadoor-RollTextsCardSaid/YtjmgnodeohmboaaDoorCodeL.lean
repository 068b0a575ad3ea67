/-
  THE FUNCTIONS' ABSTRACT CODE, as Lean's own reduction of compCode printed it, with notes (genac.py); each is held against the translation by the kernel.
-/
import Derived.Test.YtjmgnodeohmboaaDoorProg
import Derived.Test.YtjmgnodeohmboaaDoorCode
namespace Go.Proofs.YtjmgnodeohmboaaDoor.Am
set_option linter.unusedSimpArgs false
set_option linter.unusedVariables false
open Go Go.Proofs
set_option maxRecDepth 100000


/-- chantry/chantrylaw11.RollApplies -/
def ac_3 : ACode :=
 (.seq
  (.region false [] [⟨some 2, .box (.t 0), none, [0]⟩, ⟨some 3, .box (.t 1), none, [1]⟩, ⟨some 4, .mov (.c (.bool false)), none, []⟩])
 (.seal_ 3
  (.seal_ 2
   (.seq
    (.seq
     (.region false [] [⟨some 9, .call 9 [], none, []⟩, ⟨some 10, .un .not (.t 9), none, [9]⟩])
    (.cond (.t 10)
      (.drop [2, 3, 10]
       (.seq
        (.region false [] [⟨some 4, .mov (.c (.bool false)), none, []⟩])
       .ret))
      (.drop [10]
       .skip)))
   (.seq
    (.region false [] [⟨some 12, .ld true 2 (.t 2), none, []⟩, ⟨some 13, .ld true 2 (.t 3), none, []⟩, ⟨some 14, .call 10 [.t 12, .t 13], none, [12, 13]⟩, ⟨some 11, .mov (.t 14), none, [14]⟩, ⟨some 15, .ext 0 (.t 11), none, []⟩, ⟨some 16, .ext 1 (.t 11), none, [11]⟩, ⟨some 5, .alloc [.int .i64 0, .int .u16 0], none, []⟩, ⟨none, .st 2 (.t 5) (.t 15), none, [15]⟩, ⟨some 6, .mov (.t 16), none, [16]⟩])
   (.seal_ 5
    (.seq
     (.region false [] [⟨some 18, .ld true 2 (.t 2), none, []⟩, ⟨some 19, .ld true 2 (.t 3), none, [3]⟩, ⟨some 20, .call 11 [.t 18, .t 19], none, [18, 19]⟩, ⟨some 17, .mov (.t 20), none, [20]⟩, ⟨some 21, .ext 0 (.t 17), none, []⟩, ⟨some 22, .ext 1 (.t 17), none, [17]⟩, ⟨some 7, .alloc [.int .i64 0, .int .u16 0], none, []⟩, ⟨none, .st 2 (.t 7) (.t 21), none, [21]⟩, ⟨some 8, .mov (.t 22), none, [22]⟩])
    (.seal_ 7
     (.seq
      (.draws (.tak 0 ⟨some 23, .ld true 2 (.t 2), none, []⟩ (.tak 2 ⟨some 25, .ld true 2 (.t 2), none, []⟩ (.alt 1 ⟨some 24, .call 12 [.t 23], none, []⟩ (.alt 3 ⟨some 26, .call 13 [.t 25], none, []⟩ (.tak 4 ⟨some 27, .bin true .eql (.t 24) (.t 26), none, []⟩ (.tak 5 ⟨some 28, .mov (.t 27), none, []⟩ (.tak 6 ⟨some 29, .ld true 2 (.t 5), some (28, true), []⟩ (.tak 7 ⟨some 30, .ld true 2 (.t 7), some (28, true), []⟩ (.tak 8 ⟨some 31, .eqs false [.i, .i] (.t 29) (.t 30), some (28, true), []⟩ (.tak 9 ⟨some 32, .pick (.t 28) (.t 31) (.c (.bool false)), none, []⟩ (.tak 10 ⟨some 33, .mov (.t 32), none, []⟩ (.tak 11 ⟨some 34, .mov (.t 6), some (33, true), []⟩ (.tak 12 ⟨some 35, .mov (.t 8), some (33, true), []⟩ (.tak 13 ⟨some 36, .bin false .eql (.t 34) (.t 35), some (33, true), []⟩ (.tak 14 ⟨some 37, .pick (.t 33) (.t 36) (.c (.bool false)), none, []⟩ (.tak 15 ⟨some 4, .mov (.t 37), none, []⟩ .done)))))))))))) .stop) .stop))) [[], [0], [], [2, 1], [1, 3], [4, 3], [5], [5], [6, 7, 5], [5, 8], [9, 5], [10], [10], [11, 12, 10], [10, 13], [14, 10, 0, 1, 2, 3, 4, 5, 6, 7, 8, 9, 10, 11, 12, 13, 14]] [⟨some 23, .ld true 2 (.t 2), none, []⟩, ⟨some 24, .call 12 [.t 23], none, []⟩, ⟨some 25, .ld true 2 (.t 2), none, []⟩, ⟨some 26, .call 13 [.t 25], none, []⟩, ⟨some 27, .bin true .eql (.t 24) (.t 26), none, []⟩, ⟨some 28, .mov (.t 27), none, []⟩, ⟨some 29, .ld true 2 (.t 5), some (28, true), []⟩, ⟨some 30, .ld true 2 (.t 7), some (28, true), []⟩, ⟨some 31, .eqs false [.i, .i] (.t 29) (.t 30), some (28, true), []⟩, ⟨some 32, .pick (.t 28) (.t 31) (.c (.bool false)), none, []⟩, ⟨some 33, .mov (.t 32), none, []⟩, ⟨some 34, .mov (.t 6), some (33, true), []⟩, ⟨some 35, .mov (.t 8), some (33, true), []⟩, ⟨some 36, .bin false .eql (.t 34) (.t 35), some (33, true), []⟩, ⟨some 37, .pick (.t 33) (.t 36) (.c (.bool false)), none, []⟩, ⟨some 4, .mov (.t 37), none, []⟩])
     (.drop [2, 5, 6, 7, 8, 23, 24, 25, 26, 27, 28, 29, 30, 31, 32, 33, 34, 35, 36, 37]
      .ret))))))))))
def rs_3 : List ARes := [.tmp 4]
theorem g_3 : Good Tryd.prog 3 ac_3 rs_3 := ⟨Tryd.f3, Tryd.f3.body.getD .skip, by kernel_rfl, by kernel_rfl, by kernel_rfl, ⟨by kernel_rfl, by kernel_rfl⟩, by kernel_rfl, by kernel_rfl⟩
theorem ok_3 {Γ : Env} (hΓ : EnvOk Tryd.prog Γ) (sp : Spec) (h : WB Γ ac_3 rs_3 sp) : CallOk Tryd.prog 3 sp := g_3.ok hΓ mix_ok sp h

/-- chantry/chantrylaw11.RollMembers -/
def ac_5 : ACode :=
 (.seq
  (.region false [] [⟨some 2, .box (.t 0), none, [0]⟩, ⟨some 3, .box (.t 1), none, [1]⟩, ⟨some 4, .mov (.c (.bool false)), none, []⟩])
 (.seal_ 3
  (.seal_ 2
   (.seq
    (.seq
     (.region false [] [⟨some 7, .call 9 [], none, []⟩, ⟨some 8, .un .not (.t 7), none, [7]⟩])
    (.cond (.t 8)
      (.drop [2, 3, 8]
       (.seq
        (.region false [] [⟨some 4, .mov (.c (.bool false)), none, []⟩])
       .ret))
      (.drop [8]
       .skip)))
   (.seq
    (.region false [] [⟨some 10, .ld true 2 (.t 2), none, []⟩, ⟨some 11, .ld true 2 (.t 3), none, []⟩, ⟨some 12, .call 10 [.t 10, .t 11], none, [10, 11]⟩, ⟨some 9, .mov (.t 12), none, [12]⟩, ⟨some 13, .ext 0 (.t 9), none, []⟩, ⟨some 14, .ext 1 (.t 9), none, [9]⟩, ⟨some 5, .alloc [.int .i64 0, .int .u16 0], none, []⟩, ⟨none, .st 2 (.t 5) (.t 13), none, [13]⟩, ⟨some 6, .mov (.t 14), none, [14]⟩])
   (.seal_ 5
    (.seq
     (.seq
      (.region false [] [⟨some 15, .mov (.t 6), none, [6]⟩, ⟨some 16, .bin false .neq (.t 15) (.c (.int .i64 0)), none, [15]⟩])
     (.cond (.t 16)
       (.drop [2, 3, 16]
        (.seq
         (.region false [] [⟨some 17, .ld true 2 (.t 5), none, [5]⟩, ⟨some 18, .bld [.int .i64 0, .int .u16 0] [], none, []⟩, ⟨some 19, .eqs false [.i, .i] (.t 17) (.t 18), none, [17, 18]⟩, ⟨some 4, .mov (.t 19), none, [19]⟩])
        .ret))
       (.drop [16]
        .skip)))
    (.seq
     (.draws (.tak 0 ⟨some 20, .fad 0 (.t 5), none, []⟩ (.tak 1 ⟨some 21, .ld false 1 (.t 20), none, []⟩ (.tak 2 ⟨some 22, .fad 0 (.t 2), none, []⟩ (.tak 3 ⟨some 23, .ld false 1 (.t 22), none, []⟩ (.tak 4 ⟨some 24, .bin false .add (.t 23) (.c (.int .i64 1)), none, []⟩ (.tak 5 ⟨some 25, .bin false .eql (.t 21) (.t 24), none, []⟩ (.tak 6 ⟨some 26, .mov (.t 25), none, []⟩ (.tak 7 ⟨some 27, .fad 1 (.t 5), some (26, true), []⟩ (.tak 8 ⟨some 28, .ld false 1 (.t 27), some (26, true), []⟩ (.tak 9 ⟨some 29, .fad 1 (.t 3), some (26, true), []⟩ (.tak 10 ⟨some 30, .ld false 1 (.t 29), some (26, true), []⟩ (.tak 12 ⟨some 32, .fad 0 (.t 3), some (26, true), []⟩ (.tak 13 ⟨some 33, .ld false 1 (.t 32), some (26, true), []⟩ (.alt 11 ⟨some 31, .call 18 [.t 28, .t 30], some (26, true), []⟩ (.tak 14 ⟨some 34, .bin true .eql (.t 31) (.t 33), some (26, true), []⟩ (.tak 15 ⟨some 35, .pick (.t 26) (.t 34) (.c (.bool false)), none, []⟩ (.tak 16 ⟨some 36, .mov (.t 35), none, []⟩ (.tak 17 ⟨some 37, .fad 1 (.t 2), some (36, true), []⟩ (.tak 18 ⟨some 38, .ld false 1 (.t 37), some (36, true), []⟩ (.tak 19 ⟨some 39, .fad 1 (.t 3), some (36, true), []⟩ (.tak 20 ⟨some 40, .ld false 1 (.t 39), some (36, true), []⟩ (.tak 22 ⟨some 42, .fad 0 (.t 3), some (36, true), []⟩ (.tak 23 ⟨some 43, .ld false 1 (.t 42), some (36, true), []⟩ (.alt 21 ⟨some 41, .call 18 [.t 38, .t 40], some (36, true), []⟩ (.tak 24 ⟨some 44, .bin true .neq (.t 41) (.t 43), some (36, true), []⟩ (.tak 25 ⟨some 45, .pick (.t 36) (.t 44) (.c (.bool false)), none, []⟩ (.tak 26 ⟨some 46, .mov (.t 45), none, []⟩ (.tak 27 ⟨some 47, .fad 1 (.t 5), some (46, true), []⟩ (.tak 28 ⟨some 48, .ld false 1 (.t 47), some (46, true), []⟩ (.tak 29 ⟨some 49, .fad 1 (.t 2), some (46, true), []⟩ (.tak 30 ⟨some 50, .ld false 1 (.t 49), some (46, true), []⟩ (.tak 31 ⟨some 51, .bin false .xor (.t 48) (.t 50), some (46, true), []⟩ (.tak 32 ⟨some 52, .fad 1 (.t 3), some (46, true), []⟩ (.tak 33 ⟨some 53, .ld false 1 (.t 52), some (46, true), []⟩ (.tak 34 ⟨some 54, .bin false .shl (.c (.int .u16 1)) (.t 53), some (46, true), []⟩ (.tak 35 ⟨some 55, .bin false .eql (.t 51) (.t 54), some (46, true), []⟩ (.tak 36 ⟨some 56, .pick (.t 46) (.t 55) (.c (.bool false)), none, []⟩ (.tak 37 ⟨some 57, .mov (.t 56), none, []⟩ (.tak 38 ⟨some 58, .ld true 2 (.t 5), some (57, true), []⟩ (.alt 39 ⟨some 59, .call 12 [.t 58], some (57, true), []⟩ (.tak 40 ⟨some 60, .pick (.t 57) (.t 59) (.c (.bool false)), none, []⟩ (.tak 41 ⟨some 4, .mov (.t 60), none, []⟩ .done)) .stop)))))))))))))))) .stop)))))))))) .stop)))))))))))))) [[], [0], [], [2], [3], [1, 4], [5], [6], [7, 6], [6], [9, 6], [8, 10, 6, 6], [6], [12, 6], [11, 13, 6], [6, 14], [15, 11], [16], [17, 16], [16], [19, 16], [18, 20, 16, 16], [16], [22, 16], [21, 23, 16], [16, 24], [25, 21], [26], [27, 26], [26], [29, 26], [28, 30, 26], [26], [32, 26], [33, 26], [31, 34, 26], [26, 35], [36, 26], [37], [38, 37, 37], [37, 39], [40, 39, 0, 1, 2, 3, 4, 5, 6, 7, 8, 9, 10, 11, 12, 13, 14, 15, 16, 17, 18, 19, 20, 21, 22, 23, 24, 25, 26, 27, 28, 29, 30, 31, 32, 33, 34, 35, 36, 37, 38, 39, 40]] [⟨some 20, .fad 0 (.t 5), none, []⟩, ⟨some 21, .ld false 1 (.t 20), none, []⟩, ⟨some 22, .fad 0 (.t 2), none, []⟩, ⟨some 23, .ld false 1 (.t 22), none, []⟩, ⟨some 24, .bin false .add (.t 23) (.c (.int .i64 1)), none, []⟩, ⟨some 25, .bin false .eql (.t 21) (.t 24), none, []⟩, ⟨some 26, .mov (.t 25), none, []⟩, ⟨some 27, .fad 1 (.t 5), some (26, true), []⟩, ⟨some 28, .ld false 1 (.t 27), some (26, true), []⟩, ⟨some 29, .fad 1 (.t 3), some (26, true), []⟩, ⟨some 30, .ld false 1 (.t 29), some (26, true), []⟩, ⟨some 31, .call 18 [.t 28, .t 30], some (26, true), []⟩, ⟨some 32, .fad 0 (.t 3), some (26, true), []⟩, ⟨some 33, .ld false 1 (.t 32), some (26, true), []⟩, ⟨some 34, .bin true .eql (.t 31) (.t 33), some (26, true), []⟩, ⟨some 35, .pick (.t 26) (.t 34) (.c (.bool false)), none, []⟩, ⟨some 36, .mov (.t 35), none, []⟩, ⟨some 37, .fad 1 (.t 2), some (36, true), []⟩, ⟨some 38, .ld false 1 (.t 37), some (36, true), []⟩, ⟨some 39, .fad 1 (.t 3), some (36, true), []⟩, ⟨some 40, .ld false 1 (.t 39), some (36, true), []⟩, ⟨some 41, .call 18 [.t 38, .t 40], some (36, true), []⟩, ⟨some 42, .fad 0 (.t 3), some (36, true), []⟩, ⟨some 43, .ld false 1 (.t 42), some (36, true), []⟩, ⟨some 44, .bin true .neq (.t 41) (.t 43), some (36, true), []⟩, ⟨some 45, .pick (.t 36) (.t 44) (.c (.bool false)), none, []⟩, ⟨some 46, .mov (.t 45), none, []⟩, ⟨some 47, .fad 1 (.t 5), some (46, true), []⟩, ⟨some 48, .ld false 1 (.t 47), some (46, true), []⟩, ⟨some 49, .fad 1 (.t 2), some (46, true), []⟩, ⟨some 50, .ld false 1 (.t 49), some (46, true), []⟩, ⟨some 51, .bin false .xor (.t 48) (.t 50), some (46, true), []⟩, ⟨some 52, .fad 1 (.t 3), some (46, true), []⟩, ⟨some 53, .ld false 1 (.t 52), some (46, true), []⟩, ⟨some 54, .bin false .shl (.c (.int .u16 1)) (.t 53), some (46, true), []⟩, ⟨some 55, .bin false .eql (.t 51) (.t 54), some (46, true), []⟩, ⟨some 56, .pick (.t 46) (.t 55) (.c (.bool false)), none, []⟩, ⟨some 57, .mov (.t 56), none, []⟩, ⟨some 58, .ld true 2 (.t 5), some (57, true), []⟩, ⟨some 59, .call 12 [.t 58], some (57, true), []⟩, ⟨some 60, .pick (.t 57) (.t 59) (.c (.bool false)), none, []⟩, ⟨some 4, .mov (.t 60), none, []⟩])
    (.drop [2, 3, 5, 20, 21, 22, 23, 24, 25, 26, 27, 28, 29, 30, 31, 32, 33, 34, 35, 36, 37, 38, 39, 40, 41, 42, 43, 44, 45, 46, 47, 48, 49, 50, 51, 52, 53, 54, 55, 56, 57, 58, 59, 60]
     .ret)))))))))
def rs_5 : List ARes := [.tmp 4]
theorem g_5 : Good Tryd.prog 5 ac_5 rs_5 := ⟨Tryd.f5, Tryd.f5.body.getD .skip, by kernel_rfl, by kernel_rfl, by kernel_rfl, ⟨by kernel_rfl, by kernel_rfl⟩, by kernel_rfl, by kernel_rfl⟩
theorem ok_5 {Γ : Env} (hΓ : EnvOk Tryd.prog Γ) (sp : Spec) (h : WB Γ ac_5 rs_5 sp) : CallOk Tryd.prog 5 sp := g_5.ok hΓ mix_ok sp h

/-- chantry/chantrylaw11.RollPaths -/
def ac_6 : ACode :=
 (.seq
  (.region false [] [⟨some 2, .box (.t 0), none, [0]⟩, ⟨some 4, .mov (.c (.bool false)), none, []⟩])
 (.seal_ 2
  (.seq
   (.seq
    (.region false [] [⟨some 8, .call 9 [], none, []⟩, ⟨some 9, .un .not (.t 8), none, [8]⟩])
   (.cond (.t 9)
     (.drop [1, 2, 9]
      (.seq
       (.region false [] [⟨some 4, .mov (.c (.bool false)), none, []⟩])
      .ret))
     (.drop [9]
      .skip)))
  (.seq
   (.seq
    (.region false [] [⟨some 10, .mov (.t 1), none, []⟩, ⟨some 11, .len false (.t 10), none, [10]⟩, ⟨some 12, .bin false .gtr (.t 11) (.c (.int .i64 100)), none, [11]⟩])
   (.cond (.t 12)
     (.drop [1, 2, 12]
      (.seq
       (.region false [] [⟨some 4, .mov (.c (.bool true)), none, []⟩])
      .ret))
     (.drop [12]
      .skip)))
  (.seq
   (.draws (.tak 0 ⟨some 13, .ld true 2 (.t 2), none, []⟩ (.tak 1 ⟨some 14, .mov (.t 1), none, []⟩ (.tak 4 ⟨some 17, .ld true 2 (.t 2), none, []⟩ (.tak 5 ⟨some 18, .mov (.t 1), none, []⟩ (.alt 2 ⟨some 15, .call 20 [.t 14], none, []⟩ (.alt 3 ⟨some 16, .call 19 [.t 13, .t 15], none, []⟩ (.alt 6 ⟨some 19, .call 21 [.t 17, .t 18], none, []⟩ (.tak 7 ⟨some 5, .mov (.t 16), none, []⟩ (.tak 8 ⟨some 6, .mov (.t 19), none, []⟩ .done)) .stop) .stop) .stop))))) [[], [], [1], [0, 2, 2], [], [], [4, 5, 3], [3, 6, 0, 1, 2, 3], [6, 7, 0, 1, 2, 3, 4, 5, 6, 7]] [⟨some 13, .ld true 2 (.t 2), none, []⟩, ⟨some 14, .mov (.t 1), none, []⟩, ⟨some 15, .call 20 [.t 14], none, []⟩, ⟨some 16, .call 19 [.t 13, .t 15], none, []⟩, ⟨some 17, .ld true 2 (.t 2), none, []⟩, ⟨some 18, .mov (.t 1), none, []⟩, ⟨some 19, .call 21 [.t 17, .t 18], none, []⟩, ⟨some 5, .mov (.t 16), none, []⟩, ⟨some 6, .mov (.t 19), none, []⟩])
  (.drop [1, 2, 13, 14, 15, 16, 17, 18, 19]
   (.seq
    (.seq
     (.region false [] [⟨some 20, .mov (.t 5), none, []⟩, ⟨some 21, .len false (.t 20), none, [20]⟩, ⟨some 22, .mov (.t 6), none, []⟩, ⟨some 23, .len false (.t 22), none, [22]⟩, ⟨some 24, .bin false .neq (.t 21) (.t 23), none, [21, 23]⟩])
    (.cond (.t 24)
      (.drop [5, 6, 24]
       (.seq
        (.region false [] [⟨some 4, .mov (.c (.bool false)), none, []⟩])
       .ret))
      (.drop [24]
       .skip)))
   (.seq
    (.seq
     (.region false [] [⟨some 25, .mov (.t 5), none, []⟩, ⟨some 26, .len false (.t 25), none, [25]⟩, ⟨some 27, .mov (.c (.int .i64 0)), none, []⟩])
    (.block 0
     (.loop [5, 6, 26, 27]
      (.seq
       (.region false [] [⟨some 28, .bin false .lss (.t 27) (.t 26), none, []⟩])
      (.seq
       (.cond (.t 28)
         (.drop [28]
          .skip)
         (.drop [5, 6, 26, 27, 28]
          (.exit 0)))
      (.seq
       (.block 1
        (.seq
         (.region false [] [⟨some 29, .mov (.t 27), none, []⟩, ⟨some 7, .mov (.t 29), none, [29]⟩])
        (.seq
         (.draws (.tak 0 ⟨some 30, .mov (.t 5), none, []⟩ (.tak 1 ⟨some 31, .mov (.t 7), none, []⟩ (.tak 2 ⟨some 32, .iax 2 (.t 30) (.t 31), none, []⟩ (.tak 3 ⟨some 33, .ld true 2 (.t 32), none, []⟩ (.tak 4 ⟨some 34, .mov (.t 6), none, []⟩ (.tak 5 ⟨some 35, .mov (.t 7), none, []⟩ (.tak 6 ⟨some 36, .iax 2 (.t 34) (.t 35), none, []⟩ (.tak 7 ⟨some 37, .ld true 2 (.t 36), none, []⟩ (.tak 8 ⟨some 38, .eqs true [.i, .i] (.t 33) (.t 37), none, []⟩ .done))))))))) [[], [], [0, 1], [2], [], [], [4, 5], [6], [3, 7]] [⟨some 30, .mov (.t 5), none, []⟩, ⟨some 31, .mov (.t 7), none, []⟩, ⟨some 32, .iax 2 (.t 30) (.t 31), none, []⟩, ⟨some 33, .ld true 2 (.t 32), none, []⟩, ⟨some 34, .mov (.t 6), none, []⟩, ⟨some 35, .mov (.t 7), none, []⟩, ⟨some 36, .iax 2 (.t 34) (.t 35), none, []⟩, ⟨some 37, .ld true 2 (.t 36), none, []⟩, ⟨some 38, .eqs true [.i, .i] (.t 33) (.t 37), none, []⟩])
        (.drop [7, 30, 31, 32, 33, 34, 35, 36, 37]
         (.cond (.t 38)
           (.drop [5, 6, 26, 27, 38]
            (.seq
             (.region false [] [⟨some 4, .mov (.c (.bool false)), none, []⟩])
            .ret))
           (.drop [38]
            .skip))))))
      (.region false [] [⟨some 39, .bin false .add (.t 27) (.c (.int .i64 1)), none, [27]⟩, ⟨some 27, .mov (.t 39), none, [39]⟩])))))))
   (.seq
    (.region false [] [⟨some 4, .mov (.c (.bool true)), none, []⟩])
   .ret)))))))))
def rs_6 : List ARes := [.tmp 4]
theorem g_6 : Good Tryd.prog 6 ac_6 rs_6 := ⟨Tryd.f6, Tryd.f6.body.getD .skip, by kernel_rfl, by kernel_rfl, by kernel_rfl, ⟨by kernel_rfl, by kernel_rfl⟩, by kernel_rfl, by kernel_rfl⟩
theorem ok_6 {Γ : Env} (hΓ : EnvOk Tryd.prog Γ) (sp : Spec) (h : WB Γ ac_6 rs_6 sp) : CallOk Tryd.prog 6 sp := g_6.ok hΓ mix_ok sp h

/-- chantry/chantrylaw11.RollBack -/
def ac_7 : ACode :=
 (.seq
  (.region false [] [⟨some 2, .box (.t 0), none, [0]⟩, ⟨some 4, .mov (.c (.bool false)), none, []⟩])
 (.seal_ 2
  (.seq
   (.seq
    (.region false [] [⟨some 11, .call 9 [], none, []⟩, ⟨some 12, .un .not (.t 11), none, [11]⟩])
   (.cond (.t 12)
     (.drop [1, 2, 12]
      (.seq
       (.region false [] [⟨some 4, .mov (.c (.bool false)), none, []⟩])
      .ret))
     (.drop [12]
      .skip)))
  (.seq
   (.seq
    (.region false [] [⟨some 13, .mov (.t 1), none, []⟩, ⟨some 14, .len false (.t 13), none, [13]⟩, ⟨some 15, .bin false .gtr (.t 14) (.c (.int .i64 100)), none, [14]⟩, ⟨some 16, .mov (.t 15), none, [15]⟩, ⟨some 17, .mov (.t 1), some (16, false), []⟩, ⟨some 18, .len false (.t 17), some (16, false), [17]⟩, ⟨some 19, .bin false .eql (.t 18) (.c (.int .i64 0)), some (16, false), [18]⟩, ⟨some 20, .pick (.t 16) (.c (.bool true)) (.t 19), none, [16, 19]⟩])
   (.cond (.t 20)
     (.drop [1, 2, 20]
      (.seq
       (.region false [] [⟨some 4, .mov (.c (.bool true)), none, []⟩])
      .ret))
     (.drop [20]
      .skip)))
  (.seq
   (.draws (.tak 0 ⟨some 22, .ld true 2 (.t 2), none, []⟩ (.tak 1 ⟨some 23, .mov (.t 1), none, []⟩ (.tak 2 ⟨some 24, .iax 2 (.t 23) (.c (.int .i64 0)), none, []⟩ (.tak 3 ⟨some 25, .ld true 2 (.t 24), none, []⟩ (.alt 4 ⟨some 26, .call 10 [.t 22, .t 25], none, []⟩ (.tak 5 ⟨some 21, .mov (.t 26), none, []⟩ (.tak 6 ⟨some 27, .ext 0 (.t 21), none, []⟩ (.tak 7 ⟨some 28, .ext 1 (.t 21), none, []⟩ (.alt 8 ⟨some 5, .alloc [.int .i64 0, .int .u16 0], none, []⟩ (.alt 9 ⟨none, .st 2 (.t 5) (.t 27), none, []⟩ (.tak 10 ⟨some 6, .mov (.t 28), none, []⟩ .done) .stop) .stop)))) (.alt 8 ⟨some 5, .alloc [.int .i64 0, .int .u16 0], none, []⟩ (.alt 4 ⟨some 26, .call 10 [.t 22, .t 25], none, []⟩ (.tak 5 ⟨some 21, .mov (.t 26), none, []⟩ (.tak 6 ⟨some 27, .ext 0 (.t 21), none, []⟩ (.tak 7 ⟨some 28, .ext 1 (.t 21), none, []⟩ (.alt 9 ⟨none, .st 2 (.t 5) (.t 27), none, []⟩ (.tak 10 ⟨some 6, .mov (.t 28), none, []⟩ .done) .stop)))) .stop) .stop)))))) [[], [], [1], [2], [0, 3], [4], [5], [5], [], [8, 6, 4, 0, 1, 2, 3, 4, 5, 6, 8], [7, 9, 0, 1, 2, 3, 4, 5, 6, 7, 8, 9]] [⟨some 22, .ld true 2 (.t 2), none, []⟩, ⟨some 23, .mov (.t 1), none, []⟩, ⟨some 24, .iax 2 (.t 23) (.c (.int .i64 0)), none, []⟩, ⟨some 25, .ld true 2 (.t 24), none, []⟩, ⟨some 26, .call 10 [.t 22, .t 25], none, []⟩, ⟨some 21, .mov (.t 26), none, []⟩, ⟨some 27, .ext 0 (.t 21), none, []⟩, ⟨some 28, .ext 1 (.t 21), none, []⟩, ⟨some 5, .alloc [.int .i64 0, .int .u16 0], none, []⟩, ⟨none, .st 2 (.t 5) (.t 27), none, []⟩, ⟨some 6, .mov (.t 28), none, []⟩])
  (.drop [21, 22, 23, 24, 25, 26, 27, 28]
   (.seq
    (.seq
     (.region false [] [⟨some 29, .mov (.t 6), none, [6]⟩, ⟨some 30, .bin false .eql (.t 29) (.c (.int .i64 0)), none, [29]⟩])
    (.cond (.t 30)
      (.drop [30]
       (.seq
        (.draws (.tak 1 ⟨some 33, .mov (.t 1), none, []⟩ (.tak 2 ⟨some 34, .iax 2 (.t 33) (.c (.int .i64 0)), none, []⟩ (.tak 3 ⟨some 35, .fad 0 (.t 34), none, []⟩ (.tak 4 ⟨some 36, .ld false 1 (.t 35), none, []⟩ (.tak 5 ⟨some 37, .un .not (.t 36), none, []⟩ (.tak 6 ⟨some 38, .mov (.t 1), none, []⟩ (.tak 7 ⟨some 39, .iax 2 (.t 38) (.c (.int .i64 0)), none, []⟩ (.tak 8 ⟨some 40, .fad 1 (.t 39), none, []⟩ (.tak 9 ⟨some 41, .ld false 1 (.t 40), none, []⟩ (.tak 10 ⟨some 42, .bld [.bool false, .int .u8 0] [(0, 1, .t 37), (1, 1, .t 41)], none, []⟩ (.alt 0 ⟨some 32, .ld true 2 (.t 5), none, []⟩ (.alt 11 ⟨some 43, .call 10 [.t 32, .t 42], none, []⟩ (.tak 12 ⟨some 31, .mov (.t 43), none, []⟩ (.tak 13 ⟨some 44, .ext 0 (.t 31), none, []⟩ (.tak 14 ⟨some 45, .ext 1 (.t 31), none, []⟩ (.alt 15 ⟨some 7, .alloc [.int .i64 0, .int .u16 0], none, []⟩ (.alt 16 ⟨none, .st 2 (.t 7) (.t 44), none, []⟩ (.tak 17 ⟨some 8, .mov (.t 45), none, []⟩ .done) .stop) .stop)))) (.alt 15 ⟨some 7, .alloc [.int .i64 0, .int .u16 0], none, []⟩ (.alt 11 ⟨some 43, .call 10 [.t 32, .t 42], none, []⟩ (.tak 12 ⟨some 31, .mov (.t 43), none, []⟩ (.tak 13 ⟨some 44, .ext 0 (.t 31), none, []⟩ (.tak 14 ⟨some 45, .ext 1 (.t 31), none, []⟩ (.alt 16 ⟨none, .st 2 (.t 7) (.t 44), none, []⟩ (.tak 17 ⟨some 8, .mov (.t 45), none, []⟩ .done) .stop)))) .stop) .stop)) (.alt 15 ⟨some 7, .alloc [.int .i64 0, .int .u16 0], none, []⟩ (.alt 0 ⟨some 32, .ld true 2 (.t 5), none, []⟩ (.alt 11 ⟨some 43, .call 10 [.t 32, .t 42], none, []⟩ (.tak 12 ⟨some 31, .mov (.t 43), none, []⟩ (.tak 13 ⟨some 44, .ext 0 (.t 31), none, []⟩ (.tak 14 ⟨some 45, .ext 1 (.t 31), none, []⟩ (.alt 16 ⟨none, .st 2 (.t 7) (.t 44), none, []⟩ (.tak 17 ⟨some 8, .mov (.t 45), none, []⟩ .done) .stop)))) .stop) .stop) .stop)))))))))))) [[], [], [1], [2], [3], [4], [], [6], [7], [8], [5, 9], [0, 10], [11], [12], [12], [], [15, 13, 11, 0, 1, 2, 3, 4, 5, 6, 7, 8, 9, 10, 11, 12, 13, 15], [14, 16, 0, 1, 2, 3, 4, 5, 6, 7, 8, 9, 10, 11, 12, 13, 14, 15, 16]] [⟨some 32, .ld true 2 (.t 5), none, []⟩, ⟨some 33, .mov (.t 1), none, []⟩, ⟨some 34, .iax 2 (.t 33) (.c (.int .i64 0)), none, []⟩, ⟨some 35, .fad 0 (.t 34), none, []⟩, ⟨some 36, .ld false 1 (.t 35), none, []⟩, ⟨some 37, .un .not (.t 36), none, []⟩, ⟨some 38, .mov (.t 1), none, []⟩, ⟨some 39, .iax 2 (.t 38) (.c (.int .i64 0)), none, []⟩, ⟨some 40, .fad 1 (.t 39), none, []⟩, ⟨some 41, .ld false 1 (.t 40), none, []⟩, ⟨some 42, .bld [.bool false, .int .u8 0] [(0, 1, .t 37), (1, 1, .t 41)], none, []⟩, ⟨some 43, .call 10 [.t 32, .t 42], none, []⟩, ⟨some 31, .mov (.t 43), none, []⟩, ⟨some 44, .ext 0 (.t 31), none, []⟩, ⟨some 45, .ext 1 (.t 31), none, []⟩, ⟨some 7, .alloc [.int .i64 0, .int .u16 0], none, []⟩, ⟨none, .st 2 (.t 7) (.t 44), none, []⟩, ⟨some 8, .mov (.t 45), none, []⟩])
       (.drop [5, 31, 32, 33, 34, 35, 36, 37, 38, 39, 40, 41, 42, 43, 44, 45]
        (.seq
         (.region false [] [⟨some 46, .mov (.t 8), none, []⟩, ⟨some 47, .bin false .neq (.t 46) (.c (.int .i64 0)), none, [46]⟩, ⟨some 48, .mov (.t 47), none, [47]⟩, ⟨some 49, .fad 0 (.t 2), some (48, true), []⟩, ⟨some 50, .ld false 1 (.t 49), some (48, true), [49]⟩, ⟨some 51, .bin false .lss (.t 50) (.c (.int .i64 999)), some (48, true), [50]⟩, ⟨some 52, .pick (.t 48) (.t 51) (.c (.bool false)), none, [48, 51]⟩, ⟨some 53, .mov (.t 52), none, [52]⟩, ⟨some 54, .mov (.t 8), some (53, false), [8]⟩, ⟨some 55, .bin false .eql (.t 54) (.c (.int .i64 0)), some (53, false), [54]⟩, ⟨some 56, .mov (.t 55), some (53, false), [55]⟩, ⟨some 57, .fad 1 (.t 7), some (56, true), []⟩, ⟨some 58, .ld false 1 (.t 57), some (56, true), [57]⟩, ⟨some 59, .fad 1 (.t 2), some (56, true), []⟩, ⟨some 60, .ld false 1 (.t 59), some (56, true), [59]⟩, ⟨some 61, .bin false .neq (.t 58) (.t 60), some (56, true), [58, 60]⟩, ⟨some 62, .mov (.t 61), some (56, true), [61]⟩, ⟨some 63, .fad 0 (.t 7), some (62, false), [7]⟩, ⟨some 64, .ld false 1 (.t 63), some (62, false), [63]⟩, ⟨some 65, .fad 0 (.t 2), some (62, false), []⟩, ⟨some 66, .ld false 1 (.t 65), some (62, false), [65]⟩, ⟨some 67, .bin false .add (.t 66) (.c (.int .i64 2)), some (62, false), [66]⟩, ⟨some 68, .bin false .neq (.t 64) (.t 67), some (62, false), [64, 67]⟩, ⟨some 69, .pick (.t 62) (.c (.bool true)) (.t 68), some (56, true), [62, 68]⟩, ⟨some 70, .pick (.t 56) (.t 69) (.c (.bool false)), some (53, false), [56, 69]⟩, ⟨some 71, .pick (.t 53) (.c (.bool true)) (.t 70), none, [53, 70]⟩])
        (.cond (.t 71)
          (.drop [1, 2, 71]
           (.seq
            (.region false [] [⟨some 4, .mov (.c (.bool false)), none, []⟩])
           .ret))
          (.drop [71]
           .skip))))))
      (.drop [5, 30]
       .skip)))
   (.seq
    (.draws (.tak 0 ⟨some 72, .ld true 2 (.t 2), none, []⟩ (.tak 1 ⟨some 73, .mov (.t 1), none, []⟩ (.alt 2 ⟨some 74, .call 20 [.t 73], none, []⟩ (.alt 3 ⟨some 75, .call 19 [.t 72, .t 74], none, []⟩ (.tak 4 ⟨some 9, .mov (.t 75), none, []⟩ .done) .stop) .stop))) [[], [], [1], [0, 2, 2], [3, 3, 0, 1, 2, 3]] [⟨some 72, .ld true 2 (.t 2), none, []⟩, ⟨some 73, .mov (.t 1), none, []⟩, ⟨some 74, .call 20 [.t 73], none, []⟩, ⟨some 75, .call 19 [.t 72, .t 74], none, []⟩, ⟨some 9, .mov (.t 75), none, []⟩])
   (.drop [72, 73, 74, 75]
    (.seq
     (.seq
      (.region false [] [⟨some 10, .mov (.c (.int .i64 1)), none, []⟩])
     (.block 0
      (.loop [1, 2, 9, 10]
       (.seq
        (.seq
         (.region false [] [⟨some 76, .mov (.t 10), none, []⟩, ⟨some 77, .mov (.t 9), none, []⟩, ⟨some 78, .len false (.t 77), none, [77]⟩, ⟨some 79, .bin false .lss (.t 76) (.t 78), none, [76, 78]⟩])
        (.cond (.t 79)
          (.drop [79]
           .skip)
          (.drop [10, 79]
           (.exit 0))))
       (.seq
        (.block 1
         (.seq
          (.draws (.tak 0 ⟨some 82, .mov (.t 9), none, []⟩ (.tak 1 ⟨some 83, .mov (.t 10), none, []⟩ (.tak 2 ⟨some 84, .iax 2 (.t 82) (.t 83), none, []⟩ (.tak 3 ⟨some 85, .fad 0 (.t 84), none, []⟩ (.tak 4 ⟨some 86, .ld false 1 (.t 85), none, []⟩ (.tak 5 ⟨some 87, .mov (.t 9), none, []⟩ (.tak 6 ⟨some 88, .mov (.t 10), none, []⟩ (.tak 7 ⟨some 89, .bin false .sub (.t 88) (.c (.int .i64 1)), none, []⟩ (.tak 8 ⟨some 90, .iax 2 (.t 87) (.t 89), none, []⟩ (.tak 9 ⟨some 91, .fad 0 (.t 90), none, []⟩ (.tak 10 ⟨some 92, .ld false 1 (.t 91), none, []⟩ (.tak 11 ⟨some 93, .bin false .add (.t 92) (.c (.int .i64 1)), none, []⟩ (.tak 12 ⟨some 94, .bin false .neq (.t 86) (.t 93), none, []⟩ (.tak 13 ⟨some 95, .mov (.t 94), none, []⟩ (.tak 14 ⟨some 96, .mov (.t 9), some (95, false), []⟩ (.tak 15 ⟨some 97, .mov (.t 10), some (95, false), []⟩ (.tak 16 ⟨some 98, .iax 2 (.t 96) (.t 97), some (95, false), []⟩ (.tak 17 ⟨some 99, .fad 1 (.t 98), some (95, false), []⟩ (.tak 18 ⟨some 100, .ld false 1 (.t 99), some (95, false), []⟩ (.tak 19 ⟨some 101, .mov (.t 9), some (95, false), []⟩ (.tak 20 ⟨some 102, .mov (.t 10), some (95, false), []⟩ (.tak 21 ⟨some 103, .bin false .sub (.t 102) (.c (.int .i64 1)), some (95, false), []⟩ (.tak 22 ⟨some 104, .iax 2 (.t 101) (.t 103), some (95, false), []⟩ (.tak 23 ⟨some 105, .fad 1 (.t 104), some (95, false), []⟩ (.tak 24 ⟨some 106, .ld false 1 (.t 105), some (95, false), []⟩ (.tak 25 ⟨some 107, .bin false .xor (.t 100) (.t 106), some (95, false), []⟩ (.alt 26 ⟨some 108, .call 22 [.t 107], some (95, false), []⟩ (.tak 27 ⟨some 109, .bin false .neq (.t 108) (.c (.int .i64 1)), some (95, false), []⟩ (.tak 28 ⟨some 110, .pick (.t 95) (.c (.bool true)) (.t 109), none, []⟩ (.tak 29 ⟨some 111, .mov (.t 110), none, []⟩ (.tak 30 ⟨some 112, .mov (.t 9), some (111, false), []⟩ (.tak 31 ⟨some 113, .mov (.t 10), some (111, false), []⟩ (.tak 32 ⟨some 114, .iax 2 (.t 112) (.t 113), some (111, false), []⟩ (.tak 33 ⟨some 115, .fad 1 (.t 114), some (111, false), []⟩ (.tak 34 ⟨some 116, .ld false 1 (.t 115), some (111, false), []⟩ (.tak 35 ⟨some 117, .bin false .eql (.t 116) (.c (.int .u16 0)), some (111, false), []⟩ (.tak 36 ⟨some 118, .pick (.t 111) (.c (.bool true)) (.t 117), none, []⟩ .done)))))))))) .stop))))))))))))))))))))))))))) [[], [], [0, 1], [2], [3], [], [], [6], [5, 7], [8], [9], [10], [4, 11], [12], [13], [13], [14, 15, 13], [16, 13], [17, 13], [13], [13], [20, 13], [19, 21, 13], [22, 13], [23, 13], [18, 24, 13], [25, 13, 13], [26, 13], [13, 27], [28, 26], [29], [29], [30, 31, 29], [32, 29], [33, 29], [34, 29], [29, 35]] [⟨some 82, .mov (.t 9), none, []⟩, ⟨some 83, .mov (.t 10), none, []⟩, ⟨some 84, .iax 2 (.t 82) (.t 83), none, []⟩, ⟨some 85, .fad 0 (.t 84), none, []⟩, ⟨some 86, .ld false 1 (.t 85), none, []⟩, ⟨some 87, .mov (.t 9), none, []⟩, ⟨some 88, .mov (.t 10), none, []⟩, ⟨some 89, .bin false .sub (.t 88) (.c (.int .i64 1)), none, []⟩, ⟨some 90, .iax 2 (.t 87) (.t 89), none, []⟩, ⟨some 91, .fad 0 (.t 90), none, []⟩, ⟨some 92, .ld false 1 (.t 91), none, []⟩, ⟨some 93, .bin false .add (.t 92) (.c (.int .i64 1)), none, []⟩, ⟨some 94, .bin false .neq (.t 86) (.t 93), none, []⟩, ⟨some 95, .mov (.t 94), none, []⟩, ⟨some 96, .mov (.t 9), some (95, false), []⟩, ⟨some 97, .mov (.t 10), some (95, false), []⟩, ⟨some 98, .iax 2 (.t 96) (.t 97), some (95, false), []⟩, ⟨some 99, .fad 1 (.t 98), some (95, false), []⟩, ⟨some 100, .ld false 1 (.t 99), some (95, false), []⟩, ⟨some 101, .mov (.t 9), some (95, false), []⟩, ⟨some 102, .mov (.t 10), some (95, false), []⟩, ⟨some 103, .bin false .sub (.t 102) (.c (.int .i64 1)), some (95, false), []⟩, ⟨some 104, .iax 2 (.t 101) (.t 103), some (95, false), []⟩, ⟨some 105, .fad 1 (.t 104), some (95, false), []⟩, ⟨some 106, .ld false 1 (.t 105), some (95, false), []⟩, ⟨some 107, .bin false .xor (.t 100) (.t 106), some (95, false), []⟩, ⟨some 108, .call 22 [.t 107], some (95, false), []⟩, ⟨some 109, .bin false .neq (.t 108) (.c (.int .i64 1)), some (95, false), []⟩, ⟨some 110, .pick (.t 95) (.c (.bool true)) (.t 109), none, []⟩, ⟨some 111, .mov (.t 110), none, []⟩, ⟨some 112, .mov (.t 9), some (111, false), []⟩, ⟨some 113, .mov (.t 10), some (111, false), []⟩, ⟨some 114, .iax 2 (.t 112) (.t 113), some (111, false), []⟩, ⟨some 115, .fad 1 (.t 114), some (111, false), []⟩, ⟨some 116, .ld false 1 (.t 115), some (111, false), []⟩, ⟨some 117, .bin false .eql (.t 116) (.c (.int .u16 0)), some (111, false), []⟩, ⟨some 118, .pick (.t 111) (.c (.bool true)) (.t 117), none, []⟩])
         (.drop [82, 83, 84, 85, 86, 87, 88, 89, 90, 91, 92, 93, 94, 95, 96, 97, 98, 99, 100, 101, 102, 103, 104, 105, 106, 107, 108, 109, 110, 111, 112, 113, 114, 115, 116, 117]
          (.cond (.t 118)
            (.drop [1, 2, 9, 10, 118]
             (.seq
              (.region false [] [⟨some 4, .mov (.c (.bool false)), none, []⟩])
             .ret))
            (.drop [118]
             .skip)))))
       (.region false [] [⟨some 80, .mov (.t 10), none, [10]⟩, ⟨some 81, .bin false .add (.t 80) (.c (.int .i64 1)), none, [80]⟩, ⟨some 10, .mov (.t 81), none, [81]⟩]))))))
    (.seq
     (.region false [] [⟨some 119, .mov (.t 9), none, []⟩, ⟨some 120, .len false (.t 119), none, [119]⟩, ⟨some 121, .bin false .eql (.t 120) (.c (.int .i64 0)), none, [120]⟩, ⟨some 122, .ld true 2 (.t 2), none, [2]⟩, ⟨some 123, .call 12 [.t 122], none, [122]⟩, ⟨some 124, .un .not (.t 123), none, [123]⟩, ⟨some 125, .bin true .eql (.t 121) (.t 124), none, [121, 124]⟩, ⟨some 126, .mov (.t 125), none, [125]⟩, ⟨some 127, .mov (.t 9), some (126, true), [9]⟩, ⟨some 128, .len false (.t 127), some (126, true), [127]⟩, ⟨some 129, .mov (.t 1), some (126, true), [1]⟩, ⟨some 130, .len false (.t 129), some (126, true), [129]⟩, ⟨some 131, .bin false .add (.t 130) (.c (.int .i64 1)), some (126, true), [130]⟩, ⟨some 132, .bin false .leq (.t 128) (.t 131), some (126, true), [128, 131]⟩, ⟨some 133, .pick (.t 126) (.t 132) (.c (.bool false)), none, [126, 132]⟩, ⟨some 4, .mov (.t 133), none, [133]⟩])
    .ret)))))))))))
def rs_7 : List ARes := [.tmp 4]
theorem g_7 : Good Tryd.prog 7 ac_7 rs_7 := ⟨Tryd.f7, Tryd.f7.body.getD .skip, by kernel_rfl, by kernel_rfl, by kernel_rfl, ⟨by kernel_rfl, by kernel_rfl⟩, by kernel_rfl, by kernel_rfl⟩
theorem ok_7 {Γ : Env} (hΓ : EnvOk Tryd.prog Γ) (sp : Spec) (h : WB Γ ac_7 rs_7 sp) : CallOk Tryd.prog 7 sp := g_7.ok hΓ mix_ok sp h

/-- chantry/chantrylaw11.RollEnds -/
def ac_8 : ACode :=
 (.seq
  (.region false [] [⟨some 3, .box (.t 0), none, [0]⟩, ⟨some 6, .mov (.c (.bool false)), none, []⟩])
 (.seal_ 3
  (.seq
   (.seq
    (.region false [] [⟨some 14, .call 9 [], none, []⟩, ⟨some 15, .un .not (.t 14), none, [14]⟩])
   (.cond (.t 15)
     (.drop [1, 2, 3, 15]
      (.seq
       (.region false [] [⟨some 6, .mov (.c (.bool false)), none, []⟩])
      .ret))
     (.drop [15]
      .skip)))
  (.seq
   (.seq
    (.region false [] [⟨some 16, .mov (.t 1), none, []⟩, ⟨some 17, .len false (.t 16), none, [16]⟩, ⟨some 18, .bin false .gtr (.t 17) (.c (.int .i64 100)), none, [17]⟩, ⟨some 19, .mov (.t 18), none, [18]⟩, ⟨some 20, .ld true 2 (.t 3), some (19, false), []⟩, ⟨some 21, .call 12 [.t 20], some (19, false), [20]⟩, ⟨some 22, .un .not (.t 21), some (19, false), [21]⟩, ⟨some 23, .pick (.t 19) (.c (.bool true)) (.t 22), none, [19, 22]⟩])
   (.cond (.t 23)
     (.drop [1, 2, 3, 23]
      (.seq
       (.region false [] [⟨some 6, .mov (.c (.bool true)), none, []⟩])
      .ret))
     (.drop [23]
      .skip)))
  (.seq
   (.region false [] [⟨some 24, .mov (.t 1), none, [1]⟩, ⟨some 25, .call 20 [.t 24], none, [24]⟩, ⟨some 7, .mov (.t 25), none, [25]⟩])
  (.seq
   (.region false [] [⟨some 26, .mov (.t 2), none, [2]⟩, ⟨some 27, .cvt .i64 (.t 26), none, [26]⟩, ⟨some 28, .mov (.t 7), none, []⟩, ⟨some 29, .len false (.t 28), none, [28]⟩, ⟨some 30, .bin false .add (.t 29) (.c (.int .i64 1)), none, [29]⟩, ⟨some 31, .bin false .rem (.t 27) (.t 30), none, [27, 30]⟩, ⟨some 8, .mov (.t 31), none, [31]⟩])
  (.seq
   (.draws (.tak 0 ⟨some 32, .ld true 2 (.t 3), none, []⟩ (.tak 1 ⟨some 33, .mov (.t 7), none, []⟩ (.tak 3 ⟨some 35, .ld true 2 (.t 3), none, []⟩ (.tak 4 ⟨some 36, .mov (.t 7), none, []⟩ (.tak 5 ⟨some 37, .mov (.t 8), none, []⟩ (.tak 6 ⟨some 38, .slc false 2 (.t 36) none (some (.t 37)), none, []⟩ (.alt 2 ⟨some 34, .call 19 [.t 32, .t 33], none, []⟩ (.alt 7 ⟨some 39, .call 19 [.t 35, .t 38], none, []⟩ (.tak 8 ⟨some 9, .mov (.t 34), none, []⟩ (.tak 9 ⟨some 10, .mov (.t 39), none, []⟩ .done)) .stop) .stop))))))) [[], [], [0, 1], [], [], [], [4, 5], [3, 6, 2], [2, 7, 0, 1, 2], [7, 8, 0, 1, 2, 3, 4, 5, 6, 7, 8]] [⟨some 32, .ld true 2 (.t 3), none, []⟩, ⟨some 33, .mov (.t 7), none, []⟩, ⟨some 34, .call 19 [.t 32, .t 33], none, []⟩, ⟨some 35, .ld true 2 (.t 3), none, []⟩, ⟨some 36, .mov (.t 7), none, []⟩, ⟨some 37, .mov (.t 8), none, []⟩, ⟨some 38, .slc false 2 (.t 36) none (some (.t 37)), none, []⟩, ⟨some 39, .call 19 [.t 35, .t 38], none, []⟩, ⟨some 9, .mov (.t 34), none, []⟩, ⟨some 10, .mov (.t 39), none, []⟩])
  (.drop [3, 32, 33, 34, 35, 36, 37, 38, 39]
   (.seq
    (.seq
     (.region false [] [⟨some 40, .mov (.t 10), none, []⟩, ⟨some 41, .len false (.t 40), none, [40]⟩, ⟨some 42, .bin false .eql (.t 41) (.c (.int .i64 0)), none, [41]⟩, ⟨some 43, .mov (.t 42), none, [42]⟩, ⟨some 44, .mov (.t 10), some (43, false), []⟩, ⟨some 45, .len false (.t 44), some (43, false), [44]⟩, ⟨some 46, .mov (.t 9), some (43, false), []⟩, ⟨some 47, .len false (.t 46), some (43, false), [46]⟩, ⟨some 48, .bin false .gtr (.t 45) (.t 47), some (43, false), [45, 47]⟩, ⟨some 49, .pick (.t 43) (.c (.bool true)) (.t 48), none, [43, 48]⟩, ⟨some 50, .mov (.t 49), none, [49]⟩, ⟨some 51, .mov (.t 10), some (50, false), []⟩, ⟨some 52, .len false (.t 51), some (50, false), [51]⟩, ⟨some 53, .mov (.t 9), some (50, false), []⟩, ⟨some 54, .len false (.t 53), some (50, false), [53]⟩, ⟨some 55, .mov (.t 8), some (50, false), [8]⟩, ⟨some 56, .bin false .add (.t 55) (.c (.int .i64 1)), some (50, false), [55]⟩, ⟨some 57, .mnn [.t 54, .t 56], some (50, false), [54, 56]⟩, ⟨some 58, .bin false .neq (.t 52) (.t 57), some (50, false), [52, 57]⟩, ⟨some 59, .pick (.t 50) (.c (.bool true)) (.t 58), none, [50, 58]⟩])
    (.cond (.t 59)
      (.drop [7, 9, 10, 59]
       (.seq
        (.region false [] [⟨some 6, .mov (.c (.bool false)), none, []⟩])
       .ret))
      (.drop [59]
       .skip)))
   (.seq
    (.seq
     (.region false [] [⟨some 60, .mov (.t 10), none, []⟩, ⟨some 61, .len false (.t 60), none, [60]⟩, ⟨some 62, .mov (.c (.int .i64 0)), none, []⟩])
    (.block 0
     (.loop [7, 9, 10, 61, 62]
      (.seq
       (.region false [] [⟨some 63, .bin false .lss (.t 62) (.t 61), none, []⟩])
      (.seq
       (.cond (.t 63)
         (.drop [63]
          .skip)
         (.drop [10, 61, 62, 63]
          (.exit 0)))
      (.seq
       (.block 1
        (.seq
         (.region false [] [⟨some 64, .mov (.t 62), none, []⟩, ⟨some 11, .mov (.t 64), none, [64]⟩])
        (.seq
         (.draws (.tak 0 ⟨some 65, .mov (.t 10), none, []⟩ (.tak 1 ⟨some 66, .mov (.t 11), none, []⟩ (.tak 2 ⟨some 67, .iax 2 (.t 65) (.t 66), none, []⟩ (.tak 3 ⟨some 68, .ld true 2 (.t 67), none, []⟩ (.tak 4 ⟨some 69, .mov (.t 9), none, []⟩ (.tak 5 ⟨some 70, .mov (.t 11), none, []⟩ (.tak 6 ⟨some 71, .iax 2 (.t 69) (.t 70), none, []⟩ (.tak 7 ⟨some 72, .ld true 2 (.t 71), none, []⟩ (.tak 8 ⟨some 73, .eqs true [.i, .i] (.t 68) (.t 72), none, []⟩ .done))))))))) [[], [], [0, 1], [2], [], [], [4, 5], [6], [3, 7]] [⟨some 65, .mov (.t 10), none, []⟩, ⟨some 66, .mov (.t 11), none, []⟩, ⟨some 67, .iax 2 (.t 65) (.t 66), none, []⟩, ⟨some 68, .ld true 2 (.t 67), none, []⟩, ⟨some 69, .mov (.t 9), none, []⟩, ⟨some 70, .mov (.t 11), none, []⟩, ⟨some 71, .iax 2 (.t 69) (.t 70), none, []⟩, ⟨some 72, .ld true 2 (.t 71), none, []⟩, ⟨some 73, .eqs true [.i, .i] (.t 68) (.t 72), none, []⟩])
        (.drop [11, 65, 66, 67, 68, 69, 70, 71, 72]
         (.cond (.t 73)
           (.drop [7, 9, 10, 61, 62, 73]
            (.seq
             (.region false [] [⟨some 6, .mov (.c (.bool false)), none, []⟩])
            .ret))
           (.drop [73]
            .skip))))))
      (.region false [] [⟨some 74, .bin false .add (.t 62) (.c (.int .i64 1)), none, [62]⟩, ⟨some 62, .mov (.t 74), none, [74]⟩])))))))
   (.seq
    (.seq
     (.region false [] [⟨some 75, .mov (.t 9), none, []⟩, ⟨some 76, .len false (.t 75), none, [75]⟩, ⟨some 77, .mov (.t 7), none, []⟩, ⟨some 78, .len false (.t 77), none, [77]⟩, ⟨some 79, .bin false .leq (.t 76) (.t 78), none, [76, 78]⟩])
    (.cond (.t 79)
      (.drop [79]
       (.seq
        (.draws (.tak 0 ⟨some 81, .mov (.t 9), none, []⟩ (.tak 1 ⟨some 82, .mov (.t 9), none, []⟩ (.tak 2 ⟨some 83, .len false (.t 82), none, []⟩ (.tak 3 ⟨some 84, .bin false .sub (.t 83) (.c (.int .i64 1)), none, []⟩ (.tak 4 ⟨some 85, .iax 2 (.t 81) (.t 84), none, []⟩ (.tak 5 ⟨some 86, .ld true 2 (.t 85), none, []⟩ (.tak 6 ⟨some 87, .mov (.t 7), none, []⟩ (.tak 7 ⟨some 88, .mov (.t 9), none, []⟩ (.tak 8 ⟨some 89, .len false (.t 88), none, []⟩ (.tak 9 ⟨some 90, .bin false .sub (.t 89) (.c (.int .i64 1)), none, []⟩ (.tak 10 ⟨some 91, .iax 2 (.t 87) (.t 90), none, []⟩ (.tak 11 ⟨some 92, .ld true 2 (.t 91), none, []⟩ (.alt 12 ⟨some 93, .call 10 [.t 86, .t 92], none, []⟩ (.tak 13 ⟨some 80, .mov (.t 93), none, []⟩ (.tak 14 ⟨some 94, .ext 0 (.t 80), none, []⟩ (.tak 15 ⟨some 95, .ext 1 (.t 80), none, []⟩ (.alt 16 ⟨some 12, .alloc [.int .i64 0, .int .u16 0], none, []⟩ (.alt 17 ⟨none, .st 2 (.t 12) (.t 94), none, []⟩ (.tak 18 ⟨some 13, .mov (.t 95), none, []⟩ .done) .stop) .stop)))) (.alt 16 ⟨some 12, .alloc [.int .i64 0, .int .u16 0], none, []⟩ (.alt 12 ⟨some 93, .call 10 [.t 86, .t 92], none, []⟩ (.tak 13 ⟨some 80, .mov (.t 93), none, []⟩ (.tak 14 ⟨some 94, .ext 0 (.t 80), none, []⟩ (.tak 15 ⟨some 95, .ext 1 (.t 80), none, []⟩ (.alt 17 ⟨none, .st 2 (.t 12) (.t 94), none, []⟩ (.tak 18 ⟨some 13, .mov (.t 95), none, []⟩ .done) .stop)))) .stop) .stop)))))))))))))) [[], [], [1], [2], [0, 3], [4], [], [], [7], [8], [6, 9], [10], [5, 11], [12], [13], [13], [], [16, 14, 12, 0, 1, 2, 3, 4, 5, 6, 7, 8, 9, 10, 11, 12, 13, 14, 16], [15, 17, 0, 1, 2, 3, 4, 5, 6, 7, 8, 9, 10, 11, 12, 13, 14, 15, 16, 17]] [⟨some 81, .mov (.t 9), none, []⟩, ⟨some 82, .mov (.t 9), none, []⟩, ⟨some 83, .len false (.t 82), none, []⟩, ⟨some 84, .bin false .sub (.t 83) (.c (.int .i64 1)), none, []⟩, ⟨some 85, .iax 2 (.t 81) (.t 84), none, []⟩, ⟨some 86, .ld true 2 (.t 85), none, []⟩, ⟨some 87, .mov (.t 7), none, []⟩, ⟨some 88, .mov (.t 9), none, []⟩, ⟨some 89, .len false (.t 88), none, []⟩, ⟨some 90, .bin false .sub (.t 89) (.c (.int .i64 1)), none, []⟩, ⟨some 91, .iax 2 (.t 87) (.t 90), none, []⟩, ⟨some 92, .ld true 2 (.t 91), none, []⟩, ⟨some 93, .call 10 [.t 86, .t 92], none, []⟩, ⟨some 80, .mov (.t 93), none, []⟩, ⟨some 94, .ext 0 (.t 80), none, []⟩, ⟨some 95, .ext 1 (.t 80), none, []⟩, ⟨some 12, .alloc [.int .i64 0, .int .u16 0], none, []⟩, ⟨none, .st 2 (.t 12) (.t 94), none, []⟩, ⟨some 13, .mov (.t 95), none, []⟩])
       (.drop [7, 9, 12, 80, 81, 82, 83, 84, 85, 86, 87, 88, 89, 90, 91, 92, 93, 94, 95]
        (.seq
         (.region false [] [⟨some 96, .mov (.t 13), none, [13]⟩, ⟨some 97, .bin false .eql (.t 96) (.c (.int .i64 0)), none, [96]⟩])
        (.cond (.t 97)
          (.drop [97]
           (.seq
            (.region false [] [⟨some 6, .mov (.c (.bool false)), none, []⟩])
           .ret))
          (.drop [97]
           .skip))))))
      (.drop [7, 9, 79]
       .skip)))
   (.seq
    (.region false [] [⟨some 6, .mov (.c (.bool true)), none, []⟩])
   .ret))))))))))))
def rs_8 : List ARes := [.tmp 6]
theorem g_8 : Good Tryd.prog 8 ac_8 rs_8 := ⟨Tryd.f8, Tryd.f8.body.getD .skip, by kernel_rfl, by kernel_rfl, by kernel_rfl, ⟨by kernel_rfl, by kernel_rfl⟩, by kernel_rfl, by kernel_rfl⟩
theorem ok_8 {Γ : Env} (hΓ : EnvOk Tryd.prog Γ) (sp : Spec) (h : WB Γ ac_8 rs_8 sp) : CallOk Tryd.prog 8 sp := g_8.ok hΓ mix_ok sp h

end Go.Proofs.YtjmgnodeohmboaaDoor.Am
