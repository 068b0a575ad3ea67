/-
  THE FUNCTIONS' ABSTRACT CODE, as Lean's own reduction of compCode printed it, with notes (genac.py); each is held against the translation by the kernel.
-/
import Derived.Test.YtajpaagbfmjacaaGreatDoorProg
import Derived.Test.YtajpaagbfmjacaaGreatDoorZXE
namespace Go.Proofs.YtajpaagbfmjacaaGreatDoor.Am
set_option linter.unusedSimpArgs false
set_option linter.unusedVariables false
open Go Go.Proofs
set_option maxRecDepth 100000


def bytes_d46a035e : ByteArray := ⟨#[0, 1, 2, 2, 3, 3, 3, 3, 4, 4, 4, 4, 4, 4, 4, 4, 5, 5, 5, 5, 5, 5, 5, 5, 5, 5, 5, 5, 5, 5, 5, 5, 6, 6, 6, 6, 6, 6, 6, 6, 6, 6, 6, 6, 6, 6, 6, 6, 6, 6, 6, 6, 6, 6, 6, 6, 6, 6, 6, 6, 6, 6, 6, 6, 7, 7, 7, 7, 7, 7, 7, 7, 7, 7, 7, 7, 7, 7, 7, 7, 7, 7, 7, 7, 7, 7, 7, 7, 7, 7, 7, 7, 7, 7, 7, 7, 7, 7, 7, 7, 7, 7, 7, 7, 7, 7, 7, 7, 7, 7, 7, 7, 7, 7, 7, 7, 7, 7, 7, 7, 7, 7, 7, 7, 7, 7, 7, 7, 8, 8, 8, 8, 8, 8, 8, 8, 8, 8, 8, 8, 8, 8, 8, 8, 8, 8, 8, 8, 8, 8, 8, 8, 8, 8, 8, 8, 8, 8, 8, 8, 8, 8, 8, 8, 8, 8, 8, 8, 8, 8, 8, 8, 8, 8, 8, 8, 8, 8, 8, 8, 8, 8, 8, 8, 8, 8, 8, 8, 8, 8, 8, 8, 8, 8, 8, 8, 8, 8, 8, 8, 8, 8, 8, 8, 8, 8, 8, 8, 8, 8, 8, 8, 8, 8, 8, 8, 8, 8, 8, 8, 8, 8, 8, 8, 8, 8, 8, 8, 8, 8, 8, 8, 8, 8, 8, 8, 8, 8, 8, 8, 8, 8, 8, 8, 8, 8, 8, 8, 8, 8, 8, 8, 8, 8, 8, 8]⟩
/-- chantry/past.Encode -/
def ac_59 : ACode :=
 (.seq
  (.region false [] [⟨some 1, .box (.t 0), none, [0]⟩, ⟨some 2, .mov (.c (.string ⟨#[]⟩)), none, []⟩, ⟨some 3, .mov (.c (.int .i64 0)), none, [2]⟩])
 (.seal_ 1
  (.seq
   (.seq
    (.region false [] [⟨some 9, .ld true 18 (.t 1), none, []⟩, ⟨some 10, .call 77 [.t 9], none, [9]⟩, ⟨some 11, .un .not (.t 10), none, [10]⟩])
   (.cond (.t 11)
     (.drop [1, 11]
      (.seq
       (.region false [] [⟨some 2, .mov (.c (.string ⟨#[]⟩)), none, []⟩, ⟨some 3, .mov (.c (.int .i64 2)), none, []⟩])
      .ret))
     (.drop [11]
      .skip)))
  (.seq
   (.region false [] [⟨some 12, .fad 0 (.t 1), none, []⟩, ⟨some 13, .ld false 1 (.t 12), none, [12]⟩, ⟨some 14, .cvt .u64 (.t 13), none, [13]⟩, ⟨some 15, .bld [.int .i64 0, .int .u64 0, .string ⟨#[]⟩, .float .f64 0] [(0, 1, .c (.int .i64 1)), (1, 1, .t 14)], none, [14]⟩, ⟨some 16, .bsl 171 4 [.t 15], none, [15]⟩, ⟨some 4, .mov (.t 16), none, [16]⟩])
  (.seq
   (.seq
    (.region false [] [⟨some 17, .fad 1 (.t 1), none, []⟩, ⟨some 18, .ld true 16 (.t 17), none, [17]⟩, ⟨some 19, .mov (.c (.int .i64 0)), none, []⟩])
   (.block 0
    (.loop [1, 4, 18, 19]
     (.seq
      (.region false [] [⟨some 20, .bin false .lss (.t 19) (.c (.int .i64 16)), none, []⟩])
     (.seq
      (.cond (.t 20)
        (.drop [20]
         .skip)
        (.drop [18, 19, 20]
         (.exit 0)))
     (.seq
      (.block 1
       (.seq
        (.region false [] [⟨some 21, .ixa 16 1 false (.t 18) (.t 19), none, []⟩, ⟨some 6, .mov (.t 21), none, [21]⟩])
       (.region false [] [⟨some 22, .mov (.t 4), none, [4]⟩, ⟨some 23, .mov (.t 6), none, [6]⟩, ⟨some 24, .cvt .u64 (.t 23), none, [23]⟩, ⟨some 25, .bld [.int .i64 0, .int .u64 0, .string ⟨#[]⟩, .float .f64 0] [(0, 1, .c (.int .i64 1)), (1, 1, .t 24)], none, [24]⟩, ⟨some 26, .bsl 171 4 [.t 25], none, [25]⟩, ⟨some 27, .app 171 4 40 (.t 22) (.t 26), none, [22, 26]⟩, ⟨some 4, .mov (.t 27), none, [27]⟩])))
     (.region false [] [⟨some 28, .bin false .add (.t 19) (.c (.int .i64 1)), none, [19]⟩, ⟨some 19, .mov (.t 28), none, [28]⟩])))))))
  (.seq
   (.region false [] [⟨some 30, .mov (.t 4), none, [4]⟩, ⟨some 31, .fad 17 (.t 1), none, [1]⟩, ⟨some 32, .ld false 1 (.t 31), none, [31]⟩, ⟨some 33, .bld [.int .i64 0, .int .u64 0, .string ⟨#[]⟩, .float .f64 0] [(0, 1, .c (.int .i64 2)), (2, 1, .t 32)], none, [32]⟩, ⟨some 34, .bsl 171 4 [.t 33], none, [33]⟩, ⟨some 35, .app 171 4 40 (.t 30) (.t 34), none, [30, 34]⟩, ⟨some 36, .call 78 [.t 35], none, [35]⟩, ⟨some 29, .mov (.t 36), none, [36]⟩, ⟨some 37, .ext 0 (.t 29), none, []⟩, ⟨some 38, .ext 1 (.t 29), none, [29]⟩, ⟨some 7, .mov (.t 37), none, [37]⟩, ⟨some 8, .mov (.t 38), none, [38]⟩])
  (.seq
   (.region false [] [⟨some 39, .mov (.t 7), none, [7]⟩, ⟨some 40, .b2s (.t 39), none, [39]⟩, ⟨some 41, .mov (.t 8), none, [8]⟩, ⟨some 2, .mov (.t 40), none, [40]⟩, ⟨some 3, .mov (.t 41), none, [41]⟩])
  .ret)))))))
def rs_59 : List ARes := [.tmp 2, .tmp 3]
theorem g_59 : Good Tryz.prog 59 ac_59 rs_59 := ⟨Tryz.f59, Tryz.f59.body.getD .skip, by kernel_rfl, by kernel_rfl, by kernel_rfl, ⟨by kernel_rfl, by kernel_rfl⟩, by kernel_rfl, by kernel_rfl⟩
theorem ok_59 {Γ : Env} (hΓ : EnvOk Tryz.prog Γ) (sp : Spec) (h : WB Γ ac_59 rs_59 sp) : CallOk Tryz.prog 59 sp := g_59.ok hΓ mix_ok sp h

/-- chantry/chantryref09.Encode -/
def ac_60 : ACode :=
 (.seq
  (.region false [] [⟨some 1, .box (.t 0), none, [0]⟩, ⟨some 2, .mov (.c (.string ⟨#[]⟩)), none, []⟩, ⟨some 3, .mov (.c (.int .i64 0)), none, [2]⟩])
 (.seal_ 1
  (.seq
   (.seq
    (.region false [] [⟨some 8, .ld true 18 (.t 1), none, []⟩, ⟨some 9, .call 79 [.t 8], none, [8]⟩, ⟨some 10, .un .not (.t 9), none, [9]⟩])
   (.cond (.t 10)
     (.drop [1, 10]
      (.seq
       (.region false [] [⟨some 2, .mov (.c (.string ⟨#[]⟩)), none, []⟩, ⟨some 3, .mov (.c (.int .i64 2)), none, []⟩])
      .ret))
     (.drop [10]
      .skip)))
  (.seq
   (.region false [] [⟨some 11, .fad 0 (.t 1), none, []⟩, ⟨some 12, .ld false 1 (.t 11), none, [11]⟩, ⟨some 13, .cvt .u64 (.t 12), none, [12]⟩, ⟨some 14, .call 80 [.t 13], none, [13]⟩, ⟨some 15, .bsl 176 4 [.t 14], none, [14]⟩, ⟨some 4, .mov (.t 15), none, [15]⟩])
  (.seq
   (.seq
    (.region false [] [⟨some 5, .mov (.c (.int .i64 0)), none, []⟩])
   (.block 0
    (.loop [1, 4, 5]
     (.seq
      (.seq
       (.region false [] [⟨some 16, .mov (.t 5), none, []⟩, ⟨some 17, .bin false .lss (.t 16) (.c (.int .i64 16)), none, [16]⟩])
      (.cond (.t 17)
        (.drop [17]
         .skip)
        (.drop [5, 17]
         (.exit 0))))
     (.seq
      (.block 1
       (.region false [] [⟨some 20, .mov (.t 4), none, [4]⟩, ⟨some 21, .mov (.t 5), none, []⟩, ⟨some 22, .fad 1 (.t 1), none, []⟩, ⟨some 23, .iaa 16 1 (.t 22) (.t 21), none, [21, 22]⟩, ⟨some 24, .ld false 1 (.t 23), none, [23]⟩, ⟨some 25, .cvt .u64 (.t 24), none, [24]⟩, ⟨some 26, .call 80 [.t 25], none, [25]⟩, ⟨some 27, .bsl 176 4 [.t 26], none, [26]⟩, ⟨some 28, .app 176 4 40 (.t 20) (.t 27), none, [20, 27]⟩, ⟨some 4, .mov (.t 28), none, [28]⟩]))
     (.region false [] [⟨some 18, .mov (.t 5), none, [5]⟩, ⟨some 19, .bin false .add (.t 18) (.c (.int .i64 1)), none, [18]⟩, ⟨some 5, .mov (.t 19), none, [19]⟩]))))))
  (.seq
   (.region false [] [⟨some 29, .mov (.t 4), none, [4]⟩, ⟨some 30, .fad 17 (.t 1), none, [1]⟩, ⟨some 31, .ld false 1 (.t 30), none, [30]⟩, ⟨some 32, .call 81 [.t 31], none, [31]⟩, ⟨some 33, .bsl 176 4 [.t 32], none, [32]⟩, ⟨some 34, .app 176 4 40 (.t 29) (.t 33), none, [29, 33]⟩, ⟨some 4, .mov (.t 34), none, [34]⟩])
  (.seq
   (.region false [] [⟨some 36, .mov (.t 4), none, [4]⟩, ⟨some 37, .call 82 [.t 36], none, [36]⟩, ⟨some 35, .mov (.t 37), none, [37]⟩, ⟨some 38, .ext 0 (.t 35), none, []⟩, ⟨some 39, .ext 1 (.t 35), none, [35]⟩, ⟨some 6, .mov (.t 38), none, [38]⟩, ⟨some 7, .mov (.t 39), none, [39]⟩])
  (.seq
   (.region false [] [⟨some 40, .mov (.t 6), none, [6]⟩, ⟨some 41, .b2s (.t 40), none, [40]⟩, ⟨some 2, .mov (.t 41), none, [41]⟩, ⟨some 3, .mov (.c (.int .i64 0)), none, []⟩])
  .ret))))))))
def rs_60 : List ARes := [.tmp 2, .tmp 3]
theorem g_60 : Good Tryz.prog 60 ac_60 rs_60 := ⟨Tryz.f60, Tryz.f60.body.getD .skip, by kernel_rfl, by kernel_rfl, by kernel_rfl, ⟨by kernel_rfl, by kernel_rfl⟩, by kernel_rfl, by kernel_rfl⟩
theorem ok_60 {Γ : Env} (hΓ : EnvOk Tryz.prog Γ) (sp : Spec) (h : WB Γ ac_60 rs_60 sp) : CallOk Tryz.prog 60 sp := g_60.ok hΓ mix_ok sp h

/-- (chantry/past.Body).may -/
def ac_77 : ACode :=
 (.seq
  (.region false [] [⟨some 1, .box (.t 0), none, [0]⟩, ⟨some 2, .mov (.c (.bool false)), none, []⟩])
 (.seal_ 1
  (.seq
   (.seq
    (.region false [] [⟨some 5, .fad 1 (.t 1), none, []⟩, ⟨some 6, .ld true 16 (.t 5), none, [5]⟩, ⟨some 7, .mov (.c (.int .i64 0)), none, []⟩])
   (.block 0
    (.loop [1, 6, 7]
     (.seq
      (.region false [] [⟨some 8, .bin false .lss (.t 7) (.c (.int .i64 16)), none, []⟩])
     (.seq
      (.cond (.t 8)
        (.drop [8]
         .skip)
        (.drop [6, 7, 8]
         (.exit 0)))
     (.seq
      (.block 1
       (.seq
        (.region false [] [⟨some 9, .ixa 16 1 false (.t 6) (.t 7), none, []⟩, ⟨some 4, .mov (.t 9), none, [9]⟩])
       (.seq
        (.region false [] [⟨some 10, .mov (.t 4), none, [4]⟩, ⟨some 11, .bin false .gtr (.t 10) (.c (.int .u16 1000)), none, [10]⟩])
       (.cond (.t 11)
         (.drop [1, 6, 7, 11]
          (.seq
           (.region false [] [⟨some 2, .mov (.c (.bool false)), none, []⟩])
          .ret))
         (.drop [11]
          .skip)))))
     (.region false [] [⟨some 12, .bin false .add (.t 7) (.c (.int .i64 1)), none, [7]⟩, ⟨some 7, .mov (.t 12), none, [12]⟩])))))))
  (.seq
   (.region false [] [⟨some 13, .fad 0 (.t 1), none, []⟩, ⟨some 14, .ld false 1 (.t 13), none, [13]⟩, ⟨some 15, .bin false .geq (.t 14) (.c (.int .i64 1)), none, [14]⟩, ⟨some 16, .mov (.t 15), none, [15]⟩, ⟨some 17, .fad 0 (.t 1), some (16, true), []⟩, ⟨some 18, .ld false 1 (.t 17), some (16, true), [17]⟩, ⟨some 19, .bin false .leq (.t 18) (.c (.int .i64 3)), some (16, true), [18]⟩, ⟨some 20, .pick (.t 16) (.t 19) (.c (.bool false)), none, [16, 19]⟩, ⟨some 21, .mov (.t 20), none, [20]⟩, ⟨some 22, .fad 17 (.t 1), some (21, true), [1]⟩, ⟨some 23, .ld false 1 (.t 22), some (21, true), [22]⟩, ⟨some 24, .len true (.t 23), some (21, true), [23]⟩, ⟨some 25, .bin false .leq (.t 24) (.c (.int .i64 400)), some (21, true), [24]⟩, ⟨some 26, .pick (.t 21) (.t 25) (.c (.bool false)), none, [21, 25]⟩, ⟨some 2, .mov (.t 26), none, [26]⟩])
  .ret))))
def rs_77 : List ARes := [.tmp 2]
theorem g_77 : Good Tryz.prog 77 ac_77 rs_77 := ⟨Tryz.f77, Tryz.f77.body.getD .skip, by kernel_rfl, by kernel_rfl, by kernel_rfl, ⟨by kernel_rfl, by kernel_rfl⟩, by kernel_rfl, by kernel_rfl⟩
theorem ok_77 {Γ : Env} (hΓ : EnvOk Tryz.prog Γ) (sp : Spec) (h : WB Γ ac_77 rs_77 sp) : CallOk Tryz.prog 77 sp := g_77.ok hΓ mix_ok sp h

/-- chantry/pack.Encode -/
def ac_78 : ACode :=
 (.seq
  (.region false [] [⟨some 2, .mov (.c (.slice none 0 0)), none, []⟩, ⟨some 3, .mov (.c (.int .i64 0)), none, [2]⟩])
 (.seq
  (.region false [] [⟨some 7, .mov (.t 0), none, []⟩, ⟨some 8, .len false (.t 7), none, [7]⟩, ⟨some 9, .cvt .u8 (.t 8), none, [8]⟩, ⟨some 10, .bsl 5 1 [.t 9], none, [9]⟩, ⟨some 4, .mov (.t 10), none, [10]⟩])
 (.seq
  (.seq
   (.region false [] [⟨some 11, .mov (.t 0), none, []⟩, ⟨some 12, .len false (.t 11), none, []⟩, ⟨some 13, .mov (.c (.int .i64 0)), none, []⟩])
  (.block 0
   (.loop [0, 4, 11, 12, 13]
    (.seq
     (.region false [] [⟨some 14, .bin false .lss (.t 13) (.t 12), none, []⟩])
    (.seq
     (.cond (.t 14)
       (.drop [14]
        .skip)
       (.drop [11, 12, 13, 14]
        (.exit 0)))
    (.seq
     (.block 1
      (.seq
       (.region false [] [⟨some 15, .iax 4 (.t 11) (.t 13), none, []⟩, ⟨some 16, .ld true 4 (.t 15), none, [15]⟩, ⟨some 6, .alloc [.int .i64 0, .int .u64 0, .string ⟨#[]⟩, .float .f64 0], none, []⟩, ⟨none, .st 4 (.t 6) (.t 16), none, [16]⟩])
      (.seal_ 6
       (.seq
        (.seq
         (.region false [] [⟨some 17, .ld true 4 (.t 6), none, []⟩, ⟨some 18, .call 100 [.t 17], none, [17]⟩, ⟨some 19, .un .not (.t 18), none, [18]⟩])
        (.cond (.t 19)
          (.drop [0, 4, 6, 11, 12, 13, 19]
           (.seq
            (.region false [] [⟨some 2, .mov (.c (.slice none 0 0)), none, []⟩, ⟨some 3, .mov (.c (.int .i64 2)), none, []⟩])
           .ret))
          (.drop [19]
           .skip)))
       (.seq
        (.region false [] [⟨some 20, .mov (.t 4), none, [4]⟩, ⟨some 21, .fad 0 (.t 6), none, []⟩, ⟨some 22, .ld false 1 (.t 21), none, [21]⟩, ⟨some 23, .cvt .u8 (.t 22), none, [22]⟩, ⟨some 24, .bsl 5 1 [.t 23], none, [23]⟩, ⟨some 25, .app 5 1 1 (.t 20) (.t 24), none, [20, 24]⟩, ⟨some 4, .mov (.t 25), none, [25]⟩])
       (.seq
        (.region false [] [⟨some 26, .fad 0 (.t 6), none, []⟩, ⟨some 27, .ld false 1 (.t 26), none, [26]⟩])
       (.block 2
        (.seq
         (.region false [] [⟨some 29, .bin false .eql (.t 27) (.c (.int .i64 1)), none, []⟩, ⟨some 28, .mov (.t 29), none, [29]⟩])
        (.cond (.t 28)
          (.drop [27, 28]
           (.region false [] [⟨some 30, .mov (.t 4), none, [4]⟩, ⟨some 31, .fad 1 (.t 6), none, [6]⟩, ⟨some 32, .ld false 1 (.t 31), none, [31]⟩, ⟨some 33, .call 101 [.t 30, .t 32], none, [30, 32]⟩, ⟨some 4, .mov (.t 33), none, [33]⟩]))
          (.drop [28]
           (.seq
            (.region false [] [⟨some 35, .bin false .eql (.t 27) (.c (.int .i64 2)), none, []⟩, ⟨some 34, .mov (.t 35), none, [35]⟩])
           (.cond (.t 34)
             (.drop [27, 34]
              (.draws (.tak 0 ⟨some 36, .mov (.t 4), none, []⟩ (.tak 1 ⟨some 37, .fad 2 (.t 6), none, []⟩ (.tak 2 ⟨some 38, .ld false 1 (.t 37), none, []⟩ (.tak 3 ⟨some 39, .len true (.t 38), none, []⟩ (.tak 4 ⟨some 40, .cvt .u64 (.t 39), none, []⟩ (.tak 6 ⟨some 42, .fad 2 (.t 6), none, []⟩ (.tak 7 ⟨some 43, .ld false 1 (.t 42), none, []⟩ (.alt 5 ⟨some 41, .call 101 [.t 36, .t 40], none, []⟩ (.alt 8 ⟨some 44, .aps 5 (.t 41) (.t 43), none, []⟩ (.tak 9 ⟨some 4, .mov (.t 44), none, []⟩ .done) .stop) .stop)))))))) [[], [], [1], [2], [3], [0, 4], [], [6], [5, 7, 5], [8, 8, 0, 1, 2, 3, 4, 5, 6, 7, 8]] [⟨some 36, .mov (.t 4), none, []⟩, ⟨some 37, .fad 2 (.t 6), none, []⟩, ⟨some 38, .ld false 1 (.t 37), none, []⟩, ⟨some 39, .len true (.t 38), none, []⟩, ⟨some 40, .cvt .u64 (.t 39), none, []⟩, ⟨some 41, .call 101 [.t 36, .t 40], none, []⟩, ⟨some 42, .fad 2 (.t 6), none, []⟩, ⟨some 43, .ld false 1 (.t 42), none, []⟩, ⟨some 44, .aps 5 (.t 41) (.t 43), none, []⟩, ⟨some 4, .mov (.t 44), none, []⟩]))
             (.drop [34]
              (.seq
               (.region false [] [⟨some 46, .bin false .eql (.t 27) (.c (.int .i64 3)), none, [27]⟩, ⟨some 45, .mov (.t 46), none, [46]⟩])
              (.cond (.t 45)
                (.drop [45]
                 (.region false [] [⟨some 47, .mov (.t 4), none, [4]⟩, ⟨some 48, .fad 3 (.t 6), none, [6]⟩, ⟨some 49, .ld false 1 (.t 48), none, [48]⟩, ⟨some 50, .call 103 [.t 49], none, [49]⟩, ⟨some 51, .call 102 [.t 47, .t 50, .c (.int .i64 8)], none, [47, 50]⟩, ⟨some 4, .mov (.t 51), none, [51]⟩]))
                (.drop [6, 45]
                 .skip))))))))))))))))
    (.region false [] [⟨some 52, .bin false .add (.t 13) (.c (.int .i64 1)), none, [13]⟩, ⟨some 13, .mov (.t 52), none, [52]⟩])))))))
 (.seq
  (.seq
   (.region false [] [⟨some 53, .mov (.t 0), none, [0]⟩, ⟨some 54, .len false (.t 53), none, [53]⟩, ⟨some 55, .bin false .gtr (.t 54) (.c (.int .i64 200)), none, [54]⟩, ⟨some 56, .mov (.t 55), none, [55]⟩, ⟨some 57, .mov (.t 4), some (56, false), []⟩, ⟨some 58, .len false (.t 57), some (56, false), [57]⟩, ⟨some 59, .bin false .gtr (.t 58) (.c (.int .i64 8000)), some (56, false), [58]⟩, ⟨some 60, .pick (.t 56) (.c (.bool true)) (.t 59), none, [56, 59]⟩])
  (.cond (.t 60)
    (.drop [4, 60]
     (.seq
      (.region false [] [⟨some 2, .mov (.c (.slice none 0 0)), none, []⟩, ⟨some 3, .mov (.c (.int .i64 3)), none, []⟩])
     .ret))
    (.drop [60]
     .skip)))
 (.seq
  (.region false [] [⟨some 61, .mov (.t 4), none, [4]⟩, ⟨some 2, .mov (.t 61), none, [61]⟩, ⟨some 3, .mov (.c (.int .i64 0)), none, []⟩])
 .ret)))))
def rs_78 : List ARes := [.tmp 2, .tmp 3]
theorem g_78 : Good Tryz.prog 78 ac_78 rs_78 := ⟨Tryz.f78, Tryz.f78.body.getD .skip, by kernel_rfl, by kernel_rfl, by kernel_rfl, ⟨by kernel_rfl, by kernel_rfl⟩, by kernel_rfl, by kernel_rfl⟩
theorem ok_78 {Γ : Env} (hΓ : EnvOk Tryz.prog Γ) (sp : Spec) (h : WB Γ ac_78 rs_78 sp) : CallOk Tryz.prog 78 sp := g_78.ok hΓ mix_ok sp h

/-- chantry/chantryref09.May -/
def ac_79 : ACode :=
 (.seq
  (.region false [] [⟨some 1, .box (.t 0), none, [0]⟩, ⟨some 2, .mov (.c (.bool false)), none, []⟩])
 (.seal_ 1
  (.seq
   (.seq
    (.region false [] [⟨some 3, .mov (.c (.int .i64 0)), none, []⟩])
   (.block 0
    (.loop [1, 3]
     (.seq
      (.seq
       (.region false [] [⟨some 4, .mov (.t 3), none, []⟩, ⟨some 5, .bin false .lss (.t 4) (.c (.int .i64 16)), none, [4]⟩])
      (.cond (.t 5)
        (.drop [5]
         .skip)
        (.drop [3, 5]
         (.exit 0))))
     (.seq
      (.block 1
       (.seq
        (.region false [] [⟨some 8, .mov (.t 3), none, []⟩, ⟨some 9, .fad 1 (.t 1), none, []⟩, ⟨some 10, .iaa 16 1 (.t 9) (.t 8), none, [8, 9]⟩, ⟨some 11, .ld false 1 (.t 10), none, [10]⟩, ⟨some 12, .bin false .gtr (.t 11) (.c (.int .u16 1000)), none, [11]⟩])
       (.cond (.t 12)
         (.drop [1, 3, 12]
          (.seq
           (.region false [] [⟨some 2, .mov (.c (.bool false)), none, []⟩])
          .ret))
         (.drop [12]
          .skip))))
     (.region false [] [⟨some 6, .mov (.t 3), none, [3]⟩, ⟨some 7, .bin false .add (.t 6) (.c (.int .i64 1)), none, [6]⟩, ⟨some 3, .mov (.t 7), none, [7]⟩]))))))
  (.seq
   (.region false [] [⟨some 13, .fad 0 (.t 1), none, []⟩, ⟨some 14, .ld false 1 (.t 13), none, [13]⟩, ⟨some 15, .bin false .geq (.t 14) (.c (.int .i64 1)), none, [14]⟩, ⟨some 16, .mov (.t 15), none, [15]⟩, ⟨some 17, .fad 0 (.t 1), some (16, true), []⟩, ⟨some 18, .ld false 1 (.t 17), some (16, true), [17]⟩, ⟨some 19, .bin false .leq (.t 18) (.c (.int .i64 3)), some (16, true), [18]⟩, ⟨some 20, .pick (.t 16) (.t 19) (.c (.bool false)), none, [16, 19]⟩, ⟨some 21, .mov (.t 20), none, [20]⟩, ⟨some 22, .fad 17 (.t 1), some (21, true), [1]⟩, ⟨some 23, .ld false 1 (.t 22), some (21, true), [22]⟩, ⟨some 24, .len true (.t 23), some (21, true), [23]⟩, ⟨some 25, .bin false .leq (.t 24) (.c (.int .i64 400)), some (21, true), [24]⟩, ⟨some 26, .pick (.t 21) (.t 25) (.c (.bool false)), none, [21, 25]⟩, ⟨some 2, .mov (.t 26), none, [26]⟩])
  .ret))))
def rs_79 : List ARes := [.tmp 2]
theorem g_79 : Good Tryz.prog 79 ac_79 rs_79 := ⟨Tryz.f79, Tryz.f79.body.getD .skip, by kernel_rfl, by kernel_rfl, by kernel_rfl, ⟨by kernel_rfl, by kernel_rfl⟩, by kernel_rfl, by kernel_rfl⟩
theorem ok_79 {Γ : Env} (hΓ : EnvOk Tryz.prog Γ) (sp : Spec) (h : WB Γ ac_79 rs_79 sp) : CallOk Tryz.prog 79 sp := g_79.ok hΓ mix_ok sp h

/-- chantry/chantryref02.N -/
def ac_80 : ACode :=
 (.seq
  (.region false [] [⟨some 2, .alloc [.int .i64 0, .int .u64 0, .string ⟨#[]⟩, .int .u64 0], none, []⟩])
 (.seq
  (.region false [] [⟨some 3, .mov (.t 0), none, [0]⟩, ⟨some 4, .bld [.int .i64 0, .int .u64 0, .string ⟨#[]⟩, .int .u64 0] [(0, 1, .c (.int .i64 1)), (1, 1, .t 3)], none, [3]⟩, ⟨none, .st 4 (.t 2) (.t 4), none, [4]⟩])
 .ret))
def rs_80 : List ARes := [.cell 2 true 4]
theorem g_80 : Good Tryz.prog 80 ac_80 rs_80 := ⟨Tryz.f80, Tryz.f80.body.getD .skip, by kernel_rfl, by kernel_rfl, by kernel_rfl, ⟨by kernel_rfl, by kernel_rfl⟩, by kernel_rfl, by kernel_rfl⟩
theorem ok_80 {Γ : Env} (hΓ : EnvOk Tryz.prog Γ) (sp : Spec) (h : WB Γ ac_80 rs_80 sp) : CallOk Tryz.prog 80 sp := g_80.ok hΓ mix_ok sp h

/-- chantry/chantryref02.T -/
def ac_81 : ACode :=
 (.seq
  (.region false [] [⟨some 2, .alloc [.int .i64 0, .int .u64 0, .string ⟨#[]⟩, .int .u64 0], none, []⟩])
 (.seq
  (.region false [] [⟨some 3, .mov (.t 0), none, [0]⟩, ⟨some 4, .bld [.int .i64 0, .int .u64 0, .string ⟨#[]⟩, .int .u64 0] [(0, 1, .c (.int .i64 2)), (2, 1, .t 3)], none, [3]⟩, ⟨none, .st 4 (.t 2) (.t 4), none, [4]⟩])
 .ret))
def rs_81 : List ARes := [.cell 2 true 4]
theorem g_81 : Good Tryz.prog 81 ac_81 rs_81 := ⟨Tryz.f81, Tryz.f81.body.getD .skip, by kernel_rfl, by kernel_rfl, by kernel_rfl, ⟨by kernel_rfl, by kernel_rfl⟩, by kernel_rfl, by kernel_rfl⟩
theorem ok_81 {Γ : Env} (hΓ : EnvOk Tryz.prog Γ) (sp : Spec) (h : WB Γ ac_81 rs_81 sp) : CallOk Tryz.prog 81 sp := g_81.ok hΓ mix_ok sp h

/-- chantry/chantryref02.Encode -/
def ac_82 : ACode :=
 (.seq
  (.region false [] [⟨some 2, .mov (.c (.slice none 0 0)), none, []⟩, ⟨some 3, .mov (.c (.int .i64 0)), none, [2]⟩])
 (.seq
  (.seq
   (.region false [] [⟨some 4, .mov (.c (.int .i64 0)), none, []⟩])
  (.block 0
   (.loop [0, 4]
    (.seq
     (.seq
      (.region false [] [⟨some 6, .mov (.t 4), none, []⟩, ⟨some 7, .mov (.t 0), none, []⟩, ⟨some 8, .len false (.t 7), none, [7]⟩, ⟨some 9, .bin false .lss (.t 6) (.t 8), none, [6, 8]⟩])
     (.cond (.t 9)
       (.drop [9]
        .skip)
       (.drop [4, 9]
        (.exit 0))))
    (.seq
     (.block 1
      (.seq
       (.region false [] [⟨some 12, .mov (.t 0), none, []⟩, ⟨some 13, .mov (.t 4), none, []⟩, ⟨some 14, .iax 4 (.t 12) (.t 13), none, [12, 13]⟩, ⟨some 15, .ld true 4 (.t 14), none, [14]⟩, ⟨some 16, .call 104 [.t 15], none, [15]⟩, ⟨some 17, .un .not (.t 16), none, [16]⟩])
      (.cond (.t 17)
        (.drop [0, 4, 17]
         (.seq
          (.region false [] [⟨some 2, .mov (.c (.slice none 0 0)), none, []⟩, ⟨some 3, .mov (.c (.int .i64 2)), none, []⟩])
         .ret))
        (.drop [17]
         .skip))))
    (.region false [] [⟨some 10, .mov (.t 4), none, [4]⟩, ⟨some 11, .bin false .add (.t 10) (.c (.int .i64 1)), none, [10]⟩, ⟨some 4, .mov (.t 11), none, [11]⟩]))))))
 (.seq
  (.seq
   (.region false [] [⟨some 18, .mov (.t 0), none, []⟩, ⟨some 19, .len false (.t 18), none, [18]⟩, ⟨some 20, .bin false .gtr (.t 19) (.c (.int .i64 200)), none, [19]⟩])
  (.cond (.t 20)
    (.drop [0, 20]
     (.seq
      (.region false [] [⟨some 2, .mov (.c (.slice none 0 0)), none, []⟩, ⟨some 3, .mov (.c (.int .i64 3)), none, []⟩])
     .ret))
    (.drop [20]
     .skip)))
 (.seq
  (.region false [] [⟨some 21, .mov (.t 0), none, [0]⟩, ⟨some 22, .call 105 [.t 21], none, [21]⟩, ⟨some 5, .mov (.t 22), none, [22]⟩])
 (.seq
  (.seq
   (.region false [] [⟨some 23, .mov (.t 5), none, []⟩, ⟨some 24, .len false (.t 23), none, [23]⟩, ⟨some 25, .bin false .gtr (.t 24) (.c (.int .i64 8000)), none, [24]⟩])
  (.cond (.t 25)
    (.drop [5, 25]
     (.seq
      (.region false [] [⟨some 2, .mov (.c (.slice none 0 0)), none, []⟩, ⟨some 3, .mov (.c (.int .i64 3)), none, []⟩])
     .ret))
    (.drop [25]
     .skip)))
 (.seq
  (.region false [] [⟨some 26, .mov (.t 5), none, [5]⟩, ⟨some 2, .mov (.t 26), none, [26]⟩, ⟨some 3, .mov (.c (.int .i64 0)), none, []⟩])
 .ret))))))
def rs_82 : List ARes := [.tmp 2, .tmp 3]
theorem g_82 : Good Tryz.prog 82 ac_82 rs_82 := ⟨Tryz.f82, Tryz.f82.body.getD .skip, by kernel_rfl, by kernel_rfl, by kernel_rfl, ⟨by kernel_rfl, by kernel_rfl⟩, by kernel_rfl, by kernel_rfl⟩
theorem ok_82 {Γ : Env} (hΓ : EnvOk Tryz.prog Γ) (sp : Spec) (h : WB Γ ac_82 rs_82 sp) : CallOk Tryz.prog 82 sp := g_82.ok hΓ mix_ok sp h

/-- (chantry/pack.Field).may -/
def ac_100 : ACode :=
 (.seq
  (.region false [] [⟨some 1, .box (.t 0), none, [0]⟩, ⟨some 2, .mov (.c (.bool false)), none, []⟩])
 (.seal_ 1
  (.seq
   (.region false [] [⟨some 4, .fad 3 (.t 1), none, []⟩, ⟨some 5, .ld false 1 (.t 4), none, [4]⟩, ⟨some 6, .call 118 [.t 5], none, [5]⟩, ⟨some 3, .mov (.t 6), none, [6]⟩])
  (.seq
   (.seq
    (.region false [] [⟨some 7, .fad 0 (.t 1), none, []⟩, ⟨some 8, .ld false 1 (.t 7), none, [7]⟩])
   (.block 0
    (.seq
     (.region false [] [⟨some 10, .bin false .eql (.t 8) (.c (.int .i64 1)), none, []⟩, ⟨some 9, .mov (.t 10), none, [10]⟩])
    (.cond (.t 9)
      (.drop [8, 9]
       (.seq
        (.region false [] [⟨some 11, .fad 2 (.t 1), none, [1]⟩, ⟨some 12, .ld false 1 (.t 11), none, [11]⟩, ⟨some 13, .bin false .eql (.t 12) (.c (.string ⟨#[]⟩)), none, [12]⟩, ⟨some 14, .mov (.t 13), none, [13]⟩, ⟨some 15, .mov (.t 3), some (14, true), [3]⟩, ⟨some 16, .bin false .eql (.t 15) (.c (.int .u64 0)), some (14, true), [15]⟩, ⟨some 17, .pick (.t 14) (.t 16) (.c (.bool false)), none, [14, 16]⟩, ⟨some 2, .mov (.t 17), none, [17]⟩])
       .ret))
      (.drop [9]
       (.seq
        (.region false [] [⟨some 19, .bin false .eql (.t 8) (.c (.int .i64 2)), none, []⟩, ⟨some 18, .mov (.t 19), none, [19]⟩])
       (.cond (.t 18)
         (.drop [8, 18]
          (.seq
           (.region false [] [⟨some 20, .fad 1 (.t 1), none, []⟩, ⟨some 21, .ld false 1 (.t 20), none, [20]⟩, ⟨some 22, .bin false .eql (.t 21) (.c (.int .u64 0)), none, [21]⟩, ⟨some 23, .mov (.t 22), none, [22]⟩, ⟨some 24, .mov (.t 3), some (23, true), [3]⟩, ⟨some 25, .bin false .eql (.t 24) (.c (.int .u64 0)), some (23, true), [24]⟩, ⟨some 26, .pick (.t 23) (.t 25) (.c (.bool false)), none, [23, 25]⟩, ⟨some 27, .mov (.t 26), none, [26]⟩, ⟨some 28, .fad 2 (.t 1), some (27, true), [1]⟩, ⟨some 29, .ld false 1 (.t 28), some (27, true), [28]⟩, ⟨some 30, .len true (.t 29), some (27, true), [29]⟩, ⟨some 31, .bin false .leq (.t 30) (.c (.int .i64 2000)), some (27, true), [30]⟩, ⟨some 32, .pick (.t 27) (.t 31) (.c (.bool false)), none, [27, 31]⟩, ⟨some 2, .mov (.t 32), none, [32]⟩])
          .ret))
         (.drop [18]
          (.seq
           (.region false [] [⟨some 34, .bin false .eql (.t 8) (.c (.int .i64 3)), none, [8]⟩, ⟨some 33, .mov (.t 34), none, [34]⟩])
          (.cond (.t 33)
            (.drop [33]
             (.seq
              (.region false [] [⟨some 35, .fad 1 (.t 1), none, []⟩, ⟨some 36, .ld false 1 (.t 35), none, [35]⟩, ⟨some 37, .bin false .eql (.t 36) (.c (.int .u64 0)), none, [36]⟩, ⟨some 38, .mov (.t 37), none, [37]⟩, ⟨some 39, .fad 2 (.t 1), some (38, true), []⟩, ⟨some 40, .ld false 1 (.t 39), some (38, true), [39]⟩, ⟨some 41, .bin false .eql (.t 40) (.c (.string ⟨#[]⟩)), some (38, true), [40]⟩, ⟨some 42, .pick (.t 38) (.t 41) (.c (.bool false)), none, [38, 41]⟩, ⟨some 43, .mov (.t 42), none, [42]⟩, ⟨some 44, .fad 3 (.t 1), some (43, true), [1]⟩, ⟨some 45, .ld false 1 (.t 44), some (43, true), [44]⟩, ⟨some 46, .call 119 [.t 45], some (43, true), [45]⟩, ⟨some 47, .call 118 [.t 46], some (43, true), [46]⟩, ⟨some 48, .mov (.t 3), some (43, true), [3]⟩, ⟨some 49, .bin false .eql (.t 47) (.t 48), some (43, true), [47, 48]⟩, ⟨some 50, .pick (.t 43) (.t 49) (.c (.bool false)), none, [43, 49]⟩, ⟨some 2, .mov (.t 50), none, [50]⟩])
             .ret))
            (.drop [1, 3, 33]
             .skip)))))))))))
  (.seq
   (.region false [] [⟨some 2, .mov (.c (.bool false)), none, []⟩])
  .ret)))))
def rs_100 : List ARes := [.tmp 2]
theorem g_100 : Good Tryz.prog 100 ac_100 rs_100 := ⟨Tryz.f100, Tryz.f100.body.getD .skip, by kernel_rfl, by kernel_rfl, by kernel_rfl, ⟨by kernel_rfl, by kernel_rfl⟩, by kernel_rfl, by kernel_rfl⟩
theorem ok_100 {Γ : Env} (hΓ : EnvOk Tryz.prog Γ) (sp : Spec) (h : WB Γ ac_100 rs_100 sp) : CallOk Tryz.prog 100 sp := g_100.ok hΓ mix_ok sp h

/-- chantry/pack.number -/
def ac_101 : ACode :=
 (.seq
  (.region false [] [⟨some 4, .mov (.c (.slice none 0 0)), none, []⟩])
 (.seq
  (.region false [] [⟨some 6, .mov (.t 1), none, []⟩, ⟨some 7, .call 120 [.t 6], none, [6]⟩, ⟨some 8, .bin false .add (.t 7) (.c (.int .i64 7)), none, [7]⟩, ⟨some 9, .bin false .quo (.t 8) (.c (.int .i64 8)), none, [8]⟩, ⟨some 5, .mov (.t 9), none, [9]⟩])
 (.seq
  (.region false [] [⟨some 10, .mov (.t 0), none, [0]⟩, ⟨some 11, .mov (.t 5), none, []⟩, ⟨some 12, .cvt .u8 (.t 11), none, [11]⟩, ⟨some 13, .bsl 5 1 [.t 12], none, [12]⟩, ⟨some 14, .app 5 1 1 (.t 10) (.t 13), none, [10, 13]⟩, ⟨some 15, .mov (.t 1), none, [1]⟩, ⟨some 16, .mov (.t 5), none, [5]⟩, ⟨some 17, .call 102 [.t 14, .t 15, .t 16], none, [14, 15, 16]⟩, ⟨some 4, .mov (.t 17), none, [17]⟩])
 .ret)))
def rs_101 : List ARes := [.tmp 4]
theorem g_101 : Good Tryz.prog 101 ac_101 rs_101 := ⟨Tryz.f101, Tryz.f101.body.getD .skip, by kernel_rfl, by kernel_rfl, by kernel_rfl, ⟨by kernel_rfl, by kernel_rfl⟩, by kernel_rfl, by kernel_rfl⟩
theorem ok_101 {Γ : Env} (hΓ : EnvOk Tryz.prog Γ) (sp : Spec) (h : WB Γ ac_101 rs_101 sp) : CallOk Tryz.prog 101 sp := g_101.ok hΓ mix_ok sp h

/-- chantry/pack.low -/
def ac_102 : ACode :=
 (.seq
  (.region false [] [⟨some 6, .mov (.c (.slice none 0 0)), none, []⟩])
 (.seq
  (.seq
   (.region false [] [⟨some 7, .mov (.t 2), none, [2]⟩, ⟨some 8, .mov (.c (.int .i64 0)), none, []⟩])
  (.block 0
   (.loop [0, 1, 7, 8]
    (.seq
     (.region false [] [⟨some 9, .bin false .lss (.t 8) (.t 7), none, []⟩])
    (.seq
     (.cond (.t 9)
       (.drop [9]
        .skip)
       (.drop [1, 7, 8, 9]
        (.exit 0)))
    (.seq
     (.block 1
      (.seq
       (.region false [] [⟨some 10, .mov (.t 0), none, [0]⟩, ⟨some 11, .mov (.t 1), none, []⟩, ⟨some 12, .cvt .u8 (.t 11), none, [11]⟩, ⟨some 13, .bsl 5 1 [.t 12], none, [12]⟩, ⟨some 14, .app 5 1 1 (.t 10) (.t 13), none, [10, 13]⟩, ⟨some 0, .mov (.t 14), none, [14]⟩])
      (.region false [] [⟨some 15, .mov (.t 1), none, [1]⟩, ⟨some 16, .bin false .shr (.t 15) (.c (.int .u64 8)), none, [15]⟩, ⟨some 1, .mov (.t 16), none, [16]⟩])))
    (.region false [] [⟨some 17, .bin false .add (.t 8) (.c (.int .i64 1)), none, [8]⟩, ⟨some 8, .mov (.t 17), none, [17]⟩])))))))
 (.seq
  (.region false [] [⟨some 18, .mov (.t 0), none, [0]⟩, ⟨some 6, .mov (.t 18), none, [18]⟩])
 .ret)))
def rs_102 : List ARes := [.tmp 6]
theorem g_102 : Good Tryz.prog 102 ac_102 rs_102 := ⟨Tryz.f102, Tryz.f102.body.getD .skip, by kernel_rfl, by kernel_rfl, by kernel_rfl, ⟨by kernel_rfl, by kernel_rfl⟩, by kernel_rfl, by kernel_rfl⟩
theorem ok_102 {Γ : Env} (hΓ : EnvOk Tryz.prog Γ) (sp : Spec) (h : WB Γ ac_102 rs_102 sp) : CallOk Tryz.prog 102 sp := g_102.ok hΓ mix_ok sp h

/-- chantry/real.Code -/
def ac_103 : ACode :=
 (.seq
  (.region false [] [⟨some 2, .mov (.c (.int .u64 0)), none, []⟩])
 (.seq
  (.region false [] [⟨some 4, .mov (.t 0), none, [0]⟩, ⟨some 5, .call 119 [.t 4], none, [4]⟩, ⟨some 6, .call 118 [.t 5], none, [5]⟩, ⟨some 3, .mov (.t 6), none, [6]⟩])
 (.seq
  (.seq
   (.region false [] [⟨some 7, .mov (.t 3), none, []⟩, ⟨some 8, .bin false .and (.t 7) (.c (.int .u64 9223372036854775808)), none, [7]⟩, ⟨some 9, .bin false .neq (.t 8) (.c (.int .u64 0)), none, [8]⟩])
  (.cond (.t 9)
    (.drop [9]
     (.seq
      (.region false [] [⟨some 10, .mov (.t 3), none, [3]⟩, ⟨some 11, .un .xor (.t 10), none, [10]⟩, ⟨some 2, .mov (.t 11), none, [11]⟩])
     .ret))
    (.drop [9]
     .skip)))
 (.seq
  (.region false [] [⟨some 12, .mov (.t 3), none, [3]⟩, ⟨some 13, .bin false .or (.t 12) (.c (.int .u64 9223372036854775808)), none, [12]⟩, ⟨some 2, .mov (.t 13), none, [13]⟩])
 .ret))))
def rs_103 : List ARes := [.tmp 2]
theorem g_103 : Good Tryz.prog 103 ac_103 rs_103 := ⟨Tryz.f103, Tryz.f103.body.getD .skip, by kernel_rfl, by kernel_rfl, by kernel_rfl, ⟨by kernel_rfl, by kernel_rfl⟩, by kernel_rfl, by kernel_rfl⟩
theorem ok_103 {Γ : Env} (hΓ : EnvOk Tryz.prog Γ) (sp : Spec) (h : WB Γ ac_103 rs_103 sp) : CallOk Tryz.prog 103 sp := g_103.ok hΓ mix_ok sp h

/-- chantry/chantryref02.May -/
def ac_104 : ACode :=
 (.seq
  (.region false [] [⟨some 1, .box (.t 0), none, [0]⟩, ⟨some 2, .mov (.c (.bool false)), none, []⟩])
 (.seal_ 1
  (.seq
   (.seq
    (.region false [] [⟨some 3, .fad 0 (.t 1), none, []⟩, ⟨some 4, .ld false 1 (.t 3), none, [3]⟩])
   (.block 0
    (.seq
     (.region false [] [⟨some 6, .bin false .eql (.t 4) (.c (.int .i64 1)), none, []⟩, ⟨some 5, .mov (.t 6), none, [6]⟩])
    (.cond (.t 5)
      (.drop [4, 5]
       (.seq
        (.region false [] [⟨some 7, .fad 2 (.t 1), none, []⟩, ⟨some 8, .ld false 1 (.t 7), none, [7]⟩, ⟨some 9, .bin false .eql (.t 8) (.c (.string ⟨#[]⟩)), none, [8]⟩, ⟨some 10, .mov (.t 9), none, [9]⟩, ⟨some 11, .fad 3 (.t 1), some (10, true), [1]⟩, ⟨some 12, .ld false 1 (.t 11), some (10, true), [11]⟩, ⟨some 13, .bin false .eql (.t 12) (.c (.int .u64 0)), some (10, true), [12]⟩, ⟨some 14, .pick (.t 10) (.t 13) (.c (.bool false)), none, [10, 13]⟩, ⟨some 2, .mov (.t 14), none, [14]⟩])
       .ret))
      (.drop [5]
       (.seq
        (.region false [] [⟨some 16, .bin false .eql (.t 4) (.c (.int .i64 2)), none, []⟩, ⟨some 15, .mov (.t 16), none, [16]⟩])
       (.cond (.t 15)
         (.drop [4, 15]
          (.seq
           (.region false [] [⟨some 17, .fad 1 (.t 1), none, []⟩, ⟨some 18, .ld false 1 (.t 17), none, [17]⟩, ⟨some 19, .bin false .eql (.t 18) (.c (.int .u64 0)), none, [18]⟩, ⟨some 20, .mov (.t 19), none, [19]⟩, ⟨some 21, .fad 3 (.t 1), some (20, true), []⟩, ⟨some 22, .ld false 1 (.t 21), some (20, true), [21]⟩, ⟨some 23, .bin false .eql (.t 22) (.c (.int .u64 0)), some (20, true), [22]⟩, ⟨some 24, .pick (.t 20) (.t 23) (.c (.bool false)), none, [20, 23]⟩, ⟨some 25, .mov (.t 24), none, [24]⟩, ⟨some 26, .fad 2 (.t 1), some (25, true), [1]⟩, ⟨some 27, .ld false 1 (.t 26), some (25, true), [26]⟩, ⟨some 28, .len true (.t 27), some (25, true), [27]⟩, ⟨some 29, .bin false .leq (.t 28) (.c (.int .i64 2000)), some (25, true), [28]⟩, ⟨some 30, .pick (.t 25) (.t 29) (.c (.bool false)), none, [25, 29]⟩, ⟨some 2, .mov (.t 30), none, [30]⟩])
          .ret))
         (.drop [15]
          (.seq
           (.region false [] [⟨some 32, .bin false .eql (.t 4) (.c (.int .i64 3)), none, [4]⟩, ⟨some 31, .mov (.t 32), none, [32]⟩])
          (.cond (.t 31)
            (.drop [31]
             (.seq
              (.draws (.tak 0 ⟨some 33, .fad 1 (.t 1), none, []⟩ (.tak 1 ⟨some 34, .ld false 1 (.t 33), none, []⟩ (.tak 2 ⟨some 35, .bin false .eql (.t 34) (.c (.int .u64 0)), none, []⟩ (.tak 3 ⟨some 36, .mov (.t 35), none, []⟩ (.tak 4 ⟨some 37, .fad 2 (.t 1), some (36, true), []⟩ (.tak 5 ⟨some 38, .ld false 1 (.t 37), some (36, true), []⟩ (.tak 6 ⟨some 39, .bin false .eql (.t 38) (.c (.string ⟨#[]⟩)), some (36, true), []⟩ (.tak 7 ⟨some 40, .pick (.t 36) (.t 39) (.c (.bool false)), none, []⟩ (.tak 8 ⟨some 41, .mov (.t 40), none, []⟩ (.tak 9 ⟨some 42, .fad 3 (.t 1), some (41, true), []⟩ (.tak 10 ⟨some 43, .ld false 1 (.t 42), some (41, true), []⟩ (.tak 12 ⟨some 45, .fad 3 (.t 1), some (41, true), []⟩ (.tak 13 ⟨some 46, .ld false 1 (.t 45), some (41, true), []⟩ (.alt 11 ⟨some 44, .call 121 [.t 43], some (41, true), []⟩ (.tak 14 ⟨some 47, .bin false .eql (.t 44) (.t 46), some (41, true), []⟩ (.tak 15 ⟨some 48, .pick (.t 41) (.t 47) (.c (.bool false)), none, []⟩ (.tak 16 ⟨some 2, .mov (.t 48), none, []⟩ .done))) .stop)))))))))))))) [[], [0], [1], [2], [3], [4, 3], [5, 3], [3, 6], [7, 3], [8], [9, 8], [10, 8, 8], [8], [12, 8], [11, 13, 8], [8, 14], [15, 11, 0, 1, 2, 3, 4, 5, 6, 7, 8, 9, 10, 11, 12, 13, 14, 15]] [⟨some 33, .fad 1 (.t 1), none, []⟩, ⟨some 34, .ld false 1 (.t 33), none, []⟩, ⟨some 35, .bin false .eql (.t 34) (.c (.int .u64 0)), none, []⟩, ⟨some 36, .mov (.t 35), none, []⟩, ⟨some 37, .fad 2 (.t 1), some (36, true), []⟩, ⟨some 38, .ld false 1 (.t 37), some (36, true), []⟩, ⟨some 39, .bin false .eql (.t 38) (.c (.string ⟨#[]⟩)), some (36, true), []⟩, ⟨some 40, .pick (.t 36) (.t 39) (.c (.bool false)), none, []⟩, ⟨some 41, .mov (.t 40), none, []⟩, ⟨some 42, .fad 3 (.t 1), some (41, true), []⟩, ⟨some 43, .ld false 1 (.t 42), some (41, true), []⟩, ⟨some 44, .call 121 [.t 43], some (41, true), []⟩, ⟨some 45, .fad 3 (.t 1), some (41, true), []⟩, ⟨some 46, .ld false 1 (.t 45), some (41, true), []⟩, ⟨some 47, .bin false .eql (.t 44) (.t 46), some (41, true), []⟩, ⟨some 48, .pick (.t 41) (.t 47) (.c (.bool false)), none, []⟩, ⟨some 2, .mov (.t 48), none, []⟩])
             (.drop [1, 33, 34, 35, 36, 37, 38, 39, 40, 41, 42, 43, 44, 45, 46, 47, 48]
              .ret)))
            (.drop [1, 31]
             .skip)))))))))))
  (.seq
   (.region false [] [⟨some 2, .mov (.c (.bool false)), none, []⟩])
  .ret))))
def rs_104 : List ARes := [.tmp 2]
theorem g_104 : Good Tryz.prog 104 ac_104 rs_104 := ⟨Tryz.f104, Tryz.f104.body.getD .skip, by kernel_rfl, by kernel_rfl, by kernel_rfl, ⟨by kernel_rfl, by kernel_rfl⟩, by kernel_rfl, by kernel_rfl⟩
theorem ok_104 {Γ : Env} (hΓ : EnvOk Tryz.prog Γ) (sp : Spec) (h : WB Γ ac_104 rs_104 sp) : CallOk Tryz.prog 104 sp := g_104.ok hΓ mix_ok sp h

/-- chantry/chantryref02.all -/
def ac_105 : ACode :=
 (.seq
  (.region false [] [⟨some 2, .mov (.c (.slice none 0 0)), none, []⟩])
 (.seq
  (.region false [] [⟨some 5, .mov (.t 0), none, []⟩, ⟨some 6, .len false (.t 5), none, [5]⟩, ⟨some 7, .cvt .u8 (.t 6), none, [6]⟩, ⟨some 8, .bsl 5 1 [.t 7], none, [7]⟩, ⟨some 3, .mov (.t 8), none, [8]⟩])
 (.seq
  (.seq
   (.region false [] [⟨some 4, .mov (.c (.int .i64 0)), none, []⟩])
  (.block 0
   (.loop [0, 3, 4]
    (.seq
     (.seq
      (.region false [] [⟨some 9, .mov (.t 4), none, []⟩, ⟨some 10, .mov (.t 0), none, []⟩, ⟨some 11, .len false (.t 10), none, [10]⟩, ⟨some 12, .bin false .lss (.t 9) (.t 11), none, [9, 11]⟩])
     (.cond (.t 12)
       (.drop [12]
        .skip)
       (.drop [0, 4, 12]
        (.exit 0))))
    (.seq
     (.block 1
      (.region false [] [⟨some 15, .mov (.t 3), none, [3]⟩, ⟨some 16, .mov (.t 0), none, []⟩, ⟨some 17, .mov (.t 4), none, []⟩, ⟨some 18, .iax 4 (.t 16) (.t 17), none, [16, 17]⟩, ⟨some 19, .ld true 4 (.t 18), none, [18]⟩, ⟨some 20, .call 122 [.t 19], none, [19]⟩, ⟨some 21, .app 5 1 1 (.t 15) (.t 20), none, [15, 20]⟩, ⟨some 3, .mov (.t 21), none, [21]⟩]))
    (.region false [] [⟨some 13, .mov (.t 4), none, [4]⟩, ⟨some 14, .bin false .add (.t 13) (.c (.int .i64 1)), none, [13]⟩, ⟨some 4, .mov (.t 14), none, [14]⟩]))))))
 (.seq
  (.region false [] [⟨some 22, .mov (.t 3), none, [3]⟩, ⟨some 2, .mov (.t 22), none, [22]⟩])
 .ret))))
def rs_105 : List ARes := [.tmp 2]
theorem g_105 : Good Tryz.prog 105 ac_105 rs_105 := ⟨Tryz.f105, Tryz.f105.body.getD .skip, by kernel_rfl, by kernel_rfl, by kernel_rfl, ⟨by kernel_rfl, by kernel_rfl⟩, by kernel_rfl, by kernel_rfl⟩
theorem ok_105 {Γ : Env} (hΓ : EnvOk Tryz.prog Γ) (sp : Spec) (h : WB Γ ac_105 rs_105 sp) : CallOk Tryz.prog 105 sp := g_105.ok hΓ mix_ok sp h

/-- chantry/real.Canon -/
def ac_119 : ACode :=
 (.seq
  (.region false [] [⟨some 2, .mov (.c (.float .f64 0)), none, []⟩])
 (.seq
  (.block 0
   (.seq
    (.region false [] [⟨some 4, .mov (.t 0), none, []⟩, ⟨some 5, .mov (.t 0), none, []⟩, ⟨some 6, .bin false .neq (.t 4) (.t 5), none, [4, 5]⟩, ⟨some 3, .mov (.t 6), none, [6]⟩])
   (.cond (.t 3)
     (.drop [0, 3]
      (.seq
       (.region false [] [⟨some 7, .call 131 [.c (.int .u64 9221120237041090561)], none, []⟩, ⟨some 2, .mov (.t 7), none, [7]⟩])
      .ret))
     (.drop [3]
      (.seq
       (.region false [] [⟨some 9, .mov (.t 0), none, []⟩, ⟨some 10, .bin false .eql (.t 9) (.c (.float .f64 0)), none, [9]⟩, ⟨some 8, .mov (.t 10), none, [10]⟩])
      (.cond (.t 8)
        (.drop [0, 8]
         (.seq
          (.region false [] [⟨some 2, .mov (.c (.float .f64 0)), none, []⟩])
         .ret))
        (.drop [8]
         .skip)))))))
 (.seq
  (.region false [] [⟨some 11, .mov (.t 0), none, [0]⟩, ⟨some 2, .mov (.t 11), none, [11]⟩])
 .ret)))
def rs_119 : List ARes := [.tmp 2]
theorem g_119 : Good Tryz.prog 119 ac_119 rs_119 := ⟨Tryz.f119, Tryz.f119.body.getD .skip, by kernel_rfl, by kernel_rfl, by kernel_rfl, ⟨by kernel_rfl, by kernel_rfl⟩, by kernel_rfl, by kernel_rfl⟩
theorem ok_119 {Γ : Env} (hΓ : EnvOk Tryz.prog Γ) (sp : Spec) (h : WB Γ ac_119 rs_119 sp) : CallOk Tryz.prog 119 sp := g_119.ok hΓ mix_ok sp h

/-- math/bits.Len64 -/
def ac_120 : ACode :=
 (.seq
  (.region false [] [⟨some 2, .mov (.c (.int .i64 0)), none, []⟩])
 (.seq
  (.seq
   (.region false [] [⟨some 3, .mov (.t 0), none, []⟩, ⟨some 4, .bin false .geq (.t 3) (.c (.int .u64 4294967296)), none, [3]⟩])
  (.cond (.t 4)
    (.drop [2, 4]
     (.seq
      (.region false [] [⟨some 5, .mov (.t 0), none, [0]⟩, ⟨some 6, .bin false .shr (.t 5) (.c (.int .u64 32)), none, [5]⟩, ⟨some 0, .mov (.t 6), none, [6]⟩])
     (.region false [] [⟨some 2, .mov (.c (.int .i64 32)), none, []⟩])))
    (.drop [4]
     .skip)))
 (.seq
  (.seq
   (.region false [] [⟨some 7, .mov (.t 0), none, []⟩, ⟨some 8, .bin false .geq (.t 7) (.c (.int .u64 65536)), none, [7]⟩])
  (.cond (.t 8)
    (.drop [8]
     (.seq
      (.region false [] [⟨some 9, .mov (.t 0), none, [0]⟩, ⟨some 10, .bin false .shr (.t 9) (.c (.int .u64 16)), none, [9]⟩, ⟨some 0, .mov (.t 10), none, [10]⟩])
     (.region false [] [⟨some 11, .mov (.t 2), none, [2]⟩, ⟨some 12, .bin false .add (.t 11) (.c (.int .i64 16)), none, [11]⟩, ⟨some 2, .mov (.t 12), none, [12]⟩])))
    (.drop [8]
     .skip)))
 (.seq
  (.seq
   (.region false [] [⟨some 13, .mov (.t 0), none, []⟩, ⟨some 14, .bin false .geq (.t 13) (.c (.int .u64 256)), none, [13]⟩])
  (.cond (.t 14)
    (.drop [14]
     (.seq
      (.region false [] [⟨some 15, .mov (.t 0), none, [0]⟩, ⟨some 16, .bin false .shr (.t 15) (.c (.int .u64 8)), none, [15]⟩, ⟨some 0, .mov (.t 16), none, [16]⟩])
     (.region false [] [⟨some 17, .mov (.t 2), none, [2]⟩, ⟨some 18, .bin false .add (.t 17) (.c (.int .i64 8)), none, [17]⟩, ⟨some 2, .mov (.t 18), none, [18]⟩])))
    (.drop [14]
     .skip)))
 (.seq
  (.region false [] [⟨some 19, .mov (.t 2), none, [2]⟩, ⟨some 20, .mov (.t 0), none, [0]⟩, ⟨some 21, .cvt .u8 (.t 20), none, [20]⟩, ⟨some 22, .ixs (.c (.string bytes_d46a035e)) (.t 21), none, [21]⟩, ⟨some 23, .cvt .i64 (.t 22), none, [22]⟩, ⟨some 24, .bin false .add (.t 19) (.t 23), none, [19, 23]⟩, ⟨some 2, .mov (.t 24), none, [24]⟩])
 .ret)))))
def rs_120 : List ARes := [.tmp 2]
theorem g_120 : Good Tryz.prog 120 ac_120 rs_120 := ⟨Tryz.f120, Tryz.f120.body.getD .skip, by kernel_rfl, by kernel_rfl, by kernel_rfl, ⟨by kernel_rfl, by kernel_rfl⟩, by kernel_rfl, by kernel_rfl⟩
theorem ok_120 {Γ : Env} (hΓ : EnvOk Tryz.prog Γ) (sp : Spec) (h : WB Γ ac_120 rs_120 sp) : CallOk Tryz.prog 120 sp := g_120.ok hΓ mix_ok sp h

/-- chantry/chantryref01.Canon -/
def ac_121 : ACode :=
 (.seq
  (.region false [] [⟨some 2, .mov (.c (.int .u64 0)), none, []⟩])
 (.seq
  (.block 0
   (.seq
    (.region false [] [⟨some 4, .mov (.t 0), none, []⟩, ⟨some 5, .bin false .eql (.t 4) (.c (.int .u64 9223372036854775808)), none, [4]⟩, ⟨some 3, .mov (.t 5), none, [5]⟩])
   (.cond (.t 3)
     (.drop [0, 3]
      (.seq
       (.region false [] [⟨some 2, .mov (.c (.int .u64 0)), none, []⟩])
      .ret))
     (.drop [3]
      (.seq
       (.region false [] [⟨some 7, .mov (.t 0), none, []⟩, ⟨some 8, .bin false .rem (.t 7) (.c (.int .u64 9223372036854775808)), none, [7]⟩, ⟨some 9, .bin false .gtr (.t 8) (.c (.int .u64 9218868437227405312)), none, [8]⟩, ⟨some 6, .mov (.t 9), none, [9]⟩])
      (.cond (.t 6)
        (.drop [0, 6]
         (.seq
          (.region false [] [⟨some 2, .mov (.c (.int .u64 9221120237041090561)), none, []⟩])
         .ret))
        (.drop [6]
         .skip)))))))
 (.seq
  (.region false [] [⟨some 10, .mov (.t 0), none, [0]⟩, ⟨some 2, .mov (.t 10), none, [10]⟩])
 .ret)))
def rs_121 : List ARes := [.tmp 2]
theorem g_121 : Good Tryz.prog 121 ac_121 rs_121 := ⟨Tryz.f121, Tryz.f121.body.getD .skip, by kernel_rfl, by kernel_rfl, by kernel_rfl, ⟨by kernel_rfl, by kernel_rfl⟩, by kernel_rfl, by kernel_rfl⟩
theorem ok_121 {Γ : Env} (hΓ : EnvOk Tryz.prog Γ) (sp : Spec) (h : WB Γ ac_121 rs_121 sp) : CallOk Tryz.prog 121 sp := g_121.ok hΓ mix_ok sp h

/-- chantry/chantryref02.bytes -/
def ac_122 : ACode :=
 (.seq
  (.region false [] [⟨some 1, .box (.t 0), none, [0]⟩, ⟨some 2, .mov (.c (.slice none 0 0)), none, []⟩])
 (.seal_ 1
  (.seq
   (.region false [] [⟨some 4, .fad 0 (.t 1), none, []⟩, ⟨some 5, .ld false 1 (.t 4), none, [4]⟩, ⟨some 6, .cvt .u8 (.t 5), none, [5]⟩, ⟨some 7, .bsl 5 1 [.t 6], none, [6]⟩, ⟨some 3, .mov (.t 7), none, [7]⟩])
  (.seq
   (.seq
    (.region false [] [⟨some 8, .fad 0 (.t 1), none, []⟩, ⟨some 9, .ld false 1 (.t 8), none, [8]⟩])
   (.block 0
    (.seq
     (.region false [] [⟨some 11, .bin false .eql (.t 9) (.c (.int .i64 1)), none, []⟩, ⟨some 10, .mov (.t 11), none, [11]⟩])
    (.cond (.t 10)
      (.drop [9, 10]
       (.seq
        (.region false [] [⟨some 12, .mov (.t 3), none, [3]⟩, ⟨some 13, .fad 1 (.t 1), none, [1]⟩, ⟨some 14, .ld false 1 (.t 13), none, [13]⟩, ⟨some 15, .call 132 [.t 14], none, [14]⟩, ⟨some 16, .app 5 1 1 (.t 12) (.t 15), none, [12, 15]⟩, ⟨some 2, .mov (.t 16), none, [16]⟩])
       .ret))
      (.drop [10]
       (.seq
        (.region false [] [⟨some 18, .bin false .eql (.t 9) (.c (.int .i64 2)), none, [9]⟩, ⟨some 17, .mov (.t 18), none, [18]⟩])
       (.cond (.t 17)
         (.drop [17]
          (.seq
           (.region false [] [⟨some 19, .mov (.t 3), none, [3]⟩, ⟨some 20, .fad 2 (.t 1), none, []⟩, ⟨some 21, .ld false 1 (.t 20), none, [20]⟩, ⟨some 22, .len true (.t 21), none, [21]⟩, ⟨some 23, .cvt .u64 (.t 22), none, [22]⟩, ⟨some 24, .call 132 [.t 23], none, [23]⟩, ⟨some 25, .app 5 1 1 (.t 19) (.t 24), none, [19, 24]⟩, ⟨some 3, .mov (.t 25), none, [25]⟩])
          (.seq
           (.region false [] [⟨some 26, .mov (.t 3), none, [3]⟩, ⟨some 27, .fad 2 (.t 1), none, [1]⟩, ⟨some 28, .ld false 1 (.t 27), none, [27]⟩, ⟨some 29, .s2b 5 (.t 28), none, [28]⟩, ⟨some 30, .app 5 1 1 (.t 26) (.t 29), none, [26, 29]⟩, ⟨some 2, .mov (.t 30), none, [30]⟩])
          .ret)))
         (.drop [17]
          .skip))))))))
  (.seq
   (.region false [] [⟨some 31, .mov (.t 3), none, [3]⟩, ⟨some 32, .fad 3 (.t 1), none, [1]⟩, ⟨some 33, .ld false 1 (.t 32), none, [32]⟩, ⟨some 34, .call 134 [.t 33], none, [33]⟩, ⟨some 35, .call 133 [.t 34, .c (.int .i64 8)], none, [34]⟩, ⟨some 36, .app 5 1 1 (.t 31) (.t 35), none, [31, 35]⟩, ⟨some 2, .mov (.t 36), none, [36]⟩])
  .ret)))))
def rs_122 : List ARes := [.tmp 2]
theorem g_122 : Good Tryz.prog 122 ac_122 rs_122 := ⟨Tryz.f122, Tryz.f122.body.getD .skip, by kernel_rfl, by kernel_rfl, by kernel_rfl, ⟨by kernel_rfl, by kernel_rfl⟩, by kernel_rfl, by kernel_rfl⟩
theorem ok_122 {Γ : Env} (hΓ : EnvOk Tryz.prog Γ) (sp : Spec) (h : WB Γ ac_122 rs_122 sp) : CallOk Tryz.prog 122 sp := g_122.ok hΓ mix_ok sp h

/-- chantry/chantryref02.number -/
def ac_132 : ACode :=
 (.seq
  (.region false [] [⟨some 2, .mov (.c (.slice none 0 0)), none, []⟩])
 (.seq
  (.region false [] [⟨some 3, .mov (.c (.int .i64 0)), none, []⟩])
 (.seq
  (.seq
   (.region false [] [⟨some 5, .mov (.t 0), none, []⟩, ⟨some 4, .mov (.t 5), none, [5]⟩])
  (.block 0
   (.loop [0, 3, 4]
    (.seq
     (.seq
      (.region false [] [⟨some 6, .mov (.t 4), none, []⟩, ⟨some 7, .bin false .gtr (.t 6) (.c (.int .u64 0)), none, [6]⟩])
     (.cond (.t 7)
       (.drop [7]
        .skip)
       (.drop [4, 7]
        (.exit 0))))
    (.seq
     (.block 1
      (.region false [] [⟨some 10, .mov (.t 3), none, [3]⟩, ⟨some 11, .bin false .add (.t 10) (.c (.int .i64 1)), none, [10]⟩, ⟨some 3, .mov (.t 11), none, [11]⟩]))
    (.region false [] [⟨some 8, .mov (.t 4), none, [4]⟩, ⟨some 9, .bin false .quo (.t 8) (.c (.int .u64 256)), none, [8]⟩, ⟨some 4, .mov (.t 9), none, [9]⟩]))))))
 (.seq
  (.region false [] [⟨some 12, .mov (.t 3), none, []⟩, ⟨some 13, .cvt .u8 (.t 12), none, [12]⟩, ⟨some 14, .bsl 5 1 [.t 13], none, [13]⟩, ⟨some 15, .mov (.t 0), none, [0]⟩, ⟨some 16, .mov (.t 3), none, [3]⟩, ⟨some 17, .call 133 [.t 15, .t 16], none, [15, 16]⟩, ⟨some 18, .app 5 1 1 (.t 14) (.t 17), none, [14, 17]⟩, ⟨some 2, .mov (.t 18), none, [18]⟩])
 .ret))))
def rs_132 : List ARes := [.tmp 2]
theorem g_132 : Good Tryz.prog 132 ac_132 rs_132 := ⟨Tryz.f132, Tryz.f132.body.getD .skip, by kernel_rfl, by kernel_rfl, by kernel_rfl, ⟨by kernel_rfl, by kernel_rfl⟩, by kernel_rfl, by kernel_rfl⟩
theorem ok_132 {Γ : Env} (hΓ : EnvOk Tryz.prog Γ) (sp : Spec) (h : WB Γ ac_132 rs_132 sp) : CallOk Tryz.prog 132 sp := g_132.ok hΓ mix_ok sp h

/-- chantry/chantryref02.low -/
def ac_133 : ACode :=
 (.seq
  (.region false [] [⟨some 4, .mov (.c (.slice none 0 0)), none, []⟩])
 (.seq
  (.region false [] [⟨some 5, .mov (.c (.slice none 0 0)), none, []⟩])
 (.seq
  (.seq
   (.region false [] [⟨some 6, .mov (.c (.int .i64 0)), none, []⟩])
  (.block 0
   (.loop [0, 1, 5, 6]
    (.seq
     (.seq
      (.region false [] [⟨some 7, .mov (.t 6), none, []⟩, ⟨some 8, .mov (.t 1), none, []⟩, ⟨some 9, .bin false .lss (.t 7) (.t 8), none, [7, 8]⟩])
     (.cond (.t 9)
       (.drop [9]
        .skip)
       (.drop [0, 1, 6, 9]
        (.exit 0))))
    (.seq
     (.block 1
      (.seq
       (.region false [] [⟨some 12, .mov (.t 5), none, [5]⟩, ⟨some 13, .mov (.t 0), none, []⟩, ⟨some 14, .bin false .rem (.t 13) (.c (.int .u64 256)), none, [13]⟩, ⟨some 15, .cvt .u8 (.t 14), none, [14]⟩, ⟨some 16, .bsl 5 1 [.t 15], none, [15]⟩, ⟨some 17, .app 5 1 1 (.t 12) (.t 16), none, [12, 16]⟩, ⟨some 5, .mov (.t 17), none, [17]⟩])
      (.region false [] [⟨some 18, .mov (.t 0), none, [0]⟩, ⟨some 19, .bin false .quo (.t 18) (.c (.int .u64 256)), none, [18]⟩, ⟨some 0, .mov (.t 19), none, [19]⟩])))
    (.region false [] [⟨some 10, .mov (.t 6), none, [6]⟩, ⟨some 11, .bin false .add (.t 10) (.c (.int .i64 1)), none, [10]⟩, ⟨some 6, .mov (.t 11), none, [11]⟩]))))))
 (.seq
  (.region false [] [⟨some 20, .mov (.t 5), none, [5]⟩, ⟨some 4, .mov (.t 20), none, [20]⟩])
 .ret))))
def rs_133 : List ARes := [.tmp 4]
theorem g_133 : Good Tryz.prog 133 ac_133 rs_133 := ⟨Tryz.f133, Tryz.f133.body.getD .skip, by kernel_rfl, by kernel_rfl, by kernel_rfl, ⟨by kernel_rfl, by kernel_rfl⟩, by kernel_rfl, by kernel_rfl⟩
theorem ok_133 {Γ : Env} (hΓ : EnvOk Tryz.prog Γ) (sp : Spec) (h : WB Γ ac_133 rs_133 sp) : CallOk Tryz.prog 133 sp := g_133.ok hΓ mix_ok sp h

/-- chantry/chantryref01.Code -/
def ac_134 : ACode :=
 (.seq
  (.region false [] [⟨some 2, .mov (.c (.int .u64 0)), none, []⟩])
 (.seq
  (.region false [] [⟨some 3, .mov (.t 0), none, [0]⟩, ⟨some 4, .call 121 [.t 3], none, [3]⟩, ⟨some 0, .mov (.t 4), none, [4]⟩])
 (.seq
  (.seq
   (.region false [] [⟨some 5, .mov (.t 0), none, []⟩, ⟨some 6, .bin false .geq (.t 5) (.c (.int .u64 9223372036854775808)), none, [5]⟩])
  (.cond (.t 6)
    (.drop [6]
     (.seq
      (.region false [] [⟨some 7, .mov (.t 0), none, [0]⟩, ⟨some 8, .bin false .sub (.c (.int .u64 18446744073709551615)) (.t 7), none, [7]⟩, ⟨some 2, .mov (.t 8), none, [8]⟩])
     .ret))
    (.drop [6]
     .skip)))
 (.seq
  (.region false [] [⟨some 9, .mov (.t 0), none, [0]⟩, ⟨some 10, .bin false .add (.t 9) (.c (.int .u64 9223372036854775808)), none, [9]⟩, ⟨some 2, .mov (.t 10), none, [10]⟩])
 .ret))))
def rs_134 : List ARes := [.tmp 2]
theorem g_134 : Good Tryz.prog 134 ac_134 rs_134 := ⟨Tryz.f134, Tryz.f134.body.getD .skip, by kernel_rfl, by kernel_rfl, by kernel_rfl, ⟨by kernel_rfl, by kernel_rfl⟩, by kernel_rfl, by kernel_rfl⟩
theorem ok_134 {Γ : Env} (hΓ : EnvOk Tryz.prog Γ) (sp : Spec) (h : WB Γ ac_134 rs_134 sp) : CallOk Tryz.prog 134 sp := g_134.ok hΓ mix_ok sp h

end Go.Proofs.YtajpaagbfmjacaaGreatDoor.Am
