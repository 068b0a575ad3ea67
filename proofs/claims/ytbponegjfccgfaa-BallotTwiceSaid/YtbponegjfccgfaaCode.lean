/-
  THE FUNCTIONS' ABSTRACT CODE, as Lean's own reduction of compCode printed it, with notes (genac.py); each is held against the translation by the kernel.
-/
import Derived.Test.YtbponegjfccgfaaProg
import Derived.Test.YtbponegjfccgfaaAmJ
namespace Go.Proofs.Ytbponegjfccgfaa.Am
set_option linter.unusedSimpArgs false
set_option linter.unusedVariables false
open Go Go.Proofs
set_option maxRecDepth 100000

theorem mix_ok : Try.prog.follows .mixedOrders = true := by kernel_rfl

def bytes_5967fadc : ByteArray := ⟨#[0, 1, 1, 2, 1, 2, 2, 3, 1, 2, 2, 3, 2, 3, 3, 4, 1, 2, 2, 3, 2, 3, 3, 4, 2, 3, 3, 4, 3, 4, 4, 5, 1, 2, 2, 3, 2, 3, 3, 4, 2, 3, 3, 4, 3, 4, 4, 5, 2, 3, 3, 4, 3, 4, 4, 5, 3, 4, 4, 5, 4, 5, 5, 6, 1, 2, 2, 3, 2, 3, 3, 4, 2, 3, 3, 4, 3, 4, 4, 5, 2, 3, 3, 4, 3, 4, 4, 5, 3, 4, 4, 5, 4, 5, 5, 6, 2, 3, 3, 4, 3, 4, 4, 5, 3, 4, 4, 5, 4, 5, 5, 6, 3, 4, 4, 5, 4, 5, 5, 6, 4, 5, 5, 6, 5, 6, 6, 7, 1, 2, 2, 3, 2, 3, 3, 4, 2, 3, 3, 4, 3, 4, 4, 5, 2, 3, 3, 4, 3, 4, 4, 5, 3, 4, 4, 5, 4, 5, 5, 6, 2, 3, 3, 4, 3, 4, 4, 5, 3, 4, 4, 5, 4, 5, 5, 6, 3, 4, 4, 5, 4, 5, 5, 6, 4, 5, 5, 6, 5, 6, 6, 7, 2, 3, 3, 4, 3, 4, 4, 5, 3, 4, 4, 5, 4, 5, 5, 6, 3, 4, 4, 5, 4, 5, 5, 6, 4, 5, 5, 6, 5, 6, 6, 7, 3, 4, 4, 5, 4, 5, 5, 6, 4, 5, 5, 6, 5, 6, 6, 7, 4, 5, 5, 6, 5, 6, 6, 7, 5, 6, 6, 7, 6, 7, 7, 8]⟩
/-- chantry/chantrylaw13.alive -/
def ac_13 : ACode :=
 (.seq
  (.region false [] [⟨some 0, .mov (.c (.bool false)), none, []⟩])
 (.seq
  (.region false [] [⟨some 12, .bld [.int .u16 0, .slice none 0 0] [(0, 1, .c (.int .u16 3))], none, []⟩, ⟨some 13, .bld [.int .u16 0, .int .u16 0, .int .u16 0, .int .u16 0, .int .u16 0, .int .u16 0, .int .u16 0, .int .u16 0, .int .u16 0, .int .u16 0, .int .u16 0, .int .u16 0, .int .u16 0, .int .u16 0, .int .u16 0, .int .u16 0] [(0, 1, .c (.int .u16 1)), (1, 1, .c (.int .u16 1))], none, []⟩, ⟨some 14, .bld [.int .u8 0, .int .u16 0, .int .u16 0, .int .u16 0, .int .u16 0, .int .u16 0, .int .u16 0, .int .u16 0, .int .u16 0, .int .u16 0, .int .u16 0, .int .u16 0, .int .u16 0, .int .u16 0, .int .u16 0, .int .u16 0, .int .u16 0] [(0, 1, .c (.int .u8 1)), (1, 16, .t 13)], none, [13]⟩, ⟨some 15, .call 14 [.t 12, .t 14], none, [12, 14]⟩, ⟨some 11, .mov (.t 15), none, [15]⟩, ⟨some 16, .ext 0 (.t 11), none, []⟩, ⟨some 17, .ext 1 (.t 11), none, [11]⟩, ⟨some 1, .alloc [.int .u16 0, .slice none 0 0], none, []⟩, ⟨none, .st 2 (.t 1) (.t 16), none, [16]⟩, ⟨some 2, .mov (.t 17), none, [17]⟩])
 (.seal_ 1
  (.seq
   (.region false [] [⟨some 19, .ld true 2 (.t 1), none, []⟩, ⟨some 20, .call 17 [.t 19], none, [19]⟩, ⟨some 18, .mov (.t 20), none, [20]⟩, ⟨some 21, .ext 0 (.t 18), none, []⟩, ⟨some 22, .ext 1 (.t 18), none, [18]⟩, ⟨some 3, .alloc [.int .u16 0, .int .u16 0, .int .u16 0, .int .u16 0, .int .u16 0, .int .u16 0, .int .u16 0, .int .u16 0, .int .u16 0, .int .u16 0, .int .u16 0, .int .u16 0, .int .u16 0, .int .u16 0, .int .u16 0, .int .u16 0], none, []⟩, ⟨none, .st 16 (.t 3) (.t 21), none, [3, 21]⟩, ⟨some 4, .mov (.t 22), none, [22]⟩])
  (.seal_ 3
   (.seq
    (.region false [] [⟨some 24, .ld true 2 (.t 1), none, [1]⟩, ⟨some 25, .bld [.int .u16 0, .int .u16 0, .int .u16 0, .int .u16 0, .int .u16 0, .int .u16 0, .int .u16 0, .int .u16 0, .int .u16 0, .int .u16 0, .int .u16 0, .int .u16 0, .int .u16 0, .int .u16 0, .int .u16 0, .int .u16 0] [(0, 1, .c (.int .u16 2)), (1, 1, .c (.int .u16 1))], none, []⟩, ⟨some 26, .bld [.int .u8 0, .int .u16 0, .int .u16 0, .int .u16 0, .int .u16 0, .int .u16 0, .int .u16 0, .int .u16 0, .int .u16 0, .int .u16 0, .int .u16 0, .int .u16 0, .int .u16 0, .int .u16 0, .int .u16 0, .int .u16 0, .int .u16 0] [(1, 16, .t 25)], none, [25]⟩, ⟨some 27, .call 14 [.t 24, .t 26], none, [24, 26]⟩, ⟨some 23, .mov (.t 27), none, [27]⟩, ⟨some 28, .ext 0 (.t 23), none, []⟩, ⟨some 29, .ext 1 (.t 23), none, [23]⟩, ⟨some 5, .alloc [.int .u16 0, .slice none 0 0], none, []⟩, ⟨none, .st 2 (.t 5) (.t 28), none, [28]⟩, ⟨some 6, .mov (.t 29), none, [29]⟩])
   (.seal_ 5
    (.seq
     (.region false [] [⟨some 31, .ld true 2 (.t 5), none, []⟩, ⟨some 32, .call 17 [.t 31], none, [31]⟩, ⟨some 30, .mov (.t 32), none, [32]⟩, ⟨some 33, .ext 0 (.t 30), none, []⟩, ⟨some 34, .ext 1 (.t 30), none, [30]⟩, ⟨some 7, .alloc [.int .u16 0, .int .u16 0, .int .u16 0, .int .u16 0, .int .u16 0, .int .u16 0, .int .u16 0, .int .u16 0, .int .u16 0, .int .u16 0, .int .u16 0, .int .u16 0, .int .u16 0, .int .u16 0, .int .u16 0, .int .u16 0], none, []⟩, ⟨none, .st 16 (.t 7) (.t 33), none, [33]⟩, ⟨some 8, .mov (.t 34), none, [34]⟩])
    (.seal_ 7
     (.seq
      (.region false [] [⟨some 36, .ld true 2 (.t 5), none, []⟩, ⟨some 37, .bld [.int .u8 0, .int .u16 0, .int .u16 0, .int .u16 0, .int .u16 0, .int .u16 0, .int .u16 0, .int .u16 0, .int .u16 0, .int .u16 0, .int .u16 0, .int .u16 0, .int .u16 0, .int .u16 0, .int .u16 0, .int .u16 0, .int .u16 0] [(0, 1, .c (.int .u8 1))], none, []⟩, ⟨some 38, .call 14 [.t 36, .t 37], none, [36, 37]⟩, ⟨some 35, .mov (.t 38), none, [38]⟩, ⟨some 39, .ext 0 (.t 35), none, []⟩, ⟨some 40, .ext 1 (.t 35), none, [35]⟩, ⟨some 9, .alloc [.int .u16 0, .slice none 0 0], none, []⟩, ⟨none, .st 2 (.t 9) (.t 39), none, [9, 39]⟩, ⟨some 10, .mov (.t 40), none, [40]⟩])
     (.seal_ 9
      (.seq
       (.region false [] [⟨some 41, .mov (.t 2), none, [2]⟩, ⟨some 42, .bin false .eql (.t 41) (.c (.int .i64 0)), none, [41]⟩, ⟨some 43, .mov (.t 42), none, [42]⟩, ⟨some 44, .mov (.t 4), some (43, true), [4]⟩, ⟨some 45, .un .not (.t 44), some (43, true), [44]⟩, ⟨some 46, .pick (.t 43) (.t 45) (.c (.bool false)), none, [43, 45]⟩, ⟨some 47, .mov (.t 46), none, [46]⟩, ⟨some 48, .mov (.t 6), some (47, true), [6]⟩, ⟨some 49, .bin false .eql (.t 48) (.c (.int .i64 0)), some (47, true), [48]⟩, ⟨some 50, .pick (.t 47) (.t 49) (.c (.bool false)), none, [47, 49]⟩, ⟨some 51, .mov (.t 50), none, [50]⟩, ⟨some 52, .mov (.t 8), some (51, true), [8]⟩, ⟨some 53, .pick (.t 51) (.t 52) (.c (.bool false)), none, [51, 52]⟩, ⟨some 54, .mov (.t 53), none, [53]⟩, ⟨some 55, .ld true 16 (.t 7), some (54, true), []⟩, ⟨some 56, .bld [.int .u16 0, .int .u16 0, .int .u16 0, .int .u16 0, .int .u16 0, .int .u16 0, .int .u16 0, .int .u16 0, .int .u16 0, .int .u16 0, .int .u16 0, .int .u16 0, .int .u16 0, .int .u16 0, .int .u16 0, .int .u16 0] [(0, 1, .c (.int .u16 3)), (1, 1, .c (.int .u16 2))], some (54, true), []⟩, ⟨some 57, .eqs false [.i, .i, .i, .i, .i, .i, .i, .i, .i, .i, .i, .i, .i, .i, .i, .i] (.t 55) (.t 56), some (54, true), [55, 56]⟩, ⟨some 58, .pick (.t 54) (.t 57) (.c (.bool false)), none, [54, 57]⟩, ⟨some 59, .mov (.t 58), none, [58]⟩, ⟨some 60, .ld true 2 (.t 5), some (59, true), []⟩, ⟨some 61, .ld true 16 (.t 7), some (59, true), [7]⟩, ⟨some 62, .call 21 [.t 60, .t 61], some (59, true), [60, 61]⟩, ⟨some 63, .pick (.t 59) (.t 62) (.c (.bool false)), none, [59, 62]⟩, ⟨some 64, .mov (.t 63), none, [63]⟩, ⟨some 65, .ld true 2 (.t 5), some (64, true), [5]⟩, ⟨some 66, .bld [.int .u16 0, .int .u16 0, .int .u16 0, .int .u16 0, .int .u16 0, .int .u16 0, .int .u16 0, .int .u16 0, .int .u16 0, .int .u16 0, .int .u16 0, .int .u16 0, .int .u16 0, .int .u16 0, .int .u16 0, .int .u16 0] [(0, 1, .c (.int .u16 3)), (1, 1, .c (.int .u16 3))], some (64, true), []⟩, ⟨some 67, .call 21 [.t 65, .t 66], some (64, true), [65, 66]⟩, ⟨some 68, .un .not (.t 67), some (64, true), [67]⟩, ⟨some 69, .pick (.t 64) (.t 68) (.c (.bool false)), none, [64, 68]⟩, ⟨some 70, .mov (.t 69), none, [69]⟩, ⟨some 71, .mov (.t 10), some (70, true), [10]⟩, ⟨some 72, .bin false .eql (.t 71) (.c (.int .i64 9)), some (70, true), [71]⟩, ⟨some 73, .pick (.t 70) (.t 72) (.c (.bool false)), none, [70, 72]⟩, ⟨some 0, .mov (.t 73), none, [73]⟩])
      .ret))))))))))))
def rs_13 : List ARes := [.tmp 0]
theorem g_13 : Good Try.prog 13 ac_13 rs_13 := ⟨Try.f13, Try.f13.body.getD .skip, by kernel_rfl, by kernel_rfl, by kernel_rfl, ⟨by kernel_rfl, by kernel_rfl⟩, by kernel_rfl, by kernel_rfl⟩
theorem ok_13 {Γ : Env} (hΓ : EnvOk Try.prog Γ) (sp : Spec) (h : WB Γ ac_13 rs_13 sp) : CallOk Try.prog 13 sp := g_13.ok hΓ mix_ok sp h

/-- chantry/flush.Put -/
def ac_14 : ACode :=
 (.seq
  (.region false [] [⟨some 2, .box (.t 0), none, [0]⟩, ⟨some 3, .box (.t 1), none, [1]⟩, ⟨some 4, .alloc [.int .u16 0, .slice none 0 0], none, []⟩, ⟨some 5, .mov (.c (.int .i64 0)), none, []⟩])
 (.seal_ 3
  (.seq
   (.region false [] [⟨some 8, .fad 1 (.t 2), none, []⟩, ⟨some 9, .ld false 1 (.t 8), none, [8]⟩, ⟨some 10, .call 40 [.t 9], none, [9]⟩, ⟨some 11, .fad 1 (.t 2), none, []⟩, ⟨none, .st 1 (.t 11) (.t 10), none, [10, 11]⟩])
  (.seq
   (.seq
    (.region false [] [⟨some 12, .ld true 2 (.t 2), none, []⟩, ⟨some 13, .call 41 [.t 12], none, [12]⟩, ⟨some 14, .un .not (.t 13), none, [13]⟩])
   (.cond (.t 14)
     (.drop [3, 14]
      (.seq
       (.region false [] [⟨some 15, .ld true 2 (.t 2), none, [2]⟩, ⟨none, .st 2 (.t 4) (.t 15), none, [15]⟩, ⟨some 5, .mov (.c (.int .i64 2)), none, []⟩])
      .ret))
     (.drop [14]
      .skip)))
  (.seq
   (.region false [] [⟨some 17, .fad 1 (.t 2), none, []⟩, ⟨some 18, .ld false 1 (.t 17), none, [17]⟩, ⟨some 19, .ld true 17 (.t 3), none, []⟩, ⟨some 20, .call 42 [.t 18, .t 19, .c (.func (.func 43) #[] #[])], none, [18, 19]⟩, ⟨some 16, .mov (.t 20), none, [20]⟩, ⟨some 21, .ext 0 (.t 16), none, []⟩, ⟨some 22, .ext 1 (.t 16), none, [16]⟩, ⟨some 6, .mov (.t 21), none, [21]⟩, ⟨some 7, .mov (.t 22), none, [22]⟩])
  (.seq
   (.block 0
    (.seq
     (.region false [] [⟨some 24, .fad 0 (.t 2), none, []⟩, ⟨some 25, .ld false 1 (.t 24), none, [24]⟩, ⟨some 26, .fad 0 (.t 3), none, []⟩, ⟨some 27, .ld false 1 (.t 26), none, [26]⟩, ⟨some 28, .call 44 [.t 25, .t 27], none, [25, 27]⟩, ⟨some 29, .un .not (.t 28), none, [28]⟩, ⟨some 23, .mov (.t 29), none, [29]⟩])
    (.cond (.t 23)
      (.drop [3, 6, 7, 23]
       (.seq
        (.region false [] [⟨some 30, .ld true 2 (.t 2), none, [2]⟩, ⟨none, .st 2 (.t 4) (.t 30), none, [30]⟩, ⟨some 5, .mov (.c (.int .i64 10)), none, []⟩])
       .ret))
      (.drop [23]
       (.seq
        (.region false [] [⟨some 32, .mov (.t 7), none, [7]⟩, ⟨some 31, .mov (.t 32), none, [32]⟩])
       (.cond (.t 31)
         (.drop [3, 6, 31]
          (.seq
           (.region false [] [⟨some 33, .ld true 2 (.t 2), none, [2]⟩, ⟨none, .st 2 (.t 4) (.t 33), none, [33]⟩, ⟨some 5, .mov (.c (.int .i64 9)), none, []⟩])
          .ret))
         (.drop [31]
          (.seq
           (.region false [] [⟨some 35, .ld true 2 (.t 2), none, []⟩, ⟨some 36, .fad 1 (.t 3), none, []⟩, ⟨some 37, .ld true 16 (.t 36), none, [36]⟩, ⟨some 38, .call 45 [.t 35, .t 37], none, [35, 37]⟩, ⟨some 39, .un .not (.t 38), none, [38]⟩, ⟨some 34, .mov (.t 39), none, [39]⟩])
          (.cond (.t 34)
            (.drop [3, 6, 34]
             (.seq
              (.region false [] [⟨some 40, .ld true 2 (.t 2), none, [2]⟩, ⟨none, .st 2 (.t 4) (.t 40), none, [40]⟩, ⟨some 5, .mov (.c (.int .i64 2)), none, []⟩])
             .ret))
            (.drop [34]
             .skip))))))))))
  (.seq
   (.region false [] [⟨some 41, .fad 1 (.t 2), none, []⟩, ⟨some 42, .ld false 1 (.t 41), none, [41]⟩, ⟨some 43, .mov (.t 6), none, [6]⟩, ⟨some 44, .ld true 17 (.t 3), none, [3]⟩, ⟨some 45, .bsl 39 17 [.t 44], none, [44]⟩, ⟨some 46, .call 46 [.t 42, .t 43, .t 45], none, [42, 43, 45]⟩, ⟨some 47, .fad 1 (.t 2), none, []⟩, ⟨none, .st 1 (.t 47) (.t 46), none, [46, 47]⟩])
  (.seq
   (.region false [] [⟨some 48, .ld true 2 (.t 2), none, [2]⟩, ⟨none, .st 2 (.t 4) (.t 48), none, [48]⟩, ⟨some 5, .mov (.c (.int .i64 0)), none, []⟩])
  .ret))))))))
def rs_14 : List ARes := [.cell 4 true 2, .tmp 5]
theorem g_14 : Good Try.prog 14 ac_14 rs_14 := ⟨Try.f14, Try.f14.body.getD .skip, by kernel_rfl, by kernel_rfl, by kernel_rfl, ⟨by kernel_rfl, by kernel_rfl⟩, by kernel_rfl, by kernel_rfl⟩
theorem ok_14 {Γ : Env} (hΓ : EnvOk Try.prog Γ) (sp : Spec) (h : WB Γ ac_14 rs_14 sp) : CallOk Try.prog 14 sp := g_14.ok hΓ mix_ok sp h

/-- chantry/chantrylaw13.Theirs -/
def ac_15 : ACode :=
 (.seq
  (.region false [] [⟨some 1, .box (.t 0), none, [0]⟩, ⟨some 2, .alloc [.int .u16 0, .slice none 0 0], none, []⟩])
 (.seal_ 1
  (.seq
   (.region false [] [⟨some 6, .fad 0 (.t 1), none, []⟩, ⟨some 7, .ld false 1 (.t 6), none, [6]⟩, ⟨some 8, .bld [.int .u16 0, .slice none 0 0] [(0, 1, .t 7)], none, [7]⟩, ⟨some 3, .alloc [.int .u16 0, .slice none 0 0], none, []⟩, ⟨none, .st 2 (.t 3) (.t 8), none, [8]⟩])
  (.seq
   (.seq
    (.region false [] [⟨some 9, .fad 1 (.t 1), none, [1]⟩, ⟨some 10, .ld false 1 (.t 9), none, [9]⟩, ⟨some 11, .len false (.t 10), none, []⟩, ⟨some 12, .mov (.c (.int .i64 0)), none, []⟩])
   (.block 0
    (.loop [2, 3, 10, 11, 12]
     (.seq
      (.region false [] [⟨some 13, .bin false .lss (.t 12) (.t 11), none, []⟩])
     (.seq
      (.cond (.t 13)
        (.drop [13]
         .skip)
        (.drop [10, 11, 12, 13]
         (.exit 0)))
     (.seq
      (.block 1
       (.seq
        (.region false [] [⟨some 14, .iax 17 (.t 10) (.t 12), none, []⟩, ⟨some 15, .ld true 17 (.t 14), none, [14]⟩, ⟨some 5, .alloc [.int .u8 0, .int .u16 0, .int .u16 0, .int .u16 0, .int .u16 0, .int .u16 0, .int .u16 0, .int .u16 0, .int .u16 0, .int .u16 0, .int .u16 0, .int .u16 0, .int .u16 0, .int .u16 0, .int .u16 0, .int .u16 0, .int .u16 0], none, []⟩, ⟨none, .st 17 (.t 5) (.t 15), none, [15]⟩])
       (.seal_ 5
        (.region false [] [⟨some 16, .fad 1 (.t 3), none, []⟩, ⟨some 17, .ld false 1 (.t 16), none, [16]⟩, ⟨some 18, .ld true 17 (.t 5), none, [5]⟩, ⟨some 19, .bsl 39 17 [.t 18], none, [18]⟩, ⟨some 20, .app 39 17 34 (.t 17) (.t 19), none, [17, 19]⟩, ⟨some 21, .fad 1 (.t 3), none, []⟩, ⟨none, .st 1 (.t 21) (.t 20), none, [20, 21]⟩]))))
     (.region false [] [⟨some 22, .bin false .add (.t 12) (.c (.int .i64 1)), none, [12]⟩, ⟨some 12, .mov (.t 22), none, [22]⟩])))))))
  (.seq
   (.region false [] [⟨some 23, .ld true 2 (.t 3), none, [3]⟩, ⟨none, .st 2 (.t 2) (.t 23), none, [23]⟩])
  .ret)))))
def rs_15 : List ARes := [.cell 2 true 2]
theorem g_15 : Good Try.prog 15 ac_15 rs_15 := ⟨Try.f15, Try.f15.body.getD .skip, by kernel_rfl, by kernel_rfl, by kernel_rfl, ⟨by kernel_rfl, by kernel_rfl⟩, by kernel_rfl, by kernel_rfl⟩
theorem ok_15 {Γ : Env} (hΓ : EnvOk Try.prog Γ) (sp : Spec) (h : WB Γ ac_15 rs_15 sp) : CallOk Try.prog 15 sp := g_15.ok hΓ mix_ok sp h

/-- chantry/chantryref13.Put -/
def ac_16 : ACode :=
 (.seq
  (.region false [] [⟨some 2, .box (.t 0), none, [0]⟩, ⟨some 3, .box (.t 1), none, [1]⟩, ⟨some 4, .alloc [.int .u16 0, .slice none 0 0], none, []⟩, ⟨some 5, .mov (.c (.int .i64 0)), none, []⟩])
 (.seal_ 3
  (.seq
   (.seq
    (.region false [] [⟨some 9, .ld true 2 (.t 2), none, []⟩, ⟨some 10, .call 47 [.t 9], none, [9]⟩, ⟨some 11, .un .not (.t 10), none, [10]⟩])
   (.cond (.t 11)
     (.drop [3, 11]
      (.seq
       (.region false [] [⟨some 12, .ld true 2 (.t 2), none, [2]⟩, ⟨none, .st 2 (.t 4) (.t 12), none, [12]⟩, ⟨some 5, .mov (.c (.int .i64 2)), none, []⟩])
      .ret))
     (.drop [11]
      .skip)))
  (.seq
   (.seq
    (.region false [] [⟨some 13, .fad 0 (.t 2), none, []⟩, ⟨some 14, .ld false 1 (.t 13), none, [13]⟩, ⟨some 15, .fad 0 (.t 3), none, []⟩, ⟨some 16, .ld false 1 (.t 15), none, [15]⟩, ⟨some 17, .call 39 [.t 14, .t 16], none, [14, 16]⟩, ⟨some 18, .un .not (.t 17), none, [17]⟩])
   (.cond (.t 18)
     (.drop [3, 18]
      (.seq
       (.region false [] [⟨some 19, .ld true 2 (.t 2), none, [2]⟩, ⟨none, .st 2 (.t 4) (.t 19), none, [19]⟩, ⟨some 5, .mov (.c (.int .i64 10)), none, []⟩])
      .ret))
     (.drop [18]
      .skip)))
  (.seq
   (.region false [] [⟨some 6, .mov (.c (.slice none 0 0)), none, []⟩])
  (.seq
   (.region false [] [⟨some 7, .mov (.c (.bool false)), none, []⟩])
  (.seq
   (.seq
    (.region false [] [⟨some 8, .mov (.c (.int .i64 0)), none, []⟩])
   (.block 0
    (.loop [2, 3, 4, 6, 7, 8]
     (.seq
      (.seq
       (.region false [] [⟨some 20, .mov (.t 8), none, []⟩, ⟨some 21, .fad 1 (.t 2), none, []⟩, ⟨some 22, .ld false 1 (.t 21), none, [21]⟩, ⟨some 23, .len false (.t 22), none, [22]⟩, ⟨some 24, .bin false .lss (.t 20) (.t 23), none, [20, 23]⟩])
      (.cond (.t 24)
        (.drop [24]
         .skip)
        (.drop [8, 24]
         (.exit 0))))
     (.seq
      (.block 1
       (.seq
        (.seq
         (.draws (.tak 0 ⟨some 27, .fad 1 (.t 2), none, []⟩ (.tak 2 ⟨some 29, .mov (.t 8), none, []⟩ (.tak 6 ⟨some 33, .fad 0 (.t 3), none, []⟩ (.tak 7 ⟨some 34, .ld false 1 (.t 33), none, []⟩ (.alt 1 ⟨some 28, .ld false 1 (.t 27), none, []⟩ (.tak 3 ⟨some 30, .iax 17 (.t 28) (.t 29), none, []⟩ (.tak 4 ⟨some 31, .fad 0 (.t 30), none, []⟩ (.tak 5 ⟨some 32, .ld false 1 (.t 31), none, []⟩ (.tak 8 ⟨some 35, .bin false .eql (.t 32) (.t 34), none, []⟩ .done)))) .stop))))) [[], [0], [], [1, 2], [3], [4], [], [6], [5, 7]] [⟨some 27, .fad 1 (.t 2), none, []⟩, ⟨some 28, .ld false 1 (.t 27), none, []⟩, ⟨some 29, .mov (.t 8), none, []⟩, ⟨some 30, .iax 17 (.t 28) (.t 29), none, []⟩, ⟨some 31, .fad 0 (.t 30), none, []⟩, ⟨some 32, .ld false 1 (.t 31), none, []⟩, ⟨some 33, .fad 0 (.t 3), none, []⟩, ⟨some 34, .ld false 1 (.t 33), none, []⟩, ⟨some 35, .bin false .eql (.t 32) (.t 34), none, []⟩])
        (.drop [27, 28, 29, 30, 31, 32, 33, 34]
         (.cond (.t 35)
           (.drop [3, 6, 7, 8, 35]
            (.seq
             (.region false [] [⟨some 36, .ld true 2 (.t 2), none, [2]⟩, ⟨none, .st 2 (.t 4) (.t 36), none, [36]⟩, ⟨some 5, .mov (.c (.int .i64 9)), none, []⟩])
            .ret))
           (.drop [35]
            .skip))))
       (.seq
        (.seq
         (.draws (.tak 0 ⟨some 37, .mov (.t 7), none, []⟩ (.tak 1 ⟨some 38, .un .not (.t 37), none, []⟩ (.tak 2 ⟨some 39, .mov (.t 38), none, []⟩ (.tak 3 ⟨some 40, .fad 0 (.t 3), some (39, true), []⟩ (.tak 4 ⟨some 41, .ld false 1 (.t 40), some (39, true), []⟩ (.tak 5 ⟨some 42, .fad 1 (.t 2), some (39, true), []⟩ (.tak 7 ⟨some 44, .mov (.t 8), some (39, true), []⟩ (.alt 6 ⟨some 43, .ld false 1 (.t 42), some (39, true), []⟩ (.tak 8 ⟨some 45, .iax 17 (.t 43) (.t 44), some (39, true), []⟩ (.tak 9 ⟨some 46, .fad 0 (.t 45), some (39, true), []⟩ (.tak 10 ⟨some 47, .ld false 1 (.t 46), some (39, true), []⟩ (.tak 11 ⟨some 48, .bin false .lss (.t 41) (.t 47), some (39, true), []⟩ (.tak 12 ⟨some 49, .pick (.t 39) (.t 48) (.c (.bool false)), none, []⟩ .done))))) .stop)))))))) [[], [0], [1], [2], [3, 2], [2], [5, 2], [2], [6, 7, 2], [8, 2], [9, 2], [4, 10, 2], [2, 11]] [⟨some 37, .mov (.t 7), none, []⟩, ⟨some 38, .un .not (.t 37), none, []⟩, ⟨some 39, .mov (.t 38), none, []⟩, ⟨some 40, .fad 0 (.t 3), some (39, true), []⟩, ⟨some 41, .ld false 1 (.t 40), some (39, true), []⟩, ⟨some 42, .fad 1 (.t 2), some (39, true), []⟩, ⟨some 43, .ld false 1 (.t 42), some (39, true), []⟩, ⟨some 44, .mov (.t 8), some (39, true), []⟩, ⟨some 45, .iax 17 (.t 43) (.t 44), some (39, true), []⟩, ⟨some 46, .fad 0 (.t 45), some (39, true), []⟩, ⟨some 47, .ld false 1 (.t 46), some (39, true), []⟩, ⟨some 48, .bin false .lss (.t 41) (.t 47), some (39, true), []⟩, ⟨some 49, .pick (.t 39) (.t 48) (.c (.bool false)), none, []⟩])
        (.drop [37, 38, 39, 40, 41, 42, 43, 44, 45, 46, 47, 48]
         (.cond (.t 49)
           (.drop [7, 49]
            (.seq
             (.region false [] [⟨some 50, .mov (.t 6), none, [6]⟩, ⟨some 51, .ld true 17 (.t 3), none, []⟩, ⟨some 52, .bsl 30 17 [.t 51], none, [51]⟩, ⟨some 53, .app 30 17 34 (.t 50) (.t 52), none, [50, 52]⟩, ⟨some 6, .mov (.t 53), none, [53]⟩])
            (.region false [] [⟨some 7, .mov (.c (.bool true)), none, []⟩])))
           (.drop [49]
            .skip))))
       (.region false [] [⟨some 54, .mov (.t 6), none, [6]⟩, ⟨some 55, .fad 1 (.t 2), none, []⟩, ⟨some 56, .ld false 1 (.t 55), none, [55]⟩, ⟨some 57, .mov (.t 8), none, []⟩, ⟨some 58, .iax 17 (.t 56) (.t 57), none, [56, 57]⟩, ⟨some 59, .ld true 17 (.t 58), none, [58]⟩, ⟨some 60, .bsl 30 17 [.t 59], none, [59]⟩, ⟨some 61, .app 30 17 34 (.t 54) (.t 60), none, [54, 60]⟩, ⟨some 6, .mov (.t 61), none, [61]⟩]))))
     (.region false [] [⟨some 25, .mov (.t 8), none, [8]⟩, ⟨some 26, .bin false .add (.t 25) (.c (.int .i64 1)), none, [25]⟩, ⟨some 8, .mov (.t 26), none, [26]⟩]))))))
  (.seq
   (.seq
    (.region false [] [⟨some 62, .mov (.t 7), none, [7]⟩, ⟨some 63, .un .not (.t 62), none, [62]⟩])
   (.cond (.t 63)
     (.drop [63]
      (.region false [] [⟨some 64, .mov (.t 6), none, [6]⟩, ⟨some 65, .ld true 17 (.t 3), none, []⟩, ⟨some 66, .bsl 30 17 [.t 65], none, [65]⟩, ⟨some 67, .app 30 17 34 (.t 64) (.t 66), none, [64, 66]⟩, ⟨some 6, .mov (.t 67), none, [67]⟩]))
     (.drop [63]
      .skip)))
  (.seq
   (.seq
    (.region false [] [⟨some 68, .fad 0 (.t 2), none, []⟩, ⟨some 69, .ld false 1 (.t 68), none, [68]⟩, ⟨some 70, .fad 1 (.t 3), none, [3]⟩, ⟨some 71, .ld true 16 (.t 70), none, [70]⟩, ⟨some 72, .call 48 [.t 69, .t 71], none, [69, 71]⟩, ⟨some 73, .un .not (.t 72), none, [72]⟩])
   (.cond (.t 73)
     (.drop [6, 73]
      (.seq
       (.region false [] [⟨some 74, .ld true 2 (.t 2), none, [2]⟩, ⟨none, .st 2 (.t 4) (.t 74), none, [74]⟩, ⟨some 5, .mov (.c (.int .i64 2)), none, []⟩])
      .ret))
     (.drop [73]
      .skip)))
  (.seq
   (.region false [] [⟨some 75, .mov (.t 6), none, [6]⟩, ⟨some 76, .fad 1 (.t 2), none, []⟩, ⟨none, .st 1 (.t 76) (.t 75), none, [75, 76]⟩])
  (.seq
   (.region false [] [⟨some 77, .ld true 2 (.t 2), none, [2]⟩, ⟨none, .st 2 (.t 4) (.t 77), none, [77]⟩, ⟨some 5, .mov (.c (.int .i64 0)), none, []⟩])
  .ret)))))))))))
def rs_16 : List ARes := [.cell 4 true 2, .tmp 5]
theorem g_16 : Good Try.prog 16 ac_16 rs_16 := ⟨Try.f16, Try.f16.body.getD .skip, by kernel_rfl, by kernel_rfl, by kernel_rfl, ⟨by kernel_rfl, by kernel_rfl⟩, by kernel_rfl, by kernel_rfl⟩
theorem ok_16 {Γ : Env} (hΓ : EnvOk Try.prog Γ) (sp : Spec) (h : WB Γ ac_16 rs_16 sp) : CallOk Try.prog 16 sp := g_16.ok hΓ mix_ok sp h

/-- chantry/flush.Target -/
def ac_17 : ACode :=
 (.seq
  (.region false [] [⟨some 1, .box (.t 0), none, [0]⟩, ⟨some 2, .alloc [.int .u16 0, .int .u16 0, .int .u16 0, .int .u16 0, .int .u16 0, .int .u16 0, .int .u16 0, .int .u16 0, .int .u16 0, .int .u16 0, .int .u16 0, .int .u16 0, .int .u16 0, .int .u16 0, .int .u16 0, .int .u16 0], none, []⟩, ⟨some 3, .mov (.c (.bool false)), none, []⟩])
 (.seal_ 1
  (.seq
   (.seq
    (.draws (.tak 0 ⟨some 7, .ld true 2 (.t 1), none, []⟩ (.alt 1 ⟨some 8, .call 41 [.t 7], none, []⟩ (.tak 2 ⟨some 9, .un .not (.t 8), none, []⟩ (.tak 3 ⟨some 10, .mov (.t 9), none, []⟩ (.tak 4 ⟨some 11, .fad 1 (.t 1), some (10, false), []⟩ (.tak 5 ⟨some 12, .ld false 1 (.t 11), some (10, false), []⟩ (.tak 6 ⟨some 13, .len false (.t 12), some (10, false), []⟩ (.tak 7 ⟨some 14, .fad 0 (.t 1), some (10, false), []⟩ (.tak 8 ⟨some 15, .ld false 1 (.t 14), some (10, false), []⟩ (.alt 9 ⟨some 16, .call 49 [.t 15], some (10, false), []⟩ (.tak 10 ⟨some 17, .bin false .lss (.t 13) (.t 16), some (10, false), []⟩ (.tak 11 ⟨some 18, .pick (.t 10) (.c (.bool true)) (.t 17), none, []⟩ .done)) .stop)))))))) .stop)) [[], [0], [1], [2, 1], [3], [4, 3], [5, 3], [3], [7, 3], [8, 3, 3], [6, 9, 3], [3, 10]] [⟨some 7, .ld true 2 (.t 1), none, []⟩, ⟨some 8, .call 41 [.t 7], none, []⟩, ⟨some 9, .un .not (.t 8), none, []⟩, ⟨some 10, .mov (.t 9), none, []⟩, ⟨some 11, .fad 1 (.t 1), some (10, false), []⟩, ⟨some 12, .ld false 1 (.t 11), some (10, false), []⟩, ⟨some 13, .len false (.t 12), some (10, false), []⟩, ⟨some 14, .fad 0 (.t 1), some (10, false), []⟩, ⟨some 15, .ld false 1 (.t 14), some (10, false), []⟩, ⟨some 16, .call 49 [.t 15], some (10, false), []⟩, ⟨some 17, .bin false .lss (.t 13) (.t 16), some (10, false), []⟩, ⟨some 18, .pick (.t 10) (.c (.bool true)) (.t 17), none, []⟩])
   (.drop [7, 8, 9, 10, 11, 12, 13, 14, 15, 16, 17]
    (.cond (.t 18)
      (.drop [1, 18]
       (.seq
        (.region false [] [⟨some 19, .bld [.int .u16 0, .int .u16 0, .int .u16 0, .int .u16 0, .int .u16 0, .int .u16 0, .int .u16 0, .int .u16 0, .int .u16 0, .int .u16 0, .int .u16 0, .int .u16 0, .int .u16 0, .int .u16 0, .int .u16 0, .int .u16 0] [], none, []⟩, ⟨none, .st 16 (.t 2) (.t 19), none, [19]⟩, ⟨some 3, .mov (.c (.bool false)), none, []⟩])
       .ret))
      (.drop [18]
       .skip))))
  (.seq
   (.region false [] [⟨some 4, .alloc [.int .u16 0, .int .u16 0, .int .u16 0, .int .u16 0, .int .u16 0, .int .u16 0, .int .u16 0, .int .u16 0, .int .u16 0, .int .u16 0, .int .u16 0, .int .u16 0, .int .u16 0, .int .u16 0, .int .u16 0, .int .u16 0], none, []⟩])
  (.seq
   (.seq
    (.region false [] [⟨some 20, .fad 1 (.t 1), none, [1]⟩, ⟨some 21, .ld false 1 (.t 20), none, [20]⟩, ⟨some 22, .len false (.t 21), none, []⟩, ⟨some 23, .mov (.c (.int .i64 0)), none, []⟩])
   (.block 0
    (.loop [2, 4, 21, 22, 23]
     (.seq
      (.region false [] [⟨some 24, .bin false .lss (.t 23) (.t 22), none, []⟩])
     (.seq
      (.cond (.t 24)
        (.drop [24]
         .skip)
        (.drop [21, 22, 23, 24]
         (.exit 0)))
     (.seq
      (.block 1
       (.seq
        (.region false [] [⟨some 25, .iax 17 (.t 21) (.t 23), none, []⟩, ⟨some 26, .ld true 17 (.t 25), none, [25]⟩, ⟨some 6, .alloc [.int .u8 0, .int .u16 0, .int .u16 0, .int .u16 0, .int .u16 0, .int .u16 0, .int .u16 0, .int .u16 0, .int .u16 0, .int .u16 0, .int .u16 0, .int .u16 0, .int .u16 0, .int .u16 0, .int .u16 0, .int .u16 0, .int .u16 0], none, []⟩, ⟨none, .st 17 (.t 6) (.t 26), none, [26]⟩])
       (.seq
        (.region false [] [⟨some 27, .fad 0 (.t 6), none, []⟩, ⟨some 28, .ld false 1 (.t 27), none, [27]⟩, ⟨some 29, .fad 1 (.t 6), none, []⟩, ⟨some 30, .iaa 16 1 (.t 29) (.t 28), none, [29]⟩, ⟨some 31, .ld false 1 (.t 30), none, [30]⟩, ⟨some 32, .bin false .add (.t 31) (.c (.int .u16 1)), none, [31]⟩, ⟨some 33, .fad 1 (.t 6), none, []⟩, ⟨some 34, .iaa 16 1 (.t 33) (.t 28), none, [28, 33]⟩, ⟨none, .st 1 (.t 34) (.t 32), none, [32, 34]⟩])
       (.region false [] [⟨some 35, .ld true 16 (.t 4), none, []⟩, ⟨some 36, .fad 1 (.t 6), none, [6]⟩, ⟨some 37, .ld true 16 (.t 36), none, [36]⟩, ⟨some 38, .call 50 [.t 35, .t 37], none, [35, 37]⟩, ⟨none, .st 16 (.t 4) (.t 38), none, [38]⟩]))))
     (.region false [] [⟨some 39, .bin false .add (.t 23) (.c (.int .i64 1)), none, [23]⟩, ⟨some 23, .mov (.t 39), none, [39]⟩])))))))
  (.seq
   (.region false [] [⟨some 40, .ld true 16 (.t 4), none, [4]⟩, ⟨none, .st 16 (.t 2) (.t 40), none, [40]⟩, ⟨some 3, .mov (.c (.bool true)), none, []⟩])
  .ret))))))
def rs_17 : List ARes := [.cell 2 true 16, .tmp 3]
theorem g_17 : Good Try.prog 17 ac_17 rs_17 := ⟨Try.f17, Try.f17.body.getD .skip, by kernel_rfl, by kernel_rfl, by kernel_rfl, ⟨by kernel_rfl, by kernel_rfl⟩, by kernel_rfl, by kernel_rfl⟩
theorem ok_17 {Γ : Env} (hΓ : EnvOk Try.prog Γ) (sp : Spec) (h : WB Γ ac_17 rs_17 sp) : CallOk Try.prog 17 sp := g_17.ok hΓ mix_ok sp h

/-- chantry/chantryref13.Target -/
def ac_18 : ACode :=
 (.seq
  (.region false [] [⟨some 1, .box (.t 0), none, [0]⟩, ⟨some 2, .alloc [.int .u16 0, .int .u16 0, .int .u16 0, .int .u16 0, .int .u16 0, .int .u16 0, .int .u16 0, .int .u16 0, .int .u16 0, .int .u16 0, .int .u16 0, .int .u16 0, .int .u16 0, .int .u16 0, .int .u16 0, .int .u16 0], none, []⟩, ⟨some 3, .mov (.c (.bool false)), none, []⟩])
 (.seal_ 1
  (.seq
   (.seq
    (.draws (.tak 0 ⟨some 8, .ld true 2 (.t 1), none, []⟩ (.alt 1 ⟨some 9, .call 47 [.t 8], none, []⟩ (.tak 2 ⟨some 10, .un .not (.t 9), none, []⟩ (.tak 3 ⟨some 11, .mov (.t 10), none, []⟩ (.tak 4 ⟨some 12, .fad 1 (.t 1), some (11, false), []⟩ (.tak 5 ⟨some 13, .ld false 1 (.t 12), some (11, false), []⟩ (.tak 6 ⟨some 14, .len false (.t 13), some (11, false), []⟩ (.tak 7 ⟨some 15, .fad 0 (.t 1), some (11, false), []⟩ (.tak 8 ⟨some 16, .ld false 1 (.t 15), some (11, false), []⟩ (.alt 9 ⟨some 17, .call 35 [.t 16], some (11, false), []⟩ (.tak 10 ⟨some 18, .bin false .lss (.t 14) (.t 17), some (11, false), []⟩ (.tak 11 ⟨some 19, .pick (.t 11) (.c (.bool true)) (.t 18), none, []⟩ .done)) .stop)))))))) .stop)) [[], [0], [1], [2, 1], [3], [4, 3], [5, 3], [3], [7, 3], [8, 3, 3], [6, 9, 3], [3, 10]] [⟨some 8, .ld true 2 (.t 1), none, []⟩, ⟨some 9, .call 47 [.t 8], none, []⟩, ⟨some 10, .un .not (.t 9), none, []⟩, ⟨some 11, .mov (.t 10), none, []⟩, ⟨some 12, .fad 1 (.t 1), some (11, false), []⟩, ⟨some 13, .ld false 1 (.t 12), some (11, false), []⟩, ⟨some 14, .len false (.t 13), some (11, false), []⟩, ⟨some 15, .fad 0 (.t 1), some (11, false), []⟩, ⟨some 16, .ld false 1 (.t 15), some (11, false), []⟩, ⟨some 17, .call 35 [.t 16], some (11, false), []⟩, ⟨some 18, .bin false .lss (.t 14) (.t 17), some (11, false), []⟩, ⟨some 19, .pick (.t 11) (.c (.bool true)) (.t 18), none, []⟩])
   (.drop [8, 9, 10, 11, 12, 13, 14, 15, 16, 17, 18]
    (.cond (.t 19)
      (.drop [1, 19]
       (.seq
        (.region false [] [⟨some 20, .bld [.int .u16 0, .int .u16 0, .int .u16 0, .int .u16 0, .int .u16 0, .int .u16 0, .int .u16 0, .int .u16 0, .int .u16 0, .int .u16 0, .int .u16 0, .int .u16 0, .int .u16 0, .int .u16 0, .int .u16 0, .int .u16 0] [], none, []⟩, ⟨none, .st 16 (.t 2) (.t 20), none, [20]⟩, ⟨some 3, .mov (.c (.bool false)), none, []⟩])
       .ret))
      (.drop [19]
       .skip))))
  (.seq
   (.region false [] [⟨some 4, .alloc [.int .u16 0, .int .u16 0, .int .u16 0, .int .u16 0, .int .u16 0, .int .u16 0, .int .u16 0, .int .u16 0, .int .u16 0, .int .u16 0, .int .u16 0, .int .u16 0, .int .u16 0, .int .u16 0, .int .u16 0, .int .u16 0], none, []⟩])
  (.seq
   (.seq
    (.region false [] [⟨some 5, .mov (.c (.int .i64 0)), none, []⟩])
   (.block 0
    (.loop [1, 2, 4, 5]
     (.seq
      (.seq
       (.region false [] [⟨some 21, .mov (.t 5), none, []⟩, ⟨some 22, .fad 1 (.t 1), none, []⟩, ⟨some 23, .ld false 1 (.t 22), none, [22]⟩, ⟨some 24, .len false (.t 23), none, [23]⟩, ⟨some 25, .bin false .lss (.t 21) (.t 24), none, [21, 24]⟩])
      (.cond (.t 25)
        (.drop [25]
         .skip)
        (.drop [1, 5, 25]
         (.exit 0))))
     (.seq
      (.block 1
       (.seq
        (.region false [] [⟨some 28, .fad 1 (.t 1), none, []⟩, ⟨some 29, .ld false 1 (.t 28), none, [28]⟩, ⟨some 30, .mov (.t 5), none, []⟩, ⟨some 31, .iax 17 (.t 29) (.t 30), none, [29, 30]⟩, ⟨some 32, .fad 1 (.t 31), none, [31]⟩, ⟨some 33, .ld true 16 (.t 32), none, [32]⟩, ⟨some 6, .alloc [.int .u16 0, .int .u16 0, .int .u16 0, .int .u16 0, .int .u16 0, .int .u16 0, .int .u16 0, .int .u16 0, .int .u16 0, .int .u16 0, .int .u16 0, .int .u16 0, .int .u16 0, .int .u16 0, .int .u16 0, .int .u16 0], none, []⟩, ⟨none, .st 16 (.t 6) (.t 33), none, [33]⟩])
       (.seq
        (.region false [] [⟨some 34, .fad 1 (.t 1), none, []⟩, ⟨some 35, .ld false 1 (.t 34), none, [34]⟩, ⟨some 36, .mov (.t 5), none, []⟩, ⟨some 37, .iax 17 (.t 35) (.t 36), none, [35, 36]⟩, ⟨some 38, .fad 0 (.t 37), none, [37]⟩, ⟨some 39, .ld false 1 (.t 38), none, [38]⟩, ⟨some 7, .mov (.t 39), none, [39]⟩])
       (.seq
        (.region false [] [⟨some 40, .mov (.t 7), none, []⟩, ⟨some 41, .mov (.t 7), none, [7]⟩, ⟨some 42, .iaa 16 1 (.t 6) (.t 41), none, [41]⟩, ⟨some 43, .ld false 1 (.t 42), none, [42]⟩, ⟨some 44, .bin false .add (.t 43) (.c (.int .u16 1)), none, [43]⟩, ⟨some 45, .iaa 16 1 (.t 6) (.t 40), none, [40]⟩, ⟨none, .st 1 (.t 45) (.t 44), none, [44, 45]⟩])
       (.region false [] [⟨some 46, .ld true 16 (.t 4), none, []⟩, ⟨some 47, .ld true 16 (.t 6), none, [6]⟩, ⟨some 48, .call 51 [.t 46, .t 47], none, [46, 47]⟩, ⟨none, .st 16 (.t 4) (.t 48), none, [48]⟩])))))
     (.region false [] [⟨some 26, .mov (.t 5), none, [5]⟩, ⟨some 27, .bin false .add (.t 26) (.c (.int .i64 1)), none, [26]⟩, ⟨some 5, .mov (.t 27), none, [27]⟩]))))))
  (.seq
   (.region false [] [⟨some 49, .ld true 16 (.t 4), none, [4]⟩, ⟨none, .st 16 (.t 2) (.t 49), none, [49]⟩, ⟨some 3, .mov (.c (.bool true)), none, []⟩])
  .ret))))))
def rs_18 : List ARes := [.cell 2 true 16, .tmp 3]
theorem g_18 : Good Try.prog 18 ac_18 rs_18 := ⟨Try.f18, Try.f18.body.getD .skip, by kernel_rfl, by kernel_rfl, by kernel_rfl, ⟨by kernel_rfl, by kernel_rfl⟩, by kernel_rfl, by kernel_rfl⟩
theorem ok_18 {Γ : Env} (hΓ : EnvOk Try.prog Γ) (sp : Spec) (h : WB Γ ac_18 rs_18 sp) : CallOk Try.prog 18 sp := g_18.ok hΓ mix_ok sp h

/-- chantry/chantryref13.Same -/
def ac_19 : ACode :=
 (.seq
  (.region false [] [⟨some 2, .box (.t 0), none, [0]⟩, ⟨some 3, .box (.t 1), none, [1]⟩, ⟨some 4, .mov (.c (.bool false)), none, []⟩])
 (.seal_ 3
  (.seal_ 2
   (.seq
    (.seq
     (.region false [] [⟨some 6, .fad 0 (.t 2), none, []⟩, ⟨some 7, .ld false 1 (.t 6), none, [6]⟩, ⟨some 8, .fad 0 (.t 3), none, []⟩, ⟨some 9, .ld false 1 (.t 8), none, [8]⟩, ⟨some 10, .bin false .neq (.t 7) (.t 9), none, [7, 9]⟩, ⟨some 11, .mov (.t 10), none, [10]⟩, ⟨some 12, .fad 1 (.t 2), some (11, false), []⟩, ⟨some 13, .ld false 1 (.t 12), some (11, false), [12]⟩, ⟨some 14, .len false (.t 13), some (11, false), [13]⟩, ⟨some 15, .fad 1 (.t 3), some (11, false), []⟩, ⟨some 16, .ld false 1 (.t 15), some (11, false), [15]⟩, ⟨some 17, .len false (.t 16), some (11, false), [16]⟩, ⟨some 18, .bin false .neq (.t 14) (.t 17), some (11, false), [14, 17]⟩, ⟨some 19, .pick (.t 11) (.c (.bool true)) (.t 18), none, [11, 18]⟩])
    (.cond (.t 19)
      (.drop [2, 3, 19]
       (.seq
        (.region false [] [⟨some 4, .mov (.c (.bool false)), none, []⟩])
       .ret))
      (.drop [19]
       .skip)))
   (.seq
    (.seq
     (.region false [] [⟨some 5, .mov (.c (.int .i64 0)), none, []⟩])
    (.block 0
     (.loop [2, 3, 5]
      (.seq
       (.seq
        (.region false [] [⟨some 20, .mov (.t 5), none, []⟩, ⟨some 21, .fad 1 (.t 2), none, []⟩, ⟨some 22, .ld false 1 (.t 21), none, [21]⟩, ⟨some 23, .len false (.t 22), none, [22]⟩, ⟨some 24, .bin false .lss (.t 20) (.t 23), none, [20, 23]⟩])
       (.cond (.t 24)
         (.drop [24]
          .skip)
         (.drop [2, 3, 5, 24]
          (.exit 0))))
      (.seq
       (.block 1
        (.seq
         (.draws (.tak 0 ⟨some 27, .fad 1 (.t 2), none, []⟩ (.tak 1 ⟨some 28, .ld false 1 (.t 27), none, []⟩ (.tak 2 ⟨some 29, .mov (.t 5), none, []⟩ (.tak 3 ⟨some 30, .iax 17 (.t 28) (.t 29), none, []⟩ (.tak 4 ⟨some 31, .ld true 17 (.t 30), none, []⟩ (.tak 5 ⟨some 32, .fad 1 (.t 3), none, []⟩ (.tak 6 ⟨some 33, .ld false 1 (.t 32), none, []⟩ (.tak 7 ⟨some 34, .mov (.t 5), none, []⟩ (.tak 8 ⟨some 35, .iax 17 (.t 33) (.t 34), none, []⟩ (.tak 9 ⟨some 36, .ld true 17 (.t 35), none, []⟩ (.tak 10 ⟨some 37, .eqs true [.i, .i, .i, .i, .i, .i, .i, .i, .i, .i, .i, .i, .i, .i, .i, .i, .i] (.t 31) (.t 36), none, []⟩ .done))))))))))) [[], [0], [], [1, 2], [3], [], [5], [], [6, 7], [8], [4, 9]] [⟨some 27, .fad 1 (.t 2), none, []⟩, ⟨some 28, .ld false 1 (.t 27), none, []⟩, ⟨some 29, .mov (.t 5), none, []⟩, ⟨some 30, .iax 17 (.t 28) (.t 29), none, []⟩, ⟨some 31, .ld true 17 (.t 30), none, []⟩, ⟨some 32, .fad 1 (.t 3), none, []⟩, ⟨some 33, .ld false 1 (.t 32), none, []⟩, ⟨some 34, .mov (.t 5), none, []⟩, ⟨some 35, .iax 17 (.t 33) (.t 34), none, []⟩, ⟨some 36, .ld true 17 (.t 35), none, []⟩, ⟨some 37, .eqs true [.i, .i, .i, .i, .i, .i, .i, .i, .i, .i, .i, .i, .i, .i, .i, .i, .i] (.t 31) (.t 36), none, []⟩])
        (.drop [27, 28, 29, 30, 31, 32, 33, 34, 35, 36]
         (.cond (.t 37)
           (.drop [2, 3, 5, 37]
            (.seq
             (.region false [] [⟨some 4, .mov (.c (.bool false)), none, []⟩])
            .ret))
           (.drop [37]
            .skip)))))
      (.region false [] [⟨some 25, .mov (.t 5), none, [5]⟩, ⟨some 26, .bin false .add (.t 25) (.c (.int .i64 1)), none, [25]⟩, ⟨some 5, .mov (.t 26), none, [26]⟩]))))))
   (.seq
    (.region false [] [⟨some 4, .mov (.c (.bool true)), none, []⟩])
   .ret))))))
def rs_19 : List ARes := [.tmp 4]
theorem g_19 : Good Try.prog 19 ac_19 rs_19 := ⟨Try.f19, Try.f19.body.getD .skip, by kernel_rfl, by kernel_rfl, by kernel_rfl, ⟨by kernel_rfl, by kernel_rfl⟩, by kernel_rfl, by kernel_rfl⟩
theorem ok_19 {Γ : Env} (hΓ : EnvOk Try.prog Γ) (sp : Spec) (h : WB Γ ac_19 rs_19 sp) : CallOk Try.prog 19 sp := g_19.ok hΓ mix_ok sp h

/-- chantry/chantrylaw13.Ours -/
def ac_20 : ACode :=
 (.seq
  (.region false [] [⟨some 1, .box (.t 0), none, [0]⟩, ⟨some 2, .alloc [.int .u16 0, .slice none 0 0], none, []⟩])
 (.seal_ 1
  (.seq
   (.region false [] [⟨some 6, .fad 0 (.t 1), none, []⟩, ⟨some 7, .ld false 1 (.t 6), none, [6]⟩, ⟨some 8, .bld [.int .u16 0, .slice none 0 0] [(0, 1, .t 7)], none, [7]⟩, ⟨some 3, .alloc [.int .u16 0, .slice none 0 0], none, []⟩, ⟨none, .st 2 (.t 3) (.t 8), none, [8]⟩])
  (.seq
   (.seq
    (.region false [] [⟨some 9, .fad 1 (.t 1), none, [1]⟩, ⟨some 10, .ld false 1 (.t 9), none, [9]⟩, ⟨some 11, .len false (.t 10), none, []⟩, ⟨some 12, .mov (.c (.int .i64 0)), none, []⟩])
   (.block 0
    (.loop [2, 3, 10, 11, 12]
     (.seq
      (.region false [] [⟨some 13, .bin false .lss (.t 12) (.t 11), none, []⟩])
     (.seq
      (.cond (.t 13)
        (.drop [13]
         .skip)
        (.drop [10, 11, 12, 13]
         (.exit 0)))
     (.seq
      (.block 1
       (.seq
        (.region false [] [⟨some 14, .iax 17 (.t 10) (.t 12), none, []⟩, ⟨some 15, .ld true 17 (.t 14), none, [14]⟩, ⟨some 5, .alloc [.int .u8 0, .int .u16 0, .int .u16 0, .int .u16 0, .int .u16 0, .int .u16 0, .int .u16 0, .int .u16 0, .int .u16 0, .int .u16 0, .int .u16 0, .int .u16 0, .int .u16 0, .int .u16 0, .int .u16 0, .int .u16 0, .int .u16 0], none, []⟩, ⟨none, .st 17 (.t 5) (.t 15), none, [15]⟩])
       (.seal_ 5
        (.region false [] [⟨some 16, .fad 1 (.t 3), none, []⟩, ⟨some 17, .ld false 1 (.t 16), none, [16]⟩, ⟨some 18, .ld true 17 (.t 5), none, [5]⟩, ⟨some 19, .bsl 30 17 [.t 18], none, [18]⟩, ⟨some 20, .app 30 17 34 (.t 17) (.t 19), none, [17, 19]⟩, ⟨some 21, .fad 1 (.t 3), none, []⟩, ⟨none, .st 1 (.t 21) (.t 20), none, [20, 21]⟩]))))
     (.region false [] [⟨some 22, .bin false .add (.t 12) (.c (.int .i64 1)), none, [12]⟩, ⟨some 12, .mov (.t 22), none, [22]⟩])))))))
  (.seq
   (.region false [] [⟨some 23, .ld true 2 (.t 3), none, [3]⟩, ⟨none, .st 2 (.t 2) (.t 23), none, [23]⟩])
  .ret)))))
def rs_20 : List ARes := [.cell 2 true 2]
theorem g_20 : Good Try.prog 20 ac_20 rs_20 := ⟨Try.f20, Try.f20.body.getD .skip, by kernel_rfl, by kernel_rfl, by kernel_rfl, ⟨by kernel_rfl, by kernel_rfl⟩, by kernel_rfl, by kernel_rfl⟩
theorem ok_20 {Γ : Env} (hΓ : EnvOk Try.prog Γ) (sp : Spec) (h : WB Γ ac_20 rs_20 sp) : CallOk Try.prog 20 sp := g_20.ok hΓ mix_ok sp h

/-- chantry/flush.Over -/
def ac_21 : ACode :=
 (.seq
  (.region false [] [⟨some 2, .box (.t 0), none, [0]⟩, ⟨some 3, .box (.t 1), none, [1]⟩, ⟨some 4, .mov (.c (.bool false)), none, []⟩])
 (.seal_ 3
  (.seal_ 2
   (.seq
    (.region false [] [⟨some 8, .ld true 2 (.t 2), none, [2]⟩, ⟨some 9, .call 17 [.t 8], none, [8]⟩, ⟨some 7, .mov (.t 9), none, [9]⟩, ⟨some 10, .ext 0 (.t 7), none, []⟩, ⟨some 11, .ext 1 (.t 7), none, [7]⟩, ⟨some 5, .alloc [.int .u16 0, .int .u16 0, .int .u16 0, .int .u16 0, .int .u16 0, .int .u16 0, .int .u16 0, .int .u16 0, .int .u16 0, .int .u16 0, .int .u16 0, .int .u16 0, .int .u16 0, .int .u16 0, .int .u16 0, .int .u16 0], none, []⟩, ⟨none, .st 16 (.t 5) (.t 10), none, [10]⟩, ⟨some 6, .mov (.t 11), none, [11]⟩])
   (.seal_ 5
    (.seq
     (.region false [] [⟨some 12, .mov (.t 6), none, [6]⟩, ⟨some 13, .mov (.t 12), none, [12]⟩, ⟨some 14, .ld true 16 (.t 5), some (13, true), [5]⟩, ⟨some 15, .ld true 16 (.t 3), some (13, true), [3]⟩, ⟨some 16, .eqs false [.i, .i, .i, .i, .i, .i, .i, .i, .i, .i, .i, .i, .i, .i, .i, .i] (.t 14) (.t 15), some (13, true), [14, 15]⟩, ⟨some 17, .pick (.t 13) (.t 16) (.c (.bool false)), none, [13, 16]⟩, ⟨some 4, .mov (.t 17), none, [17]⟩])
    .ret))))))
def rs_21 : List ARes := [.tmp 4]
theorem g_21 : Good Try.prog 21 ac_21 rs_21 := ⟨Try.f21, Try.f21.body.getD .skip, by kernel_rfl, by kernel_rfl, by kernel_rfl, ⟨by kernel_rfl, by kernel_rfl⟩, by kernel_rfl, by kernel_rfl⟩
theorem ok_21 {Γ : Env} (hΓ : EnvOk Try.prog Γ) (sp : Spec) (h : WB Γ ac_21 rs_21 sp) : CallOk Try.prog 21 sp := g_21.ok hΓ mix_ok sp h

/-- chantry/chantryref13.Over -/
def ac_22 : ACode :=
 (.seq
  (.region false [] [⟨some 2, .box (.t 0), none, [0]⟩, ⟨some 3, .box (.t 1), none, [1]⟩, ⟨some 4, .mov (.c (.bool false)), none, []⟩])
 (.seal_ 3
  (.seal_ 2
   (.seq
    (.region false [] [⟨some 8, .ld true 2 (.t 2), none, [2]⟩, ⟨some 9, .call 18 [.t 8], none, [8]⟩, ⟨some 7, .mov (.t 9), none, [9]⟩, ⟨some 10, .ext 0 (.t 7), none, []⟩, ⟨some 11, .ext 1 (.t 7), none, [7]⟩, ⟨some 5, .alloc [.int .u16 0, .int .u16 0, .int .u16 0, .int .u16 0, .int .u16 0, .int .u16 0, .int .u16 0, .int .u16 0, .int .u16 0, .int .u16 0, .int .u16 0, .int .u16 0, .int .u16 0, .int .u16 0, .int .u16 0, .int .u16 0], none, []⟩, ⟨none, .st 16 (.t 5) (.t 10), none, [10]⟩, ⟨some 6, .mov (.t 11), none, [11]⟩])
   (.seal_ 5
    (.seq
     (.region false [] [⟨some 12, .mov (.t 6), none, [6]⟩, ⟨some 13, .mov (.t 12), none, [12]⟩, ⟨some 14, .ld true 16 (.t 5), some (13, true), [5]⟩, ⟨some 15, .ld true 16 (.t 3), some (13, true), [3]⟩, ⟨some 16, .eqs false [.i, .i, .i, .i, .i, .i, .i, .i, .i, .i, .i, .i, .i, .i, .i, .i] (.t 14) (.t 15), some (13, true), [14, 15]⟩, ⟨some 17, .pick (.t 13) (.t 16) (.c (.bool false)), none, [13, 16]⟩, ⟨some 4, .mov (.t 17), none, [17]⟩])
    .ret))))))
def rs_22 : List ARes := [.tmp 4]
theorem g_22 : Good Try.prog 22 ac_22 rs_22 := ⟨Try.f22, Try.f22.body.getD .skip, by kernel_rfl, by kernel_rfl, by kernel_rfl, ⟨by kernel_rfl, by kernel_rfl⟩, by kernel_rfl, by kernel_rfl⟩
theorem ok_22 {Γ : Env} (hΓ : EnvOk Try.prog Γ) (sp : Spec) (h : WB Γ ac_22 rs_22 sp) : CallOk Try.prog 22 sp := g_22.ok hΓ mix_ok sp h

/-- chantry/chantryref09.Below -/
def ac_23 : ACode :=
 (.seq
  (.region false [] [⟨some 2, .box (.t 0), none, [0]⟩, ⟨some 3, .box (.t 1), none, [1]⟩, ⟨some 4, .mov (.c (.bool false)), none, []⟩])
 (.seal_ 3
  (.seal_ 2
   (.seq
    (.seq
     (.region false [] [⟨some 5, .mov (.c (.int .i64 0)), none, []⟩])
    (.block 0
     (.loop [2, 3, 5]
      (.seq
       (.seq
        (.region false [] [⟨some 6, .mov (.t 5), none, []⟩, ⟨some 7, .bin false .lss (.t 6) (.c (.int .i64 16)), none, [6]⟩])
       (.cond (.t 7)
         (.drop [7]
          .skip)
         (.drop [2, 3, 5, 7]
          (.exit 0))))
      (.seq
       (.block 1
        (.seq
         (.draws (.tak 0 ⟨some 10, .mov (.t 5), none, []⟩ (.tak 1 ⟨some 11, .iaa 16 1 (.t 2) (.t 10), none, []⟩ (.tak 2 ⟨some 12, .ld false 1 (.t 11), none, []⟩ (.tak 3 ⟨some 13, .mov (.t 5), none, []⟩ (.tak 4 ⟨some 14, .iaa 16 1 (.t 3) (.t 13), none, []⟩ (.tak 5 ⟨some 15, .ld false 1 (.t 14), none, []⟩ (.tak 6 ⟨some 16, .bin false .gtr (.t 12) (.t 15), none, []⟩ .done))))))) [[], [0], [1], [], [3], [4], [2, 5]] [⟨some 10, .mov (.t 5), none, []⟩, ⟨some 11, .iaa 16 1 (.t 2) (.t 10), none, []⟩, ⟨some 12, .ld false 1 (.t 11), none, []⟩, ⟨some 13, .mov (.t 5), none, []⟩, ⟨some 14, .iaa 16 1 (.t 3) (.t 13), none, []⟩, ⟨some 15, .ld false 1 (.t 14), none, []⟩, ⟨some 16, .bin false .gtr (.t 12) (.t 15), none, []⟩])
        (.drop [10, 11, 12, 13, 14, 15]
         (.cond (.t 16)
           (.drop [2, 3, 5, 16]
            (.seq
             (.region false [] [⟨some 4, .mov (.c (.bool false)), none, []⟩])
            .ret))
           (.drop [16]
            .skip)))))
      (.region false [] [⟨some 8, .mov (.t 5), none, [5]⟩, ⟨some 9, .bin false .add (.t 8) (.c (.int .i64 1)), none, [8]⟩, ⟨some 5, .mov (.t 9), none, [9]⟩]))))))
   (.seq
    (.region false [] [⟨some 4, .mov (.c (.bool true)), none, []⟩])
   .ret)))))
def rs_23 : List ARes := [.tmp 4]
theorem g_23 : Good Try.prog 23 ac_23 rs_23 := ⟨Try.f23, Try.f23.body.getD .skip, by kernel_rfl, by kernel_rfl, by kernel_rfl, ⟨by kernel_rfl, by kernel_rfl⟩, by kernel_rfl, by kernel_rfl⟩
theorem ok_23 {Γ : Env} (hΓ : EnvOk Try.prog Γ) (sp : Spec) (h : WB Γ ac_23 rs_23 sp) : CallOk Try.prog 23 sp := g_23.ok hΓ mix_ok sp h

/-- chantry/chantrylaw12.alive -/
def ac_24 : ACode :=
 (.seq
  (.region false [] [⟨some 0, .mov (.c (.bool false)), none, []⟩])
 (.seq
  (.region false [] [⟨some 12, .bld [.int .i64 0, .int .u16 0] [(1, 1, .c (.int .u16 15))], none, []⟩, ⟨some 13, .bld [.int .i64 0, .int .u16 0, .slice none 0 0] [(0, 2, .t 12)], none, [12]⟩, ⟨some 1, .alloc [.int .i64 0, .int .u16 0, .slice none 0 0], none, []⟩, ⟨none, .st 3 (.t 1) (.t 13), none, [13]⟩])
 (.seq
  (.region false [] [⟨some 14, .bld [.bool false, .int .u8 0] [(0, 1, .c (.bool true)), (1, 1, .c (.int .u8 5))], none, []⟩, ⟨some 2, .alloc [.bool false, .int .u8 0], none, []⟩, ⟨none, .st 2 (.t 2) (.t 14), none, [14]⟩])
 (.seal_ 2
  (.seq
   (.seq
    (.region false [] [⟨some 15, .mov (.c (.int .u8 0)), none, []⟩])
   (.block 0
    (.loop [1, 2, 15]
     (.seq
      (.region false [] [⟨some 16, .bin false .lss (.t 15) (.c (.int .u8 3)), none, []⟩])
     (.seq
      (.cond (.t 16)
        (.drop [16]
         .skip)
        (.drop [15, 16]
         (.exit 0)))
     (.seq
      (.block 1
       (.seq
        (.region false [] [⟨some 17, .mov (.t 15), none, []⟩, ⟨some 3, .mov (.t 17), none, [17]⟩])
       (.seq
        (.seq
         (.region false [] [⟨some 19, .ld true 3 (.t 1), none, []⟩, ⟨some 20, .call 29 [.t 19], none, [19]⟩, ⟨some 18, .mov (.t 20), none, [20]⟩, ⟨some 21, .ext 0 (.t 18), none, []⟩, ⟨some 22, .ext 1 (.t 18), none, [18]⟩, ⟨some 4, .alloc [.bool false, .int .u8 0], none, []⟩, ⟨none, .st 2 (.t 4) (.t 21), none, [4, 21]⟩, ⟨some 5, .mov (.t 22), none, [22]⟩])
        (.seal_ 4
         (.seq
          (.region false [] [⟨some 23, .mov (.t 5), none, [5]⟩])
         (.cond (.t 23)
           (.drop [1, 2, 3, 15, 23]
            (.seq
             (.region false [] [⟨some 0, .mov (.c (.bool false)), none, []⟩])
            .ret))
           (.drop [23]
            .skip)))))
       (.seq
        (.region false [] [⟨some 25, .ld true 3 (.t 1), none, []⟩, ⟨some 26, .mov (.t 3), none, [3]⟩, ⟨some 27, .bin false .sub (.c (.int .u8 2)) (.t 26), none, [26]⟩, ⟨some 28, .ld true 2 (.t 2), none, []⟩, ⟨some 29, .bld [.int .u8 0, .bool false, .int .u8 0] [(0, 1, .t 27), (1, 2, .t 28)], none, [27, 28]⟩, ⟨some 30, .call 25 [.t 25, .t 29], none, [25, 29]⟩, ⟨some 24, .mov (.t 30), none, [30]⟩, ⟨some 31, .ext 0 (.t 24), none, []⟩, ⟨some 32, .ext 1 (.t 24), none, [24]⟩, ⟨some 6, .alloc [.int .i64 0, .int .u16 0, .slice none 0 0], none, []⟩, ⟨none, .st 3 (.t 6) (.t 31), none, [31]⟩, ⟨some 7, .mov (.t 32), none, [32]⟩])
       (.seal_ 6
        (.seq
         (.seq
          (.region false [] [⟨some 33, .mov (.t 7), none, [7]⟩, ⟨some 34, .bin false .neq (.t 33) (.c (.int .i64 0)), none, [33]⟩])
         (.cond (.t 34)
           (.drop [1, 2, 6, 15, 34]
            (.seq
             (.region false [] [⟨some 0, .mov (.c (.bool false)), none, []⟩])
            .ret))
           (.drop [34]
            .skip)))
        (.region false [] [⟨some 35, .ld true 3 (.t 6), none, [6]⟩, ⟨none, .st 3 (.t 1) (.t 35), none, [35]⟩])))))))
     (.region false [] [⟨some 36, .bin false .add (.t 15) (.c (.int .u8 1)), none, [15]⟩, ⟨some 15, .mov (.t 36), none, [36]⟩])))))))
  (.seq
   (.region false [] [⟨some 38, .ld true 3 (.t 1), none, []⟩, ⟨some 39, .call 29 [.t 38], none, [38]⟩, ⟨some 37, .mov (.t 39), none, [39]⟩, ⟨some 40, .ext 0 (.t 37), none, []⟩, ⟨some 41, .ext 1 (.t 37), none, [37]⟩, ⟨some 8, .alloc [.bool false, .int .u8 0], none, []⟩, ⟨none, .st 2 (.t 8) (.t 40), none, [40]⟩, ⟨some 9, .mov (.t 41), none, [41]⟩])
  (.seal_ 8
   (.seq
    (.region false [] [⟨some 43, .ld true 3 (.t 1), none, []⟩, ⟨some 44, .ld true 2 (.t 2), none, []⟩, ⟨some 45, .bld [.int .u8 0, .bool false, .int .u8 0] [(0, 1, .c (.int .u8 1)), (1, 2, .t 44)], none, [44]⟩, ⟨some 46, .call 25 [.t 43, .t 45], none, [43, 45]⟩, ⟨some 42, .mov (.t 46), none, [46]⟩, ⟨some 47, .ext 0 (.t 42), none, []⟩, ⟨some 48, .ext 1 (.t 42), none, [42]⟩, ⟨some 10, .alloc [.int .i64 0, .int .u16 0, .slice none 0 0], none, []⟩, ⟨none, .st 3 (.t 10) (.t 47), none, [10, 47]⟩, ⟨some 11, .mov (.t 48), none, [48]⟩])
   (.seal_ 10
    (.seq
     (.region false [] [⟨some 49, .mov (.t 9), none, [9]⟩, ⟨some 50, .mov (.t 49), none, [49]⟩, ⟨some 51, .ld true 2 (.t 8), some (50, true), [8]⟩, ⟨some 52, .ld true 2 (.t 2), some (50, true), []⟩, ⟨some 53, .eqs false [.b, .i] (.t 51) (.t 52), some (50, true), [51, 52]⟩, ⟨some 54, .pick (.t 50) (.t 53) (.c (.bool false)), none, [50, 53]⟩, ⟨some 55, .mov (.t 54), none, [54]⟩, ⟨some 56, .ld true 3 (.t 1), some (55, true), [1]⟩, ⟨some 57, .ld true 2 (.t 2), some (55, true), [2]⟩, ⟨some 58, .call 33 [.t 56, .t 57], some (55, true), [56, 57]⟩, ⟨some 59, .bin false .eql (.t 58) (.c (.int .u16 7)), some (55, true), [58]⟩, ⟨some 60, .pick (.t 55) (.t 59) (.c (.bool false)), none, [55, 59]⟩, ⟨some 61, .mov (.t 60), none, [60]⟩, ⟨some 62, .mov (.t 11), some (61, true), [11]⟩, ⟨some 63, .bin false .eql (.t 62) (.c (.int .i64 9)), some (61, true), [62]⟩, ⟨some 64, .pick (.t 61) (.t 63) (.c (.bool false)), none, [61, 63]⟩, ⟨some 0, .mov (.t 64), none, [64]⟩])
    .ret))))))))))
def rs_24 : List ARes := [.tmp 0]
theorem g_24 : Good Try.prog 24 ac_24 rs_24 := ⟨Try.f24, Try.f24.body.getD .skip, by kernel_rfl, by kernel_rfl, by kernel_rfl, ⟨by kernel_rfl, by kernel_rfl⟩, by kernel_rfl, by kernel_rfl⟩
theorem ok_24 {Γ : Env} (hΓ : EnvOk Try.prog Γ) (sp : Spec) (h : WB Γ ac_24 rs_24 sp) : CallOk Try.prog 24 sp := g_24.ok hΓ mix_ok sp h

/-- chantry/ballot.Put -/
def ac_25 : ACode :=
 (.seq
  (.region false [] [⟨some 2, .box (.t 0), none, [0]⟩, ⟨some 3, .box (.t 1), none, [1]⟩, ⟨some 4, .alloc [.int .i64 0, .int .u16 0, .slice none 0 0], none, []⟩, ⟨some 5, .mov (.c (.int .i64 0)), none, []⟩])
 (.seal_ 3
  (.seq
   (.region false [] [⟨some 10, .fad 2 (.t 2), none, []⟩, ⟨some 11, .ld false 1 (.t 10), none, [10]⟩, ⟨some 12, .call 52 [.t 11], none, [11]⟩, ⟨some 13, .fad 2 (.t 2), none, []⟩, ⟨none, .st 1 (.t 13) (.t 12), none, [12, 13]⟩])
  (.seq
   (.seq
    (.region false [] [⟨some 14, .ld true 3 (.t 2), none, []⟩, ⟨some 15, .call 53 [.t 14], none, [14]⟩, ⟨some 16, .un .not (.t 15), none, [15]⟩])
   (.cond (.t 16)
     (.drop [3, 16]
      (.seq
       (.region false [] [⟨some 17, .ld true 3 (.t 2), none, [2]⟩, ⟨none, .st 3 (.t 4) (.t 17), none, [17]⟩, ⟨some 5, .mov (.c (.int .i64 2)), none, []⟩])
      .ret))
     (.drop [16]
      .skip)))
  (.seq
   (.region false [] [⟨some 19, .fad 2 (.t 2), none, []⟩, ⟨some 20, .ld false 1 (.t 19), none, [19]⟩, ⟨some 21, .ld true 3 (.t 3), none, []⟩, ⟨some 22, .call 54 [.t 20, .t 21, .c (.func (.func 55) #[] #[])], none, [20, 21]⟩, ⟨some 18, .mov (.t 22), none, [22]⟩, ⟨some 23, .ext 0 (.t 18), none, []⟩, ⟨some 24, .ext 1 (.t 18), none, [18]⟩, ⟨some 6, .mov (.t 23), none, [23]⟩, ⟨some 7, .mov (.t 24), none, [24]⟩])
  (.seq
   (.block 0
    (.seq
     (.region false [] [⟨some 26, .fad 0 (.t 2), none, []⟩, ⟨some 27, .fad 1 (.t 26), none, [26]⟩, ⟨some 28, .ld false 1 (.t 27), none, [27]⟩, ⟨some 29, .fad 0 (.t 3), none, []⟩, ⟨some 30, .ld false 1 (.t 29), none, [29]⟩, ⟨some 31, .call 44 [.t 28, .t 30], none, [28, 30]⟩, ⟨some 32, .un .not (.t 31), none, [31]⟩, ⟨some 25, .mov (.t 32), none, [32]⟩])
    (.cond (.t 25)
      (.drop [3, 6, 7, 25]
       (.seq
        (.region false [] [⟨some 33, .ld true 3 (.t 2), none, [2]⟩, ⟨none, .st 3 (.t 4) (.t 33), none, [33]⟩, ⟨some 5, .mov (.c (.int .i64 10)), none, []⟩])
       .ret))
      (.drop [25]
       (.seq
        (.region false [] [⟨some 35, .mov (.t 7), none, [7]⟩, ⟨some 34, .mov (.t 35), none, [35]⟩])
       (.cond (.t 34)
         (.drop [3, 6, 34]
          (.seq
           (.region false [] [⟨some 36, .ld true 3 (.t 2), none, [2]⟩, ⟨none, .st 3 (.t 4) (.t 36), none, [36]⟩, ⟨some 5, .mov (.c (.int .i64 9)), none, []⟩])
          .ret))
         (.drop [34]
          .skip)))))))
  (.seq
   (.seq
    (.region false [] [⟨some 38, .fad 0 (.t 2), none, []⟩, ⟨some 39, .ld true 2 (.t 38), none, [38]⟩, ⟨some 40, .fad 1 (.t 3), none, []⟩, ⟨some 41, .ld true 2 (.t 40), none, [40]⟩, ⟨some 42, .call 36 [.t 39, .t 41], none, [39, 41]⟩, ⟨some 37, .mov (.t 42), none, [42]⟩, ⟨some 43, .ext 0 (.t 37), none, []⟩, ⟨some 44, .ext 1 (.t 37), none, [37]⟩, ⟨some 8, .alloc [.int .i64 0, .int .u16 0], none, []⟩, ⟨none, .st 2 (.t 8) (.t 43), none, [8, 43]⟩, ⟨some 9, .mov (.t 44), none, [44]⟩])
   (.seal_ 8
    (.seq
     (.region false [] [⟨some 45, .mov (.t 9), none, []⟩, ⟨some 46, .bin false .neq (.t 45) (.c (.int .i64 0)), none, [45]⟩])
    (.cond (.t 46)
      (.drop [3, 6, 46]
       (.seq
        (.region false [] [⟨some 47, .ld true 3 (.t 2), none, [2]⟩, ⟨some 48, .mov (.t 9), none, [9]⟩, ⟨none, .st 3 (.t 4) (.t 47), none, [47]⟩, ⟨some 5, .mov (.t 48), none, [48]⟩])
       .ret))
      (.drop [9, 46]
       .skip)))))
  (.seq
   (.region false [] [⟨some 49, .fad 2 (.t 2), none, []⟩, ⟨some 50, .ld false 1 (.t 49), none, [49]⟩, ⟨some 51, .mov (.t 6), none, [6]⟩, ⟨some 52, .ld true 3 (.t 3), none, [3]⟩, ⟨some 53, .bsl 73 3 [.t 52], none, [52]⟩, ⟨some 54, .call 56 [.t 50, .t 51, .t 53], none, [50, 51, 53]⟩, ⟨some 55, .fad 2 (.t 2), none, []⟩, ⟨none, .st 1 (.t 55) (.t 54), none, [54, 55]⟩])
  (.seq
   (.region false [] [⟨some 56, .ld true 3 (.t 2), none, [2]⟩, ⟨none, .st 3 (.t 4) (.t 56), none, [56]⟩, ⟨some 5, .mov (.c (.int .i64 0)), none, []⟩])
  .ret)))))))))
def rs_25 : List ARes := [.cell 4 true 3, .tmp 5]
theorem g_25 : Good Try.prog 25 ac_25 rs_25 := ⟨Try.f25, Try.f25.body.getD .skip, by kernel_rfl, by kernel_rfl, by kernel_rfl, ⟨by kernel_rfl, by kernel_rfl⟩, by kernel_rfl, by kernel_rfl⟩
theorem ok_25 {Γ : Env} (hΓ : EnvOk Try.prog Γ) (sp : Spec) (h : WB Γ ac_25 rs_25 sp) : CallOk Try.prog 25 sp := g_25.ok hΓ mix_ok sp h

/-- chantry/chantrylaw12.Theirs -/
def ac_26 : ACode :=
 (.seq
  (.region false [] [⟨some 1, .box (.t 0), none, [0]⟩, ⟨some 2, .alloc [.int .i64 0, .int .u16 0, .slice none 0 0], none, []⟩])
 (.seal_ 1
  (.seq
   (.region false [] [⟨some 6, .fad 0 (.t 1), none, []⟩, ⟨some 7, .ld true 2 (.t 6), none, [6]⟩, ⟨some 8, .bld [.int .i64 0, .int .u16 0, .slice none 0 0] [(0, 2, .t 7)], none, [7]⟩, ⟨some 3, .alloc [.int .i64 0, .int .u16 0, .slice none 0 0], none, []⟩, ⟨none, .st 3 (.t 3) (.t 8), none, [8]⟩])
  (.seq
   (.seq
    (.region false [] [⟨some 9, .fad 2 (.t 1), none, [1]⟩, ⟨some 10, .ld false 1 (.t 9), none, [9]⟩, ⟨some 11, .len false (.t 10), none, []⟩, ⟨some 12, .mov (.c (.int .i64 0)), none, []⟩])
   (.block 0
    (.loop [2, 3, 10, 11, 12]
     (.seq
      (.region false [] [⟨some 13, .bin false .lss (.t 12) (.t 11), none, []⟩])
     (.seq
      (.cond (.t 13)
        (.drop [13]
         .skip)
        (.drop [10, 11, 12, 13]
         (.exit 0)))
     (.seq
      (.block 1
       (.seq
        (.region false [] [⟨some 14, .iax 3 (.t 10) (.t 12), none, []⟩, ⟨some 15, .ld true 3 (.t 14), none, [14]⟩, ⟨some 5, .alloc [.int .u8 0, .bool false, .int .u8 0], none, []⟩, ⟨none, .st 3 (.t 5) (.t 15), none, [15]⟩])
       (.seal_ 5
        (.draws (.tak 0 ⟨some 16, .fad 2 (.t 3), none, []⟩ (.tak 2 ⟨some 18, .ld true 3 (.t 5), none, []⟩ (.alt 1 ⟨some 17, .ld false 1 (.t 16), none, []⟩ (.alt 3 ⟨some 19, .call 27 [.t 18], none, []⟩ (.alt 4 ⟨some 20, .bsl 73 3 [.t 19], none, []⟩ (.alt 5 ⟨some 21, .app 73 3 3 (.t 17) (.t 20), none, []⟩ (.tak 6 ⟨some 22, .fad 2 (.t 3), none, []⟩ (.alt 7 ⟨none, .st 1 (.t 22) (.t 21), none, []⟩ .done .stop)) .stop) .stop) .stop) (.alt 3 ⟨some 19, .call 27 [.t 18], none, []⟩ (.alt 1 ⟨some 17, .ld false 1 (.t 16), none, []⟩ (.alt 4 ⟨some 20, .bsl 73 3 [.t 19], none, []⟩ (.alt 5 ⟨some 21, .app 73 3 3 (.t 17) (.t 20), none, []⟩ (.tak 6 ⟨some 22, .fad 2 (.t 3), none, []⟩ (.alt 7 ⟨none, .st 1 (.t 22) (.t 21), none, []⟩ .done .stop)) .stop) .stop) (.alt 4 ⟨some 20, .bsl 73 3 [.t 19], none, []⟩ (.alt 1 ⟨some 17, .ld false 1 (.t 16), none, []⟩ (.alt 5 ⟨some 21, .app 73 3 3 (.t 17) (.t 20), none, []⟩ (.tak 6 ⟨some 22, .fad 2 (.t 3), none, []⟩ (.alt 7 ⟨none, .st 1 (.t 22) (.t 21), none, []⟩ .done .stop)) .stop) .stop) .stop)) .stop)))) [[], [0], [], [2], [3], [1, 4, 3], [0, 1, 2, 3, 4, 5], [6, 5, 5, 0, 1, 2, 3, 4, 5]] [⟨some 16, .fad 2 (.t 3), none, []⟩, ⟨some 17, .ld false 1 (.t 16), none, []⟩, ⟨some 18, .ld true 3 (.t 5), none, []⟩, ⟨some 19, .call 27 [.t 18], none, []⟩, ⟨some 20, .bsl 73 3 [.t 19], none, []⟩, ⟨some 21, .app 73 3 3 (.t 17) (.t 20), none, []⟩, ⟨some 22, .fad 2 (.t 3), none, []⟩, ⟨none, .st 1 (.t 22) (.t 21), none, []⟩]))))
     (.region false [] [⟨some 23, .bin false .add (.t 12) (.c (.int .i64 1)), none, [12]⟩, ⟨some 12, .mov (.t 23), none, [23]⟩])))))))
  (.seq
   (.region false [] [⟨some 24, .ld true 3 (.t 3), none, [3]⟩, ⟨none, .st 3 (.t 2) (.t 24), none, [24]⟩])
  .ret)))))
def rs_26 : List ARes := [.cell 2 true 3]
theorem g_26 : Good Try.prog 26 ac_26 rs_26 := ⟨Try.f26, Try.f26.body.getD .skip, by kernel_rfl, by kernel_rfl, by kernel_rfl, ⟨by kernel_rfl, by kernel_rfl⟩, by kernel_rfl, by kernel_rfl⟩
theorem ok_26 {Γ : Env} (hΓ : EnvOk Try.prog Γ) (sp : Spec) (h : WB Γ ac_26 rs_26 sp) : CallOk Try.prog 26 sp := g_26.ok hΓ mix_ok sp h

/-- chantry/chantrylaw12.theirs -/
def ac_27 : ACode :=
 (.seq
  (.region false [] [⟨some 1, .box (.t 0), none, [0]⟩, ⟨some 2, .alloc [.int .u8 0, .bool false, .int .u8 0], none, []⟩])
 (.seal_ 1
  (.seq
   (.region false [] [⟨some 3, .fad 0 (.t 1), none, []⟩, ⟨some 4, .ld false 1 (.t 3), none, [3]⟩, ⟨some 5, .fad 1 (.t 1), none, [1]⟩, ⟨some 6, .ld true 2 (.t 5), none, [5]⟩, ⟨some 7, .bld [.int .u8 0, .bool false, .int .u8 0] [(0, 1, .t 4), (1, 2, .t 6)], none, [4, 6]⟩, ⟨none, .st 3 (.t 2) (.t 7), none, [7]⟩])
  .ret)))
def rs_27 : List ARes := [.cell 2 true 3]
theorem g_27 : Good Try.prog 27 ac_27 rs_27 := ⟨Try.f27, Try.f27.body.getD .skip, by kernel_rfl, by kernel_rfl, by kernel_rfl, ⟨by kernel_rfl, by kernel_rfl⟩, by kernel_rfl, by kernel_rfl⟩
theorem ok_27 {Γ : Env} (hΓ : EnvOk Try.prog Γ) (sp : Spec) (h : WB Γ ac_27 rs_27 sp) : CallOk Try.prog 27 sp := g_27.ok hΓ mix_ok sp h

/-- chantry/chantryref12.Put -/
def ac_28 : ACode :=
 (.seq
  (.region false [] [⟨some 2, .box (.t 0), none, [0]⟩, ⟨some 3, .box (.t 1), none, [1]⟩, ⟨some 4, .alloc [.int .i64 0, .int .u16 0, .slice none 0 0], none, []⟩, ⟨some 5, .mov (.c (.int .i64 0)), none, []⟩])
 (.seal_ 3
  (.seq
   (.seq
    (.region false [] [⟨some 11, .ld true 3 (.t 2), none, []⟩, ⟨some 12, .call 57 [.t 11], none, [11]⟩, ⟨some 13, .un .not (.t 12), none, [12]⟩])
   (.cond (.t 13)
     (.drop [3, 13]
      (.seq
       (.region false [] [⟨some 14, .ld true 3 (.t 2), none, [2]⟩, ⟨none, .st 3 (.t 4) (.t 14), none, [14]⟩, ⟨some 5, .mov (.c (.int .i64 2)), none, []⟩])
      .ret))
     (.drop [13]
      .skip)))
  (.seq
   (.seq
    (.region false [] [⟨some 15, .fad 0 (.t 2), none, []⟩, ⟨some 16, .fad 1 (.t 15), none, [15]⟩, ⟨some 17, .ld false 1 (.t 16), none, [16]⟩, ⟨some 18, .fad 0 (.t 3), none, []⟩, ⟨some 19, .ld false 1 (.t 18), none, [18]⟩, ⟨some 20, .call 39 [.t 17, .t 19], none, [17, 19]⟩, ⟨some 21, .un .not (.t 20), none, [20]⟩])
   (.cond (.t 21)
     (.drop [3, 21]
      (.seq
       (.region false [] [⟨some 22, .ld true 3 (.t 2), none, [2]⟩, ⟨none, .st 3 (.t 4) (.t 22), none, [22]⟩, ⟨some 5, .mov (.c (.int .i64 10)), none, []⟩])
      .ret))
     (.drop [21]
      .skip)))
  (.seq
   (.region false [] [⟨some 6, .mov (.c (.slice none 0 0)), none, []⟩])
  (.seq
   (.region false [] [⟨some 7, .mov (.c (.bool false)), none, []⟩])
  (.seq
   (.seq
    (.region false [] [⟨some 8, .mov (.c (.int .i64 0)), none, []⟩])
   (.block 0
    (.loop [2, 3, 4, 6, 7, 8]
     (.seq
      (.seq
       (.region false [] [⟨some 23, .mov (.t 8), none, []⟩, ⟨some 24, .fad 2 (.t 2), none, []⟩, ⟨some 25, .ld false 1 (.t 24), none, [24]⟩, ⟨some 26, .len false (.t 25), none, [25]⟩, ⟨some 27, .bin false .lss (.t 23) (.t 26), none, [23, 26]⟩])
      (.cond (.t 27)
        (.drop [27]
         .skip)
        (.drop [8, 27]
         (.exit 0))))
     (.seq
      (.block 1
       (.seq
        (.seq
         (.draws (.tak 0 ⟨some 30, .fad 2 (.t 2), none, []⟩ (.tak 2 ⟨some 32, .mov (.t 8), none, []⟩ (.tak 6 ⟨some 36, .fad 0 (.t 3), none, []⟩ (.tak 7 ⟨some 37, .ld false 1 (.t 36), none, []⟩ (.alt 1 ⟨some 31, .ld false 1 (.t 30), none, []⟩ (.tak 3 ⟨some 33, .iax 3 (.t 31) (.t 32), none, []⟩ (.tak 4 ⟨some 34, .fad 0 (.t 33), none, []⟩ (.tak 5 ⟨some 35, .ld false 1 (.t 34), none, []⟩ (.tak 8 ⟨some 38, .bin false .eql (.t 35) (.t 37), none, []⟩ .done)))) .stop))))) [[], [0], [], [1, 2], [3], [4], [], [6], [5, 7]] [⟨some 30, .fad 2 (.t 2), none, []⟩, ⟨some 31, .ld false 1 (.t 30), none, []⟩, ⟨some 32, .mov (.t 8), none, []⟩, ⟨some 33, .iax 3 (.t 31) (.t 32), none, []⟩, ⟨some 34, .fad 0 (.t 33), none, []⟩, ⟨some 35, .ld false 1 (.t 34), none, []⟩, ⟨some 36, .fad 0 (.t 3), none, []⟩, ⟨some 37, .ld false 1 (.t 36), none, []⟩, ⟨some 38, .bin false .eql (.t 35) (.t 37), none, []⟩])
        (.drop [30, 31, 32, 33, 34, 35, 36, 37]
         (.cond (.t 38)
           (.drop [3, 6, 7, 8, 38]
            (.seq
             (.region false [] [⟨some 39, .ld true 3 (.t 2), none, [2]⟩, ⟨none, .st 3 (.t 4) (.t 39), none, [39]⟩, ⟨some 5, .mov (.c (.int .i64 9)), none, []⟩])
            .ret))
           (.drop [38]
            .skip))))
       (.seq
        (.seq
         (.draws (.tak 0 ⟨some 40, .mov (.t 7), none, []⟩ (.tak 1 ⟨some 41, .un .not (.t 40), none, []⟩ (.tak 2 ⟨some 42, .mov (.t 41), none, []⟩ (.tak 3 ⟨some 43, .fad 0 (.t 3), some (42, true), []⟩ (.tak 4 ⟨some 44, .ld false 1 (.t 43), some (42, true), []⟩ (.tak 5 ⟨some 45, .fad 2 (.t 2), some (42, true), []⟩ (.tak 7 ⟨some 47, .mov (.t 8), some (42, true), []⟩ (.alt 6 ⟨some 46, .ld false 1 (.t 45), some (42, true), []⟩ (.tak 8 ⟨some 48, .iax 3 (.t 46) (.t 47), some (42, true), []⟩ (.tak 9 ⟨some 49, .fad 0 (.t 48), some (42, true), []⟩ (.tak 10 ⟨some 50, .ld false 1 (.t 49), some (42, true), []⟩ (.tak 11 ⟨some 51, .bin false .lss (.t 44) (.t 50), some (42, true), []⟩ (.tak 12 ⟨some 52, .pick (.t 42) (.t 51) (.c (.bool false)), none, []⟩ .done))))) .stop)))))))) [[], [0], [1], [2], [3, 2], [2], [5, 2], [2], [6, 7, 2], [8, 2], [9, 2], [4, 10, 2], [2, 11]] [⟨some 40, .mov (.t 7), none, []⟩, ⟨some 41, .un .not (.t 40), none, []⟩, ⟨some 42, .mov (.t 41), none, []⟩, ⟨some 43, .fad 0 (.t 3), some (42, true), []⟩, ⟨some 44, .ld false 1 (.t 43), some (42, true), []⟩, ⟨some 45, .fad 2 (.t 2), some (42, true), []⟩, ⟨some 46, .ld false 1 (.t 45), some (42, true), []⟩, ⟨some 47, .mov (.t 8), some (42, true), []⟩, ⟨some 48, .iax 3 (.t 46) (.t 47), some (42, true), []⟩, ⟨some 49, .fad 0 (.t 48), some (42, true), []⟩, ⟨some 50, .ld false 1 (.t 49), some (42, true), []⟩, ⟨some 51, .bin false .lss (.t 44) (.t 50), some (42, true), []⟩, ⟨some 52, .pick (.t 42) (.t 51) (.c (.bool false)), none, []⟩])
        (.drop [40, 41, 42, 43, 44, 45, 46, 47, 48, 49, 50, 51]
         (.cond (.t 52)
           (.drop [7, 52]
            (.seq
             (.region false [] [⟨some 53, .mov (.t 6), none, [6]⟩, ⟨some 54, .ld true 3 (.t 3), none, []⟩, ⟨some 55, .bsl 63 3 [.t 54], none, [54]⟩, ⟨some 56, .app 63 3 3 (.t 53) (.t 55), none, [53, 55]⟩, ⟨some 6, .mov (.t 56), none, [56]⟩])
            (.region false [] [⟨some 7, .mov (.c (.bool true)), none, []⟩])))
           (.drop [52]
            .skip))))
       (.region false [] [⟨some 57, .mov (.t 6), none, [6]⟩, ⟨some 58, .fad 2 (.t 2), none, []⟩, ⟨some 59, .ld false 1 (.t 58), none, [58]⟩, ⟨some 60, .mov (.t 8), none, []⟩, ⟨some 61, .iax 3 (.t 59) (.t 60), none, [59, 60]⟩, ⟨some 62, .ld true 3 (.t 61), none, [61]⟩, ⟨some 63, .bsl 63 3 [.t 62], none, [62]⟩, ⟨some 64, .app 63 3 3 (.t 57) (.t 63), none, [57, 63]⟩, ⟨some 6, .mov (.t 64), none, [64]⟩]))))
     (.region false [] [⟨some 28, .mov (.t 8), none, [8]⟩, ⟨some 29, .bin false .add (.t 28) (.c (.int .i64 1)), none, [28]⟩, ⟨some 8, .mov (.t 29), none, [29]⟩]))))))
  (.seq
   (.seq
    (.region false [] [⟨some 65, .mov (.t 7), none, [7]⟩, ⟨some 66, .un .not (.t 65), none, [65]⟩])
   (.cond (.t 66)
     (.drop [66]
      (.region false [] [⟨some 67, .mov (.t 6), none, [6]⟩, ⟨some 68, .ld true 3 (.t 3), none, []⟩, ⟨some 69, .bsl 63 3 [.t 68], none, [68]⟩, ⟨some 70, .app 63 3 3 (.t 67) (.t 69), none, [67, 69]⟩, ⟨some 6, .mov (.t 70), none, [70]⟩]))
     (.drop [66]
      .skip)))
  (.seq
   (.region false [] [⟨some 72, .fad 0 (.t 2), none, []⟩, ⟨some 73, .ld true 2 (.t 72), none, [72]⟩, ⟨some 74, .fad 1 (.t 3), none, [3]⟩, ⟨some 75, .ld true 2 (.t 74), none, [74]⟩, ⟨some 76, .call 58 [.t 73, .t 75], none, [73, 75]⟩, ⟨some 71, .mov (.t 76), none, [76]⟩, ⟨some 77, .ext 0 (.t 71), none, []⟩, ⟨some 78, .ext 1 (.t 71), none, [71]⟩, ⟨some 9, .alloc [.int .i64 0, .int .u16 0], none, []⟩, ⟨none, .st 2 (.t 9) (.t 77), none, [9, 77]⟩, ⟨some 10, .mov (.t 78), none, [78]⟩])
  (.seal_ 9
   (.seq
    (.seq
     (.region false [] [⟨some 79, .mov (.t 10), none, []⟩, ⟨some 80, .bin false .neq (.t 79) (.c (.int .i64 0)), none, [79]⟩])
    (.cond (.t 80)
      (.drop [6, 80]
       (.seq
        (.region false [] [⟨some 81, .ld true 3 (.t 2), none, [2]⟩, ⟨some 82, .mov (.t 10), none, [10]⟩, ⟨none, .st 3 (.t 4) (.t 81), none, [81]⟩, ⟨some 5, .mov (.t 82), none, [82]⟩])
       .ret))
      (.drop [10, 80]
       .skip)))
   (.seq
    (.region false [] [⟨some 83, .mov (.t 6), none, [6]⟩, ⟨some 84, .fad 2 (.t 2), none, []⟩, ⟨none, .st 1 (.t 84) (.t 83), none, [83, 84]⟩])
   (.seq
    (.region false [] [⟨some 85, .ld true 3 (.t 2), none, [2]⟩, ⟨none, .st 3 (.t 4) (.t 85), none, [85]⟩, ⟨some 5, .mov (.c (.int .i64 0)), none, []⟩])
   .ret)))))))))))))
def rs_28 : List ARes := [.cell 4 true 3, .tmp 5]
theorem g_28 : Good Try.prog 28 ac_28 rs_28 := ⟨Try.f28, Try.f28.body.getD .skip, by kernel_rfl, by kernel_rfl, by kernel_rfl, ⟨by kernel_rfl, by kernel_rfl⟩, by kernel_rfl, by kernel_rfl⟩
theorem ok_28 {Γ : Env} (hΓ : EnvOk Try.prog Γ) (sp : Spec) (h : WB Γ ac_28 rs_28 sp) : CallOk Try.prog 28 sp := g_28.ok hΓ mix_ok sp h

/-- chantry/ballot.Chosen -/
def ac_29 : ACode :=
 (.seq
  (.region false [] [⟨some 1, .box (.t 0), none, [0]⟩, ⟨some 2, .alloc [.bool false, .int .u8 0], none, []⟩, ⟨some 3, .mov (.c (.bool false)), none, []⟩])
 (.seq
  (.region false [] [⟨some 6, .fad 0 (.t 1), none, []⟩, ⟨some 7, .fad 1 (.t 6), none, [6]⟩, ⟨some 8, .ld false 1 (.t 7), none, [7]⟩, ⟨some 9, .call 49 [.t 8], none, [8]⟩, ⟨some 10, .call 59 [.t 9], none, [9]⟩, ⟨some 4, .alloc [.int .i64 0], none, []⟩, ⟨none, .st 1 (.t 4) (.t 10), none, [10]⟩])
 (.seal_ 1
  (.seal_ 4
   (.seq
    (.region false [] [⟨some 11, .fad 2 (.t 1), none, []⟩, ⟨some 12, .ld false 1 (.t 11), none, [11]⟩, ⟨some 13, .mkf 61 [.t 1, .t 4], none, [4]⟩, ⟨some 14, .call 60 [.t 12, .t 13], none, [12, 13]⟩, ⟨some 5, .mov (.t 14), none, [14]⟩])
   (.seq
    (.seq
     (.region false [] [⟨some 15, .mov (.t 5), none, []⟩, ⟨some 16, .bin false .lss (.t 15) (.c (.int .i64 0)), none, [15]⟩])
    (.cond (.t 16)
      (.drop [1, 5, 16]
       (.seq
        (.region false [] [⟨some 17, .bld [.bool false, .int .u8 0] [], none, []⟩, ⟨none, .st 2 (.t 2) (.t 17), none, [17]⟩, ⟨some 3, .mov (.c (.bool false)), none, []⟩])
       .ret))
      (.drop [16]
       .skip)))
   (.seq
    (.region false [] [⟨some 18, .fad 2 (.t 1), none, [1]⟩, ⟨some 19, .ld false 1 (.t 18), none, [18]⟩, ⟨some 20, .mov (.t 5), none, [5]⟩, ⟨some 21, .iax 3 (.t 19) (.t 20), none, [19, 20]⟩, ⟨some 22, .fad 1 (.t 21), none, [21]⟩, ⟨some 23, .ld true 2 (.t 22), none, [22]⟩, ⟨none, .st 2 (.t 2) (.t 23), none, [23]⟩, ⟨some 3, .mov (.c (.bool true)), none, []⟩])
   .ret)))))))
def rs_29 : List ARes := [.cell 2 true 2, .tmp 3]
theorem g_29 : Good Try.prog 29 ac_29 rs_29 := ⟨Try.f29, Try.f29.body.getD .skip, by kernel_rfl, by kernel_rfl, by kernel_rfl, ⟨by kernel_rfl, by kernel_rfl⟩, by kernel_rfl, by kernel_rfl⟩
theorem ok_29 {Γ : Env} (hΓ : EnvOk Try.prog Γ) (sp : Spec) (h : WB Γ ac_29 rs_29 sp) : CallOk Try.prog 29 sp := g_29.ok hΓ mix_ok sp h

/-- chantry/chantryref12.Chosen -/
def ac_30 : ACode :=
 (.seq
  (.region false [] [⟨some 1, .box (.t 0), none, [0]⟩, ⟨some 2, .alloc [.bool false, .int .u8 0], none, []⟩, ⟨some 3, .mov (.c (.bool false)), none, []⟩])
 (.seal_ 1
  (.seq
   (.region false [] [⟨some 7, .fad 0 (.t 1), none, []⟩, ⟨some 8, .fad 1 (.t 7), none, [7]⟩, ⟨some 9, .ld false 1 (.t 8), none, [8]⟩, ⟨some 10, .call 35 [.t 9], none, [9]⟩, ⟨some 4, .mov (.t 10), none, [10]⟩])
  (.seq
   (.seq
    (.region false [] [⟨some 5, .mov (.c (.int .i64 0)), none, []⟩])
   (.block 0
    (.loop [1, 2, 4, 5]
     (.seq
      (.seq
       (.region false [] [⟨some 11, .mov (.t 5), none, []⟩, ⟨some 12, .fad 2 (.t 1), none, []⟩, ⟨some 13, .ld false 1 (.t 12), none, [12]⟩, ⟨some 14, .len false (.t 13), none, [13]⟩, ⟨some 15, .bin false .lss (.t 11) (.t 14), none, [11, 14]⟩, ⟨some 16, .mov (.t 15), none, [15]⟩, ⟨some 17, .ld true 3 (.t 1), some (16, true), []⟩, ⟨some 18, .call 57 [.t 17], some (16, true), [17]⟩, ⟨some 19, .pick (.t 16) (.t 18) (.c (.bool false)), none, [16, 18]⟩])
      (.cond (.t 19)
        (.drop [19]
         .skip)
        (.drop [1, 4, 5, 19]
         (.exit 0))))
     (.seq
      (.block 1
       (.seq
        (.region false [] [⟨some 22, .fad 2 (.t 1), none, []⟩, ⟨some 23, .ld false 1 (.t 22), none, [22]⟩, ⟨some 24, .mov (.t 5), none, []⟩, ⟨some 25, .iax 3 (.t 23) (.t 24), none, [23, 24]⟩, ⟨some 26, .fad 1 (.t 25), none, [25]⟩, ⟨some 27, .ld true 2 (.t 26), none, [26]⟩, ⟨some 6, .alloc [.bool false, .int .u8 0], none, []⟩, ⟨none, .st 2 (.t 6) (.t 27), none, [27]⟩])
       (.seal_ 6
        (.seq
         (.region false [] [⟨some 28, .ld true 3 (.t 1), none, []⟩, ⟨some 29, .ld true 2 (.t 6), none, []⟩, ⟨some 30, .call 34 [.t 28, .t 29], none, [28, 29]⟩, ⟨some 31, .call 35 [.t 30], none, [30]⟩, ⟨some 32, .mov (.t 4), none, []⟩, ⟨some 33, .call 37 [.t 32], none, [32]⟩, ⟨some 34, .bin false .geq (.t 31) (.t 33), none, [31, 33]⟩])
        (.cond (.t 34)
          (.drop [1, 4, 5, 34]
           (.seq
            (.region false [] [⟨some 35, .ld true 2 (.t 6), none, [6]⟩, ⟨none, .st 2 (.t 2) (.t 35), none, [35]⟩, ⟨some 3, .mov (.c (.bool true)), none, []⟩])
           .ret))
          (.drop [6, 34]
           .skip))))))
     (.region false [] [⟨some 20, .mov (.t 5), none, [5]⟩, ⟨some 21, .bin false .add (.t 20) (.c (.int .i64 1)), none, [20]⟩, ⟨some 5, .mov (.t 21), none, [21]⟩]))))))
  (.seq
   (.region false [] [⟨some 36, .bld [.bool false, .int .u8 0] [], none, []⟩, ⟨none, .st 2 (.t 2) (.t 36), none, [36]⟩, ⟨some 3, .mov (.c (.bool false)), none, []⟩])
  .ret)))))
def rs_30 : List ARes := [.cell 2 true 2, .tmp 3]
theorem g_30 : Good Try.prog 30 ac_30 rs_30 := ⟨Try.f30, Try.f30.body.getD .skip, by kernel_rfl, by kernel_rfl, by kernel_rfl, ⟨by kernel_rfl, by kernel_rfl⟩, by kernel_rfl, by kernel_rfl⟩
theorem ok_30 {Γ : Env} (hΓ : EnvOk Try.prog Γ) (sp : Spec) (h : WB Γ ac_30 rs_30 sp) : CallOk Try.prog 30 sp := g_30.ok hΓ mix_ok sp h

/-- chantry/chantryref12.Same -/
def ac_31 : ACode :=
 (.seq
  (.region false [] [⟨some 2, .box (.t 0), none, [0]⟩, ⟨some 3, .box (.t 1), none, [1]⟩, ⟨some 4, .mov (.c (.bool false)), none, []⟩])
 (.seal_ 3
  (.seal_ 2
   (.seq
    (.seq
     (.region false [] [⟨some 6, .fad 0 (.t 2), none, []⟩, ⟨some 7, .ld true 2 (.t 6), none, [6]⟩, ⟨some 8, .fad 0 (.t 3), none, []⟩, ⟨some 9, .ld true 2 (.t 8), none, [8]⟩, ⟨some 10, .eqs true [.i, .i] (.t 7) (.t 9), none, [7, 9]⟩, ⟨some 11, .mov (.t 10), none, [10]⟩, ⟨some 12, .fad 2 (.t 2), some (11, false), []⟩, ⟨some 13, .ld false 1 (.t 12), some (11, false), [12]⟩, ⟨some 14, .len false (.t 13), some (11, false), [13]⟩, ⟨some 15, .fad 2 (.t 3), some (11, false), []⟩, ⟨some 16, .ld false 1 (.t 15), some (11, false), [15]⟩, ⟨some 17, .len false (.t 16), some (11, false), [16]⟩, ⟨some 18, .bin false .neq (.t 14) (.t 17), some (11, false), [14, 17]⟩, ⟨some 19, .pick (.t 11) (.c (.bool true)) (.t 18), none, [11, 18]⟩])
    (.cond (.t 19)
      (.drop [2, 3, 19]
       (.seq
        (.region false [] [⟨some 4, .mov (.c (.bool false)), none, []⟩])
       .ret))
      (.drop [19]
       .skip)))
   (.seq
    (.seq
     (.region false [] [⟨some 5, .mov (.c (.int .i64 0)), none, []⟩])
    (.block 0
     (.loop [2, 3, 5]
      (.seq
       (.seq
        (.region false [] [⟨some 20, .mov (.t 5), none, []⟩, ⟨some 21, .fad 2 (.t 2), none, []⟩, ⟨some 22, .ld false 1 (.t 21), none, [21]⟩, ⟨some 23, .len false (.t 22), none, [22]⟩, ⟨some 24, .bin false .lss (.t 20) (.t 23), none, [20, 23]⟩])
       (.cond (.t 24)
         (.drop [24]
          .skip)
         (.drop [2, 3, 5, 24]
          (.exit 0))))
      (.seq
       (.block 1
        (.seq
         (.draws (.tak 0 ⟨some 27, .fad 2 (.t 2), none, []⟩ (.tak 1 ⟨some 28, .ld false 1 (.t 27), none, []⟩ (.tak 2 ⟨some 29, .mov (.t 5), none, []⟩ (.tak 3 ⟨some 30, .iax 3 (.t 28) (.t 29), none, []⟩ (.tak 4 ⟨some 31, .ld true 3 (.t 30), none, []⟩ (.tak 5 ⟨some 32, .fad 2 (.t 3), none, []⟩ (.tak 6 ⟨some 33, .ld false 1 (.t 32), none, []⟩ (.tak 7 ⟨some 34, .mov (.t 5), none, []⟩ (.tak 8 ⟨some 35, .iax 3 (.t 33) (.t 34), none, []⟩ (.tak 9 ⟨some 36, .ld true 3 (.t 35), none, []⟩ (.tak 10 ⟨some 37, .eqs true [.i, .b, .i] (.t 31) (.t 36), none, []⟩ .done))))))))))) [[], [0], [], [1, 2], [3], [], [5], [], [6, 7], [8], [4, 9]] [⟨some 27, .fad 2 (.t 2), none, []⟩, ⟨some 28, .ld false 1 (.t 27), none, []⟩, ⟨some 29, .mov (.t 5), none, []⟩, ⟨some 30, .iax 3 (.t 28) (.t 29), none, []⟩, ⟨some 31, .ld true 3 (.t 30), none, []⟩, ⟨some 32, .fad 2 (.t 3), none, []⟩, ⟨some 33, .ld false 1 (.t 32), none, []⟩, ⟨some 34, .mov (.t 5), none, []⟩, ⟨some 35, .iax 3 (.t 33) (.t 34), none, []⟩, ⟨some 36, .ld true 3 (.t 35), none, []⟩, ⟨some 37, .eqs true [.i, .b, .i] (.t 31) (.t 36), none, []⟩])
        (.drop [27, 28, 29, 30, 31, 32, 33, 34, 35, 36]
         (.cond (.t 37)
           (.drop [2, 3, 5, 37]
            (.seq
             (.region false [] [⟨some 4, .mov (.c (.bool false)), none, []⟩])
            .ret))
           (.drop [37]
            .skip)))))
      (.region false [] [⟨some 25, .mov (.t 5), none, [5]⟩, ⟨some 26, .bin false .add (.t 25) (.c (.int .i64 1)), none, [25]⟩, ⟨some 5, .mov (.t 26), none, [26]⟩]))))))
   (.seq
    (.region false [] [⟨some 4, .mov (.c (.bool true)), none, []⟩])
   .ret))))))
def rs_31 : List ARes := [.tmp 4]
theorem g_31 : Good Try.prog 31 ac_31 rs_31 := ⟨Try.f31, Try.f31.body.getD .skip, by kernel_rfl, by kernel_rfl, by kernel_rfl, ⟨by kernel_rfl, by kernel_rfl⟩, by kernel_rfl, by kernel_rfl⟩
theorem ok_31 {Γ : Env} (hΓ : EnvOk Try.prog Γ) (sp : Spec) (h : WB Γ ac_31 rs_31 sp) : CallOk Try.prog 31 sp := g_31.ok hΓ mix_ok sp h

/-- chantry/chantrylaw12.Ours -/
def ac_32 : ACode :=
 (.seq
  (.region false [] [⟨some 1, .box (.t 0), none, [0]⟩, ⟨some 2, .alloc [.int .i64 0, .int .u16 0, .slice none 0 0], none, []⟩])
 (.seal_ 1
  (.seq
   (.region false [] [⟨some 6, .fad 0 (.t 1), none, []⟩, ⟨some 7, .ld true 2 (.t 6), none, [6]⟩, ⟨some 8, .bld [.int .i64 0, .int .u16 0, .slice none 0 0] [(0, 2, .t 7)], none, [7]⟩, ⟨some 3, .alloc [.int .i64 0, .int .u16 0, .slice none 0 0], none, []⟩, ⟨none, .st 3 (.t 3) (.t 8), none, [8]⟩])
  (.seq
   (.seq
    (.region false [] [⟨some 9, .fad 2 (.t 1), none, [1]⟩, ⟨some 10, .ld false 1 (.t 9), none, [9]⟩, ⟨some 11, .len false (.t 10), none, []⟩, ⟨some 12, .mov (.c (.int .i64 0)), none, []⟩])
   (.block 0
    (.loop [2, 3, 10, 11, 12]
     (.seq
      (.region false [] [⟨some 13, .bin false .lss (.t 12) (.t 11), none, []⟩])
     (.seq
      (.cond (.t 13)
        (.drop [13]
         .skip)
        (.drop [10, 11, 12, 13]
         (.exit 0)))
     (.seq
      (.block 1
       (.seq
        (.region false [] [⟨some 14, .iax 3 (.t 10) (.t 12), none, []⟩, ⟨some 15, .ld true 3 (.t 14), none, [14]⟩, ⟨some 5, .alloc [.int .u8 0, .bool false, .int .u8 0], none, []⟩, ⟨none, .st 3 (.t 5) (.t 15), none, [15]⟩])
       (.seal_ 5
        (.region false [] [⟨some 16, .fad 2 (.t 3), none, []⟩, ⟨some 17, .ld false 1 (.t 16), none, [16]⟩, ⟨some 18, .fad 0 (.t 5), none, []⟩, ⟨some 19, .ld false 1 (.t 18), none, [18]⟩, ⟨some 20, .fad 1 (.t 5), none, [5]⟩, ⟨some 21, .ld true 2 (.t 20), none, [20]⟩, ⟨some 22, .bld [.int .u8 0, .bool false, .int .u8 0] [(0, 1, .t 19), (1, 2, .t 21)], none, [19, 21]⟩, ⟨some 23, .bsl 63 3 [.t 22], none, [22]⟩, ⟨some 24, .app 63 3 3 (.t 17) (.t 23), none, [17, 23]⟩, ⟨some 25, .fad 2 (.t 3), none, []⟩, ⟨none, .st 1 (.t 25) (.t 24), none, [24, 25]⟩]))))
     (.region false [] [⟨some 26, .bin false .add (.t 12) (.c (.int .i64 1)), none, [12]⟩, ⟨some 12, .mov (.t 26), none, [26]⟩])))))))
  (.seq
   (.region false [] [⟨some 27, .ld true 3 (.t 3), none, [3]⟩, ⟨none, .st 3 (.t 2) (.t 27), none, [27]⟩])
  .ret)))))
def rs_32 : List ARes := [.cell 2 true 3]
theorem g_32 : Good Try.prog 32 ac_32 rs_32 := ⟨Try.f32, Try.f32.body.getD .skip, by kernel_rfl, by kernel_rfl, by kernel_rfl, ⟨by kernel_rfl, by kernel_rfl⟩, by kernel_rfl, by kernel_rfl⟩
theorem ok_32 {Γ : Env} (hΓ : EnvOk Try.prog Γ) (sp : Spec) (h : WB Γ ac_32 rs_32 sp) : CallOk Try.prog 32 sp := g_32.ok hΓ mix_ok sp h

/-- chantry/ballot.For -/
def ac_33 : ACode :=
 (.seq
  (.region false [] [⟨some 2, .box (.t 0), none, [0]⟩, ⟨some 3, .box (.t 1), none, [1]⟩, ⟨some 4, .mov (.c (.int .u16 0)), none, []⟩])
 (.seal_ 3
  (.seal_ 2
   (.seq
    (.region false [] [⟨some 5, .mov (.c (.int .u16 0)), none, []⟩])
   (.seq
    (.seq
     (.region false [] [⟨some 8, .ld true 3 (.t 2), none, []⟩, ⟨some 9, .call 53 [.t 8], none, [8]⟩, ⟨some 10, .un .not (.t 9), none, [9]⟩])
    (.cond (.t 10)
      (.drop [2, 3, 5, 10]
       (.seq
        (.region false [] [⟨some 4, .mov (.c (.int .u16 0)), none, []⟩])
       .ret))
      (.drop [10]
       .skip)))
   (.seq
    (.seq
     (.region false [] [⟨some 11, .fad 2 (.t 2), none, [2]⟩, ⟨some 12, .ld false 1 (.t 11), none, [11]⟩, ⟨some 13, .len false (.t 12), none, []⟩, ⟨some 14, .mov (.c (.int .i64 0)), none, []⟩])
    (.block 0
     (.loop [3, 5, 12, 13, 14]
      (.seq
       (.region false [] [⟨some 15, .bin false .lss (.t 14) (.t 13), none, []⟩])
      (.seq
       (.cond (.t 15)
         (.drop [15]
          .skip)
         (.drop [3, 12, 13, 14, 15]
          (.exit 0)))
      (.seq
       (.block 1
        (.seq
         (.region false [] [⟨some 16, .iax 3 (.t 12) (.t 14), none, []⟩, ⟨some 17, .ld true 3 (.t 16), none, [16]⟩, ⟨some 7, .alloc [.int .u8 0, .bool false, .int .u8 0], none, []⟩, ⟨none, .st 3 (.t 7) (.t 17), none, [17]⟩])
        (.seal_ 7
         (.seq
          (.region false [] [⟨some 18, .fad 1 (.t 7), none, []⟩, ⟨some 19, .ld true 2 (.t 18), none, [18]⟩, ⟨some 20, .ld true 2 (.t 3), none, []⟩, ⟨some 21, .eqs false [.b, .i] (.t 19) (.t 20), none, [19, 20]⟩])
         (.cond (.t 21)
           (.drop [21]
            (.region false [] [⟨some 22, .mov (.t 5), none, [5]⟩, ⟨some 23, .fad 0 (.t 7), none, [7]⟩, ⟨some 24, .ld false 1 (.t 23), none, [23]⟩, ⟨some 25, .call 62 [.t 22, .t 24], none, [22, 24]⟩, ⟨some 5, .mov (.t 25), none, [25]⟩]))
           (.drop [7, 21]
            .skip))))))
      (.region false [] [⟨some 26, .bin false .add (.t 14) (.c (.int .i64 1)), none, [14]⟩, ⟨some 14, .mov (.t 26), none, [26]⟩])))))))
   (.seq
    (.region false [] [⟨some 27, .mov (.t 5), none, [5]⟩, ⟨some 4, .mov (.t 27), none, [27]⟩])
   .ret)))))))
def rs_33 : List ARes := [.tmp 4]
theorem g_33 : Good Try.prog 33 ac_33 rs_33 := ⟨Try.f33, Try.f33.body.getD .skip, by kernel_rfl, by kernel_rfl, by kernel_rfl, ⟨by kernel_rfl, by kernel_rfl⟩, by kernel_rfl, by kernel_rfl⟩
theorem ok_33 {Γ : Env} (hΓ : EnvOk Try.prog Γ) (sp : Spec) (h : WB Γ ac_33 rs_33 sp) : CallOk Try.prog 33 sp := g_33.ok hΓ mix_ok sp h

/-- chantry/chantryref12.For -/
def ac_34 : ACode :=
 (.seq
  (.region false [] [⟨some 2, .box (.t 0), none, [0]⟩, ⟨some 3, .box (.t 1), none, [1]⟩, ⟨some 4, .mov (.c (.int .u16 0)), none, []⟩])
 (.seal_ 3
  (.seal_ 2
   (.seq
    (.region false [] [⟨some 5, .mov (.c (.int .u16 0)), none, []⟩])
   (.seq
    (.seq
     (.region false [] [⟨some 7, .ld true 3 (.t 2), none, []⟩, ⟨some 8, .call 57 [.t 7], none, [7]⟩, ⟨some 9, .un .not (.t 8), none, [8]⟩])
    (.cond (.t 9)
      (.drop [2, 3, 9]
       (.seq
        (.region false [] [⟨some 10, .mov (.t 5), none, [5]⟩, ⟨some 4, .mov (.t 10), none, [10]⟩])
       .ret))
      (.drop [9]
       .skip)))
   (.seq
    (.seq
     (.region false [] [⟨some 6, .mov (.c (.int .i64 0)), none, []⟩])
    (.block 0
     (.loop [2, 3, 5, 6]
      (.seq
       (.seq
        (.region false [] [⟨some 11, .mov (.t 6), none, []⟩, ⟨some 12, .fad 2 (.t 2), none, []⟩, ⟨some 13, .ld false 1 (.t 12), none, [12]⟩, ⟨some 14, .len false (.t 13), none, [13]⟩, ⟨some 15, .bin false .lss (.t 11) (.t 14), none, [11, 14]⟩])
       (.cond (.t 15)
         (.drop [15]
          .skip)
         (.drop [2, 3, 6, 15]
          (.exit 0))))
      (.seq
       (.block 1
        (.seq
         (.draws (.tak 0 ⟨some 18, .fad 2 (.t 2), none, []⟩ (.tak 1 ⟨some 19, .ld false 1 (.t 18), none, []⟩ (.tak 2 ⟨some 20, .mov (.t 6), none, []⟩ (.tak 3 ⟨some 21, .iax 3 (.t 19) (.t 20), none, []⟩ (.tak 4 ⟨some 22, .fad 1 (.t 21), none, []⟩ (.tak 5 ⟨some 23, .ld true 2 (.t 22), none, []⟩ (.tak 6 ⟨some 24, .ld true 2 (.t 3), none, []⟩ (.tak 7 ⟨some 25, .eqs false [.b, .i] (.t 23) (.t 24), none, []⟩ .done)))))))) [[], [0], [], [1, 2], [3], [4], [], [5, 6]] [⟨some 18, .fad 2 (.t 2), none, []⟩, ⟨some 19, .ld false 1 (.t 18), none, []⟩, ⟨some 20, .mov (.t 6), none, []⟩, ⟨some 21, .iax 3 (.t 19) (.t 20), none, []⟩, ⟨some 22, .fad 1 (.t 21), none, []⟩, ⟨some 23, .ld true 2 (.t 22), none, []⟩, ⟨some 24, .ld true 2 (.t 3), none, []⟩, ⟨some 25, .eqs false [.b, .i] (.t 23) (.t 24), none, []⟩])
        (.drop [18, 19, 20, 21, 22, 23, 24]
         (.cond (.t 25)
           (.drop [25]
            (.region false [] [⟨some 26, .mov (.t 5), none, [5]⟩, ⟨some 27, .fad 2 (.t 2), none, []⟩, ⟨some 28, .ld false 1 (.t 27), none, [27]⟩, ⟨some 29, .mov (.t 6), none, []⟩, ⟨some 30, .iax 3 (.t 28) (.t 29), none, [28, 29]⟩, ⟨some 31, .fad 0 (.t 30), none, [30]⟩, ⟨some 32, .ld false 1 (.t 31), none, [31]⟩, ⟨some 33, .call 63 [.t 26, .t 32], none, [26, 32]⟩, ⟨some 5, .mov (.t 33), none, [33]⟩]))
           (.drop [25]
            .skip)))))
      (.region false [] [⟨some 16, .mov (.t 6), none, [6]⟩, ⟨some 17, .bin false .add (.t 16) (.c (.int .i64 1)), none, [16]⟩, ⟨some 6, .mov (.t 17), none, [17]⟩]))))))
   (.seq
    (.region false [] [⟨some 34, .mov (.t 5), none, [5]⟩, ⟨some 4, .mov (.t 34), none, [34]⟩])
   .ret)))))))
def rs_34 : List ARes := [.tmp 4]
theorem g_34 : Good Try.prog 34 ac_34 rs_34 := ⟨Try.f34, Try.f34.body.getD .skip, by kernel_rfl, by kernel_rfl, by kernel_rfl, ⟨by kernel_rfl, by kernel_rfl⟩, by kernel_rfl, by kernel_rfl⟩
theorem ok_34 {Γ : Env} (hΓ : EnvOk Try.prog Γ) (sp : Spec) (h : WB Γ ac_34 rs_34 sp) : CallOk Try.prog 34 sp := g_34.ok hΓ mix_ok sp h

/-- chantry/chantryref05.Size -/
def ac_35 : ACode :=
 (.seq
  (.region false [] [⟨some 2, .mov (.c (.int .i64 0)), none, []⟩])
 (.seq
  (.region false [] [⟨some 3, .mov (.t 0), none, [0]⟩, ⟨some 4, .call 64 [.t 3], none, [3]⟩, ⟨some 5, .len false (.t 4), none, [4]⟩, ⟨some 2, .mov (.t 5), none, [5]⟩])
 .ret))
def rs_35 : List ARes := [.tmp 2]
theorem g_35 : Good Try.prog 35 ac_35 rs_35 := ⟨Try.f35, Try.f35.body.getD .skip, by kernel_rfl, by kernel_rfl, by kernel_rfl, ⟨by kernel_rfl, by kernel_rfl⟩, by kernel_rfl, by kernel_rfl⟩
theorem ok_35 {Γ : Env} (hΓ : EnvOk Try.prog Γ) (sp : Spec) (h : WB Γ ac_35 rs_35 sp) : CallOk Try.prog 35 sp := g_35.ok hΓ mix_ok sp h

/-- chantry/roll.Apply -/
def ac_36 : ACode :=
 (.seq
  (.region false [] [⟨some 2, .box (.t 0), none, [0]⟩, ⟨some 3, .box (.t 1), none, [1]⟩, ⟨some 4, .alloc [.int .i64 0, .int .u16 0], none, []⟩, ⟨some 5, .mov (.c (.int .i64 0)), none, []⟩])
 (.seal_ 3
  (.seal_ 2
   (.seq
    (.region false [] [⟨some 8, .fad 1 (.t 2), none, []⟩, ⟨some 9, .ld false 1 (.t 8), none, [8]⟩, ⟨some 10, .fad 1 (.t 3), none, []⟩, ⟨some 11, .ld false 1 (.t 10), none, [10]⟩, ⟨some 12, .call 44 [.t 9, .t 11], none, [9, 11]⟩, ⟨some 6, .mov (.t 12), none, [12]⟩])
   (.seq
    (.block 0
     (.seq
      (.region false [] [⟨some 14, .ld true 2 (.t 2), none, []⟩, ⟨some 15, .call 65 [.t 14], none, [14]⟩, ⟨some 16, .un .not (.t 15), none, [15]⟩, ⟨some 17, .mov (.t 16), none, [16]⟩, ⟨some 18, .fad 1 (.t 3), some (17, false), []⟩, ⟨some 19, .ld false 1 (.t 18), some (17, false), [18]⟩, ⟨some 20, .bin false .geq (.t 19) (.c (.int .u8 16)), some (17, false), [19]⟩, ⟨some 21, .pick (.t 17) (.c (.bool true)) (.t 20), none, [17, 20]⟩, ⟨some 13, .mov (.t 21), none, [21]⟩])
     (.cond (.t 13)
       (.drop [2, 3, 6, 13]
        (.seq
         (.region false [] [⟨some 22, .bld [.int .i64 0, .int .u16 0] [], none, []⟩, ⟨none, .st 2 (.t 4) (.t 22), none, [22]⟩, ⟨some 5, .mov (.c (.int .i64 2)), none, []⟩])
        .ret))
       (.drop [13]
        (.seq
         (.region false [] [⟨some 24, .fad 0 (.t 3), none, []⟩, ⟨some 25, .ld false 1 (.t 24), none, [24]⟩, ⟨some 26, .mov (.t 25), none, [25]⟩, ⟨some 27, .mov (.t 6), some (26, true), []⟩, ⟨some 28, .pick (.t 26) (.t 27) (.c (.bool false)), none, [26, 27]⟩, ⟨some 23, .mov (.t 28), none, [28]⟩])
        (.cond (.t 23)
          (.drop [2, 3, 6, 23]
           (.seq
            (.region false [] [⟨some 29, .bld [.int .i64 0, .int .u16 0] [], none, []⟩, ⟨none, .st 2 (.t 4) (.t 29), none, [29]⟩, ⟨some 5, .mov (.c (.int .i64 9)), none, []⟩])
           .ret))
          (.drop [23]
           (.seq
            (.region false [] [⟨some 31, .fad 0 (.t 3), none, []⟩, ⟨some 32, .ld false 1 (.t 31), none, [31]⟩, ⟨some 33, .un .not (.t 32), none, [32]⟩, ⟨some 34, .mov (.t 33), none, [33]⟩, ⟨some 35, .mov (.t 6), some (34, true), [6]⟩, ⟨some 36, .un .not (.t 35), some (34, true), [35]⟩, ⟨some 37, .pick (.t 34) (.t 36) (.c (.bool false)), none, [34, 36]⟩, ⟨some 30, .mov (.t 37), none, [37]⟩])
           (.cond (.t 30)
             (.drop [2, 3, 30]
              (.seq
               (.region false [] [⟨some 38, .bld [.int .i64 0, .int .u16 0] [], none, []⟩, ⟨none, .st 2 (.t 4) (.t 38), none, [38]⟩, ⟨some 5, .mov (.c (.int .i64 8)), none, []⟩])
              .ret))
             (.drop [30]
              (.seq
               (.region false [] [⟨some 40, .fad 0 (.t 2), none, []⟩, ⟨some 41, .ld false 1 (.t 40), none, [40]⟩, ⟨some 42, .bin false .eql (.t 41) (.c (.int .i64 1000)), none, [41]⟩, ⟨some 39, .mov (.t 42), none, [42]⟩])
              (.cond (.t 39)
                (.drop [2, 3, 39]
                 (.seq
                  (.region false [] [⟨some 43, .bld [.int .i64 0, .int .u16 0] [], none, []⟩, ⟨none, .st 2 (.t 4) (.t 43), none, [43]⟩, ⟨some 5, .mov (.c (.int .i64 11)), none, []⟩])
                 .ret))
                (.drop [39]
                 .skip)))))))))))))
   (.seq
    (.draws (.tak 0 ⟨some 44, .fad 0 (.t 2), none, []⟩ (.tak 1 ⟨some 45, .ld false 1 (.t 44), none, []⟩ (.tak 2 ⟨some 46, .bin false .add (.t 45) (.c (.int .i64 1)), none, []⟩ (.tak 3 ⟨some 47, .fad 1 (.t 2), none, []⟩ (.tak 4 ⟨some 48, .ld false 1 (.t 47), none, []⟩ (.tak 5 ⟨some 49, .fad 1 (.t 3), none, []⟩ (.tak 6 ⟨some 50, .ld false 1 (.t 49), none, []⟩ (.alt 7 ⟨some 51, .call 66 [.t 48, .t 50], none, []⟩ (.tak 8 ⟨some 52, .bld [.int .i64 0, .int .u16 0] [(0, 1, .t 46), (1, 1, .t 51)], none, []⟩ (.alt 9 ⟨some 7, .alloc [.int .i64 0, .int .u16 0], none, []⟩ (.alt 10 ⟨none, .st 2 (.t 7) (.t 52), none, []⟩ .done .stop) .stop)) (.alt 9 ⟨some 7, .alloc [.int .i64 0, .int .u16 0], none, []⟩ (.alt 7 ⟨some 51, .call 66 [.t 48, .t 50], none, []⟩ (.tak 8 ⟨some 52, .bld [.int .i64 0, .int .u16 0] [(0, 1, .t 46), (1, 1, .t 51)], none, []⟩ (.alt 10 ⟨none, .st 2 (.t 7) (.t 52), none, []⟩ .done .stop)) .stop) .stop))))))))) [[], [0], [1], [], [3], [], [5], [4, 6], [2, 7], [], [9, 8, 7, 0, 1, 2, 3, 4, 5, 6, 7, 8, 9]] [⟨some 44, .fad 0 (.t 2), none, []⟩, ⟨some 45, .ld false 1 (.t 44), none, []⟩, ⟨some 46, .bin false .add (.t 45) (.c (.int .i64 1)), none, []⟩, ⟨some 47, .fad 1 (.t 2), none, []⟩, ⟨some 48, .ld false 1 (.t 47), none, []⟩, ⟨some 49, .fad 1 (.t 3), none, []⟩, ⟨some 50, .ld false 1 (.t 49), none, []⟩, ⟨some 51, .call 66 [.t 48, .t 50], none, []⟩, ⟨some 52, .bld [.int .i64 0, .int .u16 0] [(0, 1, .t 46), (1, 1, .t 51)], none, []⟩, ⟨some 7, .alloc [.int .i64 0, .int .u16 0], none, []⟩, ⟨none, .st 2 (.t 7) (.t 52), none, []⟩])
   (.drop [44, 45, 46, 47, 48, 49, 50, 51, 52]
    (.seq
     (.seq
      (.region false [] [⟨some 53, .fad 0 (.t 3), none, []⟩, ⟨some 54, .ld false 1 (.t 53), none, [53]⟩])
     (.cond (.t 54)
       (.drop [54]
        (.region false [] [⟨some 55, .fad 1 (.t 2), none, [2]⟩, ⟨some 56, .ld false 1 (.t 55), none, [55]⟩, ⟨some 57, .fad 1 (.t 3), none, [3]⟩, ⟨some 58, .ld false 1 (.t 57), none, [57]⟩, ⟨some 59, .call 62 [.t 56, .t 58], none, [56, 58]⟩, ⟨some 60, .fad 1 (.t 7), none, []⟩, ⟨none, .st 1 (.t 60) (.t 59), none, [59, 60]⟩]))
       (.drop [2, 3, 54]
        .skip)))
    (.seq
     (.seq
      (.region false [] [⟨some 61, .fad 1 (.t 7), none, []⟩, ⟨some 62, .ld false 1 (.t 61), none, [61]⟩, ⟨some 63, .bin false .eql (.t 62) (.c (.int .u16 0)), none, [62]⟩])
     (.cond (.t 63)
       (.drop [7, 63]
        (.seq
         (.region false [] [⟨some 64, .bld [.int .i64 0, .int .u16 0] [], none, []⟩, ⟨none, .st 2 (.t 4) (.t 64), none, [64]⟩, ⟨some 5, .mov (.c (.int .i64 10)), none, []⟩])
        .ret))
       (.drop [63]
        .skip)))
    (.seq
     (.region false [] [⟨some 65, .ld true 2 (.t 7), none, [7]⟩, ⟨none, .st 2 (.t 4) (.t 65), none, [65]⟩, ⟨some 5, .mov (.c (.int .i64 0)), none, []⟩])
    .ret))))))))))
def rs_36 : List ARes := [.cell 4 true 2, .tmp 5]
theorem g_36 : Good Try.prog 36 ac_36 rs_36 := ⟨Try.f36, Try.f36.body.getD .skip, by kernel_rfl, by kernel_rfl, by kernel_rfl, ⟨by kernel_rfl, by kernel_rfl⟩, by kernel_rfl, by kernel_rfl⟩
theorem ok_36 {Γ : Env} (hΓ : EnvOk Try.prog Γ) (sp : Spec) (h : WB Γ ac_36 rs_36 sp) : CallOk Try.prog 36 sp := g_36.ok hΓ mix_ok sp h

/-- chantry/chantryref05.Echoes -/
def ac_37 : ACode :=
 (.seq
  (.region false [] [⟨some 2, .mov (.c (.int .i64 0)), none, []⟩])
 (.seq
  (.region false [] [⟨some 5, .mov (.t 0), none, []⟩, ⟨some 6, .call 67 [.t 5], none, [5]⟩, ⟨some 7, .mov (.t 0), none, [0]⟩, ⟨some 8, .call 38 [.t 7], none, [7]⟩, ⟨some 9, .bin false .add (.t 6) (.t 8), none, [6, 8]⟩, ⟨some 3, .mov (.t 9), none, [9]⟩])
 (.seq
  (.region false [] [⟨some 4, .mov (.c (.int .i64 0)), none, []⟩])
 (.seq
  (.block 0
   (.loop [3, 4]
    (.seq
     (.seq
      (.region false [] [⟨some 10, .mov (.t 4), none, []⟩, ⟨some 11, .bin false .mul (.c (.int .i64 2)) (.t 10), none, [10]⟩, ⟨some 12, .mov (.t 3), none, []⟩, ⟨some 13, .bin false .leq (.t 11) (.t 12), none, [11, 12]⟩])
     (.cond (.t 13)
       (.drop [13]
        .skip)
       (.drop [3, 13]
        (.exit 0))))
    (.block 1
     (.region false [] [⟨some 14, .mov (.t 4), none, [4]⟩, ⟨some 15, .bin false .add (.t 14) (.c (.int .i64 1)), none, [14]⟩, ⟨some 4, .mov (.t 15), none, [15]⟩])))))
 (.seq
  (.region false [] [⟨some 16, .mov (.t 4), none, [4]⟩, ⟨some 2, .mov (.t 16), none, [16]⟩])
 .ret)))))
def rs_37 : List ARes := [.tmp 2]
theorem g_37 : Good Try.prog 37 ac_37 rs_37 := ⟨Try.f37, Try.f37.body.getD .skip, by kernel_rfl, by kernel_rfl, by kernel_rfl, ⟨by kernel_rfl, by kernel_rfl⟩, by kernel_rfl, by kernel_rfl⟩
theorem ok_37 {Γ : Env} (hΓ : EnvOk Try.prog Γ) (sp : Spec) (h : WB Γ ac_37 rs_37 sp) : CallOk Try.prog 37 sp := g_37.ok hΓ mix_ok sp h

/-- chantry/chantryref05.Faulty -/
def ac_38 : ACode :=
 (.seq
  (.region false [] [⟨some 2, .mov (.c (.int .i64 0)), none, []⟩])
 (.seq
  (.region false [] [⟨some 3, .mov (.t 0), none, [0]⟩, ⟨some 4, .call 67 [.t 3], none, [3]⟩, ⟨some 5, .bin false .sub (.t 4) (.c (.int .i64 1)), none, [4]⟩, ⟨some 6, .bin false .quo (.t 5) (.c (.int .i64 3)), none, [5]⟩, ⟨some 2, .mov (.t 6), none, [6]⟩])
 .ret))
def rs_38 : List ARes := [.tmp 2]
theorem g_38 : Good Try.prog 38 ac_38 rs_38 := ⟨Try.f38, Try.f38.body.getD .skip, by kernel_rfl, by kernel_rfl, by kernel_rfl, ⟨by kernel_rfl, by kernel_rfl⟩, by kernel_rfl, by kernel_rfl⟩
theorem ok_38 {Γ : Env} (hΓ : EnvOk Try.prog Γ) (sp : Spec) (h : WB Γ ac_38 rs_38 sp) : CallOk Try.prog 38 sp := g_38.ok hΓ mix_ok sp h

/-- chantry/chantryref05.Has -/
def ac_39 : ACode :=
 (.seq
  (.region false [] [⟨some 4, .mov (.c (.bool false)), none, []⟩])
 (.seq
  (.region false [] [⟨some 5, .mov (.t 1), none, []⟩, ⟨some 6, .bin false .leq (.t 5) (.c (.int .u8 15)), none, [5]⟩, ⟨some 7, .mov (.t 6), none, [6]⟩, ⟨some 8, .mov (.t 0), some (7, true), [0]⟩, ⟨some 9, .mov (.t 1), some (7, true), [1]⟩, ⟨some 10, .call 68 [.t 9], some (7, true), [9]⟩, ⟨some 11, .bin false .quo (.t 8) (.t 10), some (7, true), [8, 10]⟩, ⟨some 12, .bin false .rem (.t 11) (.c (.int .u16 2)), some (7, true), [11]⟩, ⟨some 13, .bin false .eql (.t 12) (.c (.int .u16 1)), some (7, true), [12]⟩, ⟨some 14, .pick (.t 7) (.t 13) (.c (.bool false)), none, [7, 13]⟩, ⟨some 4, .mov (.t 14), none, [14]⟩])
 .ret))
def rs_39 : List ARes := [.tmp 4]
theorem g_39 : Good Try.prog 39 ac_39 rs_39 := ⟨Try.f39, Try.f39.body.getD .skip, by kernel_rfl, by kernel_rfl, by kernel_rfl, ⟨by kernel_rfl, by kernel_rfl⟩, by kernel_rfl, by kernel_rfl⟩
theorem ok_39 {Γ : Env} (hΓ : EnvOk Try.prog Γ) (sp : Spec) (h : WB Γ ac_39 rs_39 sp) : CallOk Try.prog 39 sp := g_39.ok hΓ mix_ok sp h

/-- slices.Clone[[]chantry/flush.Mark,chantry/flush.Mark] -/
def ac_40 : ACode :=
 (.seq
  (.region false [] [⟨some 2, .mov (.c (.slice none 0 0)), none, []⟩])
 (.seq
  (.conc 0
   (.seq
    (.region false [] [⟨some 3, .mov (.t 0), none, []⟩, ⟨some 4, .isn false false (.t 3), none, [3]⟩])
   (.cond (.t 4)
     (.drop [0, 4]
      (.seq
       (.region false [] [⟨some 2, .mov (.c (.slice none 0 0)), none, []⟩])
      (.pack [2]
       .ret)))
     (.drop [4]
      .skip))))
 (.seq
  (.region false [] [⟨some 5, .bsl 39 17 [], none, []⟩, ⟨some 6, .mov (.t 0), none, [0]⟩, ⟨some 7, .app 39 17 34 (.t 5) (.t 6), none, [5, 6]⟩, ⟨some 2, .mov (.t 7), none, [7]⟩])
 (.pack [2]
  .ret))))
def rs_40 : List ARes := [.tmp 2]
theorem g_40 : Good Try.prog 40 ac_40 rs_40 := ⟨Try.f40, Try.f40.body.getD .skip, by kernel_rfl, by kernel_rfl, by kernel_rfl, ⟨by kernel_rfl, by kernel_rfl⟩, by kernel_rfl, by kernel_rfl⟩
theorem ok_40 {Γ : Env} (hΓ : EnvOk Try.prog Γ) (sp : Spec) (h : WB Γ ac_40 rs_40 sp) : CallOk Try.prog 40 sp := g_40.ok hΓ mix_ok sp h

/-- (chantry/flush.Flush).right -/
def ac_41 : ACode :=
 (.seq
  (.region false [] [⟨some 1, .box (.t 0), none, [0]⟩, ⟨some 2, .mov (.c (.bool false)), none, []⟩])
 (.seal_ 1
  (.seq
   (.seq
    (.region false [] [⟨some 5, .fad 1 (.t 1), none, []⟩, ⟨some 6, .ld false 1 (.t 5), none, [5]⟩, ⟨some 7, .len false (.t 6), none, []⟩, ⟨some 8, .mov (.c (.int .i64 0)), none, []⟩])
   (.block 0
    (.loop [1, 6, 7, 8]
     (.seq
      (.region false [] [⟨some 9, .bin false .lss (.t 8) (.t 7), none, []⟩])
     (.seq
      (.cond (.t 9)
        (.drop [9]
         .skip)
        (.drop [6, 7, 8, 9]
         (.exit 0)))
     (.seq
      (.block 1
       (.seq
        (.region false [] [⟨some 10, .mov (.t 8), none, []⟩, ⟨some 11, .iax 17 (.t 6) (.t 8), none, []⟩, ⟨some 12, .ld true 17 (.t 11), none, [11]⟩, ⟨some 4, .alloc [.int .u8 0, .int .u16 0, .int .u16 0, .int .u16 0, .int .u16 0, .int .u16 0, .int .u16 0, .int .u16 0, .int .u16 0, .int .u16 0, .int .u16 0, .int .u16 0, .int .u16 0, .int .u16 0, .int .u16 0, .int .u16 0, .int .u16 0], none, []⟩, ⟨some 3, .mov (.t 10), none, [10]⟩, ⟨none, .st 17 (.t 4) (.t 12), none, [12]⟩])
       (.seal_ 4
        (.seq
         (.draws (.tak 0 ⟨some 13, .fad 0 (.t 1), none, []⟩ (.tak 1 ⟨some 14, .ld false 1 (.t 13), none, []⟩ (.tak 2 ⟨some 15, .fad 0 (.t 4), none, []⟩ (.tak 3 ⟨some 16, .ld false 1 (.t 15), none, []⟩ (.alt 4 ⟨some 17, .call 44 [.t 14, .t 16], none, []⟩ (.tak 5 ⟨some 18, .un .not (.t 17), none, []⟩ (.tak 6 ⟨some 19, .mov (.t 18), none, []⟩ (.tak 7 ⟨some 20, .ld true 2 (.t 1), some (19, false), []⟩ (.tak 8 ⟨some 21, .fad 1 (.t 4), some (19, false), []⟩ (.tak 9 ⟨some 22, .ld true 16 (.t 21), some (19, false), []⟩ (.alt 10 ⟨some 23, .call 45 [.t 20, .t 22], some (19, false), []⟩ (.tak 11 ⟨some 24, .un .not (.t 23), some (19, false), []⟩ (.tak 12 ⟨some 25, .pick (.t 19) (.c (.bool true)) (.t 24), none, []⟩ (.tak 13 ⟨some 26, .mov (.t 25), none, []⟩ (.tak 14 ⟨some 27, .mov (.t 3), some (26, false), []⟩ (.tak 15 ⟨some 28, .bin false .gtr (.t 27) (.c (.int .i64 0)), some (26, false), []⟩ (.tak 16 ⟨some 29, .mov (.t 28), some (26, false), []⟩ (.tak 17 ⟨some 30, .fad 1 (.t 1), some (29, true), []⟩ (.tak 18 ⟨some 31, .ld false 1 (.t 30), some (29, true), []⟩ (.tak 19 ⟨some 32, .mov (.t 3), some (29, true), []⟩ (.tak 20 ⟨some 33, .bin false .sub (.t 32) (.c (.int .i64 1)), some (29, true), []⟩ (.tak 21 ⟨some 34, .iax 17 (.t 31) (.t 33), some (29, true), []⟩ (.tak 22 ⟨some 35, .ld true 17 (.t 34), some (29, true), []⟩ (.tak 23 ⟨some 36, .ld true 17 (.t 4), some (29, true), []⟩ (.alt 24 ⟨some 37, .call 43 [.t 35, .t 36], some (29, true), []⟩ (.tak 25 ⟨some 38, .bin false .geq (.t 37) (.c (.int .i64 0)), some (29, true), []⟩ (.tak 26 ⟨some 39, .pick (.t 29) (.t 38) (.c (.bool false)), some (26, false), []⟩ (.tak 27 ⟨some 40, .pick (.t 26) (.c (.bool true)) (.t 39), none, []⟩ .done))) .stop)))))))))))))) .stop)))))) .stop))))) [[], [0], [], [2], [1, 3], [4], [5, 4], [6], [6], [8, 6], [7, 9, 6, 6], [10, 6], [6, 11], [12, 10], [13], [14, 13], [15, 13, 13], [16], [17, 16], [16], [19, 16], [18, 20, 16], [21, 16], [16], [22, 23, 16, 16], [24, 16], [16, 25, 13], [13, 26]] [⟨some 13, .fad 0 (.t 1), none, []⟩, ⟨some 14, .ld false 1 (.t 13), none, []⟩, ⟨some 15, .fad 0 (.t 4), none, []⟩, ⟨some 16, .ld false 1 (.t 15), none, []⟩, ⟨some 17, .call 44 [.t 14, .t 16], none, []⟩, ⟨some 18, .un .not (.t 17), none, []⟩, ⟨some 19, .mov (.t 18), none, []⟩, ⟨some 20, .ld true 2 (.t 1), some (19, false), []⟩, ⟨some 21, .fad 1 (.t 4), some (19, false), []⟩, ⟨some 22, .ld true 16 (.t 21), some (19, false), []⟩, ⟨some 23, .call 45 [.t 20, .t 22], some (19, false), []⟩, ⟨some 24, .un .not (.t 23), some (19, false), []⟩, ⟨some 25, .pick (.t 19) (.c (.bool true)) (.t 24), none, []⟩, ⟨some 26, .mov (.t 25), none, []⟩, ⟨some 27, .mov (.t 3), some (26, false), []⟩, ⟨some 28, .bin false .gtr (.t 27) (.c (.int .i64 0)), some (26, false), []⟩, ⟨some 29, .mov (.t 28), some (26, false), []⟩, ⟨some 30, .fad 1 (.t 1), some (29, true), []⟩, ⟨some 31, .ld false 1 (.t 30), some (29, true), []⟩, ⟨some 32, .mov (.t 3), some (29, true), []⟩, ⟨some 33, .bin false .sub (.t 32) (.c (.int .i64 1)), some (29, true), []⟩, ⟨some 34, .iax 17 (.t 31) (.t 33), some (29, true), []⟩, ⟨some 35, .ld true 17 (.t 34), some (29, true), []⟩, ⟨some 36, .ld true 17 (.t 4), some (29, true), []⟩, ⟨some 37, .call 43 [.t 35, .t 36], some (29, true), []⟩, ⟨some 38, .bin false .geq (.t 37) (.c (.int .i64 0)), some (29, true), []⟩, ⟨some 39, .pick (.t 29) (.t 38) (.c (.bool false)), some (26, false), []⟩, ⟨some 40, .pick (.t 26) (.c (.bool true)) (.t 39), none, []⟩])
        (.drop [3, 4, 13, 14, 15, 16, 17, 18, 19, 20, 21, 22, 23, 24, 25, 26, 27, 28, 29, 30, 31, 32, 33, 34, 35, 36, 37, 38, 39]
         (.cond (.t 40)
           (.drop [1, 6, 7, 8, 40]
            (.seq
             (.region false [] [⟨some 2, .mov (.c (.bool false)), none, []⟩])
            .ret))
           (.drop [40]
            .skip)))))))
     (.region false [] [⟨some 41, .bin false .add (.t 8) (.c (.int .i64 1)), none, [8]⟩, ⟨some 8, .mov (.t 41), none, [41]⟩])))))))
  (.seq
   (.region false [] [⟨some 42, .fad 0 (.t 1), none, [1]⟩, ⟨some 43, .ld false 1 (.t 42), none, [42]⟩, ⟨some 44, .bin false .neq (.t 43) (.c (.int .u16 0)), none, [43]⟩, ⟨some 2, .mov (.t 44), none, [44]⟩])
  .ret))))
def rs_41 : List ARes := [.tmp 2]
theorem g_41 : Good Try.prog 41 ac_41 rs_41 := ⟨Try.f41, Try.f41.body.getD .skip, by kernel_rfl, by kernel_rfl, by kernel_rfl, ⟨by kernel_rfl, by kernel_rfl⟩, by kernel_rfl, by kernel_rfl⟩
theorem ok_41 {Γ : Env} (hΓ : EnvOk Try.prog Γ) (sp : Spec) (h : WB Γ ac_41 rs_41 sp) : CallOk Try.prog 41 sp := g_41.ok hΓ mix_ok sp h

/-- slices.BinarySearchFunc[[]chantry/flush.Mark,chantry/flush.Mark,chantry/flush.Mark] -/
def ac_42 : ACode :=
 (.seq
  (.region false [] [⟨some 4, .box (.t 1), none, [1]⟩, ⟨some 6, .mov (.c (.int .i64 0)), none, []⟩, ⟨some 7, .mov (.c (.bool false)), none, [6]⟩])
 (.seal_ 4
  (.seq
   (.region false [] [⟨some 12, .mov (.t 0), none, []⟩, ⟨some 13, .len false (.t 12), none, [12]⟩, ⟨some 8, .mov (.t 13), none, [13]⟩])
  (.seq
   (.region false [] [⟨some 14, .mov (.t 8), none, []⟩, ⟨some 9, .mov (.c (.int .i64 0)), none, []⟩, ⟨some 10, .mov (.t 14), none, [14]⟩])
  (.seq
   (.block 0
    (.loop [0, 2, 4, 8, 9, 10]
     (.seq
      (.seq
       (.region false [] [⟨some 15, .mov (.t 9), none, []⟩, ⟨some 16, .mov (.t 10), none, []⟩, ⟨some 17, .bin false .lss (.t 15) (.t 16), none, [15, 16]⟩])
      (.cond (.t 17)
        (.drop [17]
         .skip)
        (.drop [10, 17]
         (.exit 0))))
     (.block 1
      (.seq
       (.region false [] [⟨some 18, .mov (.t 9), none, []⟩, ⟨some 19, .mov (.t 10), none, []⟩, ⟨some 20, .bin false .add (.t 18) (.t 19), none, [18, 19]⟩, ⟨some 21, .cvt .u64 (.t 20), none, [20]⟩, ⟨some 22, .bin false .shr (.t 21) (.c (.int .u64 1)), none, [21]⟩, ⟨some 23, .cvt .i64 (.t 22), none, [22]⟩, ⟨some 11, .mov (.t 23), none, [23]⟩])
      (.seq
       (.draws (.tak 0 ⟨some 24, .mov (.t 2), none, []⟩ (.tak 1 ⟨some 25, .mov (.t 0), none, []⟩ (.tak 2 ⟨some 26, .mov (.t 11), none, []⟩ (.tak 3 ⟨some 27, .iax 17 (.t 25) (.t 26), none, []⟩ (.tak 4 ⟨some 28, .ld true 17 (.t 27), none, []⟩ (.tak 5 ⟨some 29, .ld true 17 (.t 4), none, []⟩ (.alt 6 ⟨some 30, .calv (.t 24) [.t 28, .t 29], none, []⟩ (.tak 7 ⟨some 31, .bin false .lss (.t 30) (.c (.int .i64 0)), none, []⟩ .done) .stop))))))) [[], [], [], [1, 2], [3], [], [0, 4, 5], [6]] [⟨some 24, .mov (.t 2), none, []⟩, ⟨some 25, .mov (.t 0), none, []⟩, ⟨some 26, .mov (.t 11), none, []⟩, ⟨some 27, .iax 17 (.t 25) (.t 26), none, []⟩, ⟨some 28, .ld true 17 (.t 27), none, []⟩, ⟨some 29, .ld true 17 (.t 4), none, []⟩, ⟨some 30, .calv (.t 24) [.t 28, .t 29], none, []⟩, ⟨some 31, .bin false .lss (.t 30) (.c (.int .i64 0)), none, []⟩])
      (.drop [24, 25, 26, 27, 28, 29, 30]
       (.cond (.t 31)
         (.drop [9, 31]
          (.region false [] [⟨some 32, .mov (.t 11), none, [11]⟩, ⟨some 33, .bin false .add (.t 32) (.c (.int .i64 1)), none, [32]⟩, ⟨some 9, .mov (.t 33), none, [33]⟩]))
         (.drop [10, 31]
          (.region false [] [⟨some 34, .mov (.t 11), none, [11]⟩, ⟨some 10, .mov (.t 34), none, [34]⟩]))))))))))
  (.seq
   (.draws (.tak 0 ⟨some 35, .mov (.t 9), none, []⟩ (.tak 1 ⟨some 36, .mov (.t 9), none, []⟩ (.tak 2 ⟨some 37, .mov (.t 8), none, []⟩ (.tak 3 ⟨some 38, .bin false .lss (.t 36) (.t 37), none, []⟩ (.tak 4 ⟨some 39, .mov (.t 38), none, []⟩ (.tak 5 ⟨some 40, .mov (.t 2), some (39, true), []⟩ (.tak 6 ⟨some 41, .mov (.t 0), some (39, true), []⟩ (.tak 7 ⟨some 42, .mov (.t 9), some (39, true), []⟩ (.tak 8 ⟨some 43, .iax 17 (.t 41) (.t 42), some (39, true), []⟩ (.tak 9 ⟨some 44, .ld true 17 (.t 43), some (39, true), []⟩ (.tak 10 ⟨some 45, .ld true 17 (.t 4), some (39, true), []⟩ (.alt 11 ⟨some 46, .calv (.t 40) [.t 44, .t 45], some (39, true), []⟩ (.tak 12 ⟨some 47, .bin false .eql (.t 46) (.c (.int .i64 0)), some (39, true), []⟩ (.tak 13 ⟨some 48, .pick (.t 39) (.t 47) (.c (.bool false)), none, []⟩ (.tak 14 ⟨some 6, .mov (.t 35), none, []⟩ (.tak 15 ⟨some 7, .mov (.t 48), none, []⟩ .done)))) .stop)))))))))))) [[], [], [], [1, 2], [3], [4], [4], [4], [6, 7, 4], [8, 4], [4], [5, 9, 10, 4, 4], [11, 4], [4, 12], [0, 11, 0], [13, 14, 0, 1, 2, 3, 4, 5, 6, 7, 8, 9, 10, 11, 12, 13, 14]] [⟨some 35, .mov (.t 9), none, []⟩, ⟨some 36, .mov (.t 9), none, []⟩, ⟨some 37, .mov (.t 8), none, []⟩, ⟨some 38, .bin false .lss (.t 36) (.t 37), none, []⟩, ⟨some 39, .mov (.t 38), none, []⟩, ⟨some 40, .mov (.t 2), some (39, true), []⟩, ⟨some 41, .mov (.t 0), some (39, true), []⟩, ⟨some 42, .mov (.t 9), some (39, true), []⟩, ⟨some 43, .iax 17 (.t 41) (.t 42), some (39, true), []⟩, ⟨some 44, .ld true 17 (.t 43), some (39, true), []⟩, ⟨some 45, .ld true 17 (.t 4), some (39, true), []⟩, ⟨some 46, .calv (.t 40) [.t 44, .t 45], some (39, true), []⟩, ⟨some 47, .bin false .eql (.t 46) (.c (.int .i64 0)), some (39, true), []⟩, ⟨some 48, .pick (.t 39) (.t 47) (.c (.bool false)), none, []⟩, ⟨some 6, .mov (.t 35), none, []⟩, ⟨some 7, .mov (.t 48), none, []⟩])
  (.drop [0, 2, 4, 8, 9, 35, 36, 37, 38, 39, 40, 41, 42, 43, 44, 45, 46, 47, 48]
   .ret)))))))
def rs_42 : List ARes := [.tmp 6, .tmp 7]
theorem g_42 : Good Try.prog 42 ac_42 rs_42 := ⟨Try.f42, Try.f42.body.getD .skip, by kernel_rfl, by kernel_rfl, by kernel_rfl, ⟨by kernel_rfl, by kernel_rfl⟩, by kernel_rfl, by kernel_rfl⟩
theorem ok_42 {Γ : Env} (hΓ : EnvOk Try.prog Γ) (sp : Spec) (h : WB Γ ac_42 rs_42 sp) : CallOk Try.prog 42 sp := g_42.ok hΓ mix_ok sp h

/-- chantry/flush.order -/
def ac_43 : ACode :=
 (.seq
  (.region false [] [⟨some 2, .box (.t 0), none, [0]⟩, ⟨some 3, .box (.t 1), none, [1]⟩, ⟨some 4, .mov (.c (.int .i64 0)), none, []⟩])
 (.seal_ 3
  (.seal_ 2
   (.seq
    (.region false [] [⟨some 5, .fad 0 (.t 2), none, [2]⟩, ⟨some 6, .ld false 1 (.t 5), none, [5]⟩, ⟨some 7, .fad 0 (.t 3), none, [3]⟩, ⟨some 8, .ld false 1 (.t 7), none, [7]⟩, ⟨some 9, .call 69 [.t 6, .t 8], none, [6, 8]⟩, ⟨some 4, .mov (.t 9), none, [9]⟩])
   .ret))))
def rs_43 : List ARes := [.tmp 4]
theorem g_43 : Good Try.prog 43 ac_43 rs_43 := ⟨Try.f43, Try.f43.body.getD .skip, by kernel_rfl, by kernel_rfl, by kernel_rfl, ⟨by kernel_rfl, by kernel_rfl⟩, by kernel_rfl, by kernel_rfl⟩
theorem ok_43 {Γ : Env} (hΓ : EnvOk Try.prog Γ) (sp : Spec) (h : WB Γ ac_43 rs_43 sp) : CallOk Try.prog 43 sp := g_43.ok hΓ mix_ok sp h

/-- chantry/count.Has -/
def ac_44 : ACode :=
 (.seq
  (.region false [] [⟨some 4, .mov (.c (.bool false)), none, []⟩])
 (.seq
  (.region false [] [⟨some 5, .mov (.t 0), none, [0]⟩, ⟨some 6, .mov (.t 1), none, [1]⟩, ⟨some 7, .call 70 [.t 6], none, [6]⟩, ⟨some 8, .bin false .and (.t 5) (.t 7), none, [5, 7]⟩, ⟨some 9, .bin false .neq (.t 8) (.c (.int .u16 0)), none, [8]⟩, ⟨some 4, .mov (.t 9), none, [9]⟩])
 .ret))
def rs_44 : List ARes := [.tmp 4]
theorem g_44 : Good Try.prog 44 ac_44 rs_44 := ⟨Try.f44, Try.f44.body.getD .skip, by kernel_rfl, by kernel_rfl, by kernel_rfl, ⟨by kernel_rfl, by kernel_rfl⟩, by kernel_rfl, by kernel_rfl⟩
theorem ok_44 {Γ : Env} (hΓ : EnvOk Try.prog Γ) (sp : Spec) (h : WB Γ ac_44 rs_44 sp) : CallOk Try.prog 44 sp := g_44.ok hΓ mix_ok sp h

/-- (chantry/flush.Flush).fits -/
def ac_45 : ACode :=
 (.seq
  (.region false [] [⟨some 2, .box (.t 0), none, [0]⟩, ⟨some 3, .box (.t 1), none, [1]⟩, ⟨some 4, .mov (.c (.bool false)), none, []⟩])
 (.seal_ 3
  (.seal_ 2
   (.seq
    (.seq
     (.region false [] [⟨some 7, .ld true 16 (.t 3), none, [3]⟩, ⟨some 8, .mov (.c (.int .i64 0)), none, []⟩])
    (.block 0
     (.loop [2, 7, 8]
      (.seq
       (.region false [] [⟨some 9, .bin false .lss (.t 8) (.c (.int .i64 16)), none, []⟩])
      (.seq
       (.cond (.t 9)
         (.drop [9]
          .skip)
         (.drop [2, 7, 8, 9]
          (.exit 0)))
      (.seq
       (.block 1
        (.seq
         (.region false [] [⟨some 10, .mov (.t 8), none, []⟩, ⟨some 11, .ixa 16 1 false (.t 7) (.t 8), none, []⟩, ⟨some 5, .mov (.t 10), none, [10]⟩, ⟨some 6, .mov (.t 11), none, [11]⟩])
        (.seq
         (.region false [] [⟨some 12, .mov (.t 6), none, []⟩, ⟨some 13, .bin false .geq (.t 12) (.c (.int .u16 1000)), none, [12]⟩, ⟨some 14, .mov (.t 13), none, [13]⟩, ⟨some 15, .mov (.t 6), some (14, false), [6]⟩, ⟨some 16, .bin false .gtr (.t 15) (.c (.int .u16 0)), some (14, false), [15]⟩, ⟨some 17, .mov (.t 16), some (14, false), [16]⟩, ⟨some 18, .fad 0 (.t 2), some (17, true), []⟩, ⟨some 19, .ld false 1 (.t 18), some (17, true), [18]⟩, ⟨some 20, .mov (.t 5), some (17, true), [5]⟩, ⟨some 21, .cvt .u8 (.t 20), some (17, true), [20]⟩, ⟨some 22, .call 44 [.t 19, .t 21], some (17, true), [19, 21]⟩, ⟨some 23, .un .not (.t 22), some (17, true), [22]⟩, ⟨some 24, .pick (.t 17) (.t 23) (.c (.bool false)), some (14, false), [17, 23]⟩, ⟨some 25, .pick (.t 14) (.c (.bool true)) (.t 24), none, [14, 24]⟩])
        (.cond (.t 25)
          (.drop [2, 7, 8, 25]
           (.seq
            (.region false [] [⟨some 4, .mov (.c (.bool false)), none, []⟩])
           .ret))
          (.drop [25]
           .skip)))))
      (.region false [] [⟨some 26, .bin false .add (.t 8) (.c (.int .i64 1)), none, [8]⟩, ⟨some 8, .mov (.t 26), none, [26]⟩])))))))
   (.seq
    (.region false [] [⟨some 4, .mov (.c (.bool true)), none, []⟩])
   .ret)))))
def rs_45 : List ARes := [.tmp 4]
theorem g_45 : Good Try.prog 45 ac_45 rs_45 := ⟨Try.f45, Try.f45.body.getD .skip, by kernel_rfl, by kernel_rfl, by kernel_rfl, ⟨by kernel_rfl, by kernel_rfl⟩, by kernel_rfl, by kernel_rfl⟩
theorem ok_45 {Γ : Env} (hΓ : EnvOk Try.prog Γ) (sp : Spec) (h : WB Γ ac_45 rs_45 sp) : CallOk Try.prog 45 sp := g_45.ok hΓ mix_ok sp h

/-- slices.Insert[[]chantry/flush.Mark,chantry/flush.Mark] -/
def ac_46 : ACode :=
 (.seq
  (.region false [] [⟨some 6, .mov (.c (.slice none 0 0)), none, []⟩])
 (.open_ 0
  (.seq
   (.region false [] [⟨some 10, .mov (.t 0), none, []⟩, ⟨some 11, .mov (.t 1), none, []⟩, ⟨some 12, .slc false 17 (.t 10) (some (.t 11)) none, none, [10, 11]⟩])
  (.seq
   (.region false [] [⟨some 13, .mov (.t 2), none, []⟩, ⟨some 14, .len false (.t 13), none, [13]⟩, ⟨some 7, .mov (.t 14), none, [14]⟩])
  (.seq
   (.seq
    (.region false [] [⟨some 15, .mov (.t 7), none, []⟩, ⟨some 16, .bin false .eql (.t 15) (.c (.int .i64 0)), none, [15]⟩])
   (.cond (.t 16)
     (.drop [1, 2, 7, 16]
      (.seq
       (.region false [] [⟨some 17, .mov (.t 0), none, [0]⟩, ⟨some 6, .mov (.t 17), none, [17]⟩])
      .ret))
     (.drop [16]
      .skip)))
  (.seq
   (.region false [] [⟨some 18, .mov (.t 0), none, []⟩, ⟨some 19, .len false (.t 18), none, [18]⟩, ⟨some 8, .mov (.t 19), none, [19]⟩])
  (.seq
   (.seq
    (.region false [] [⟨some 20, .mov (.t 1), none, []⟩, ⟨some 21, .mov (.t 8), none, []⟩, ⟨some 22, .bin false .eql (.t 20) (.t 21), none, [20, 21]⟩])
   (.cond (.t 22)
     (.drop [1, 7, 8, 22]
      (.close_ 0
       (.seq
        (.region false [] [⟨some 23, .mov (.t 0), none, [0]⟩, ⟨some 24, .mov (.t 2), none, [2]⟩, ⟨some 25, .app 39 17 34 (.t 23) (.t 24), none, [23, 24]⟩, ⟨some 6, .mov (.t 25), none, [25]⟩])
       .ret)))
     (.drop [22]
      .skip)))
  (.seq
   (.seq
    (.region false [] [⟨some 26, .mov (.t 8), none, []⟩, ⟨some 27, .mov (.t 7), none, []⟩, ⟨some 28, .bin false .add (.t 26) (.t 27), none, [26, 27]⟩, ⟨some 29, .mov (.t 0), none, []⟩, ⟨some 30, .cap (.t 29), none, [29]⟩, ⟨some 31, .bin false .gtr (.t 28) (.t 30), none, [28, 30]⟩])
   (.cond (.t 31)
     (.drop [31]
      (.seq
       (.region false [] [⟨some 32, .mov (.t 0), none, []⟩, ⟨some 33, .mov (.t 1), none, []⟩, ⟨some 34, .slc false 17 (.t 32) none (some (.t 33)), none, [32, 33]⟩, ⟨some 35, .mov (.t 8), none, [8]⟩, ⟨some 36, .mov (.t 7), none, []⟩, ⟨some 37, .bin false .add (.t 35) (.t 36), none, [35, 36]⟩, ⟨some 38, .mov (.t 1), none, []⟩, ⟨some 39, .bin false .sub (.t 37) (.t 38), none, [37, 38]⟩, ⟨some 40, .ap0 39 17 34 [.int .u8 0, .int .u16 0, .int .u16 0, .int .u16 0, .int .u16 0, .int .u16 0, .int .u16 0, .int .u16 0, .int .u16 0, .int .u16 0, .int .u16 0, .int .u16 0, .int .u16 0, .int .u16 0, .int .u16 0, .int .u16 0, .int .u16 0] (.t 34) (.t 39), none, [34, 39]⟩, ⟨some 9, .mov (.t 40), none, [40]⟩])
      (.open_ 9
       (.seq
        (.region false [] [⟨some 41, .mov (.t 9), none, []⟩, ⟨some 42, .mov (.t 1), none, []⟩, ⟨some 43, .slc false 17 (.t 41) (some (.t 42)) none, none, [41, 42]⟩, ⟨some 44, .mov (.t 2), none, [2]⟩, ⟨some 45, .cpy 17 (.t 43) (.t 44), none, [43, 44]⟩])
       (.seq
        (.draws (.tak 0 ⟨some 46, .mov (.t 9), none, []⟩ (.tak 1 ⟨some 47, .mov (.t 1), none, []⟩ (.tak 2 ⟨some 48, .mov (.t 7), none, []⟩ (.tak 3 ⟨some 49, .bin false .add (.t 47) (.t 48), none, []⟩ (.tak 5 ⟨some 51, .mov (.t 0), none, []⟩ (.tak 6 ⟨some 52, .mov (.t 1), none, []⟩ (.alt 4 ⟨some 50, .slc false 17 (.t 46) (some (.t 49)) none, none, []⟩ (.alt 7 ⟨some 53, .slc false 17 (.t 51) (some (.t 52)) none, none, []⟩ (.alt 8 ⟨some 54, .cpy 17 (.t 50) (.t 53), none, []⟩ .done .stop) .stop) (.alt 7 ⟨some 53, .slc false 17 (.t 51) (some (.t 52)) none, none, []⟩ (.alt 4 ⟨some 50, .slc false 17 (.t 46) (some (.t 49)) none, none, []⟩ (.alt 8 ⟨some 54, .cpy 17 (.t 50) (.t 53), none, []⟩ .done .stop) .stop) .stop)))))))) [[], [], [], [1, 2], [0, 3], [], [], [5, 6], [4, 7]] [⟨some 46, .mov (.t 9), none, []⟩, ⟨some 47, .mov (.t 1), none, []⟩, ⟨some 48, .mov (.t 7), none, []⟩, ⟨some 49, .bin false .add (.t 47) (.t 48), none, []⟩, ⟨some 50, .slc false 17 (.t 46) (some (.t 49)) none, none, []⟩, ⟨some 51, .mov (.t 0), none, []⟩, ⟨some 52, .mov (.t 1), none, []⟩, ⟨some 53, .slc false 17 (.t 51) (some (.t 52)) none, none, []⟩, ⟨some 54, .cpy 17 (.t 50) (.t 53), none, []⟩])
       (.close_ 0
        (.drop [0, 1, 7, 46, 47, 48, 49, 50, 51, 52, 53, 54]
         (.seq
          (.region false [] [⟨some 55, .mov (.t 9), none, [9]⟩, ⟨some 6, .mov (.t 55), none, [55]⟩])
         (.close_ 6
          .ret)))))))))
     (.drop [31]
      .skip)))
  (.seq
   (.region false [] [⟨some 56, .mov (.t 0), none, [0]⟩, ⟨some 57, .mov (.t 8), none, []⟩, ⟨some 58, .mov (.t 7), none, []⟩, ⟨some 59, .bin false .add (.t 57) (.t 58), none, [57, 58]⟩, ⟨some 60, .slc false 17 (.t 56) none (some (.t 59)), none, [56, 59]⟩, ⟨some 0, .mov (.t 60), none, [60]⟩])
  (.seq
   (.seq
    (.region false [] [⟨some 61, .mov (.t 2), none, []⟩, ⟨some 62, .mov (.t 0), none, []⟩, ⟨some 63, .mov (.t 1), none, []⟩, ⟨some 64, .mov (.t 7), none, []⟩, ⟨some 65, .bin false .add (.t 63) (.t 64), none, [63, 64]⟩, ⟨some 66, .slc false 17 (.t 62) (some (.t 65)) none, none, [62, 65]⟩, ⟨some 67, .call 71 [.t 61, .t 66], none, [61, 66]⟩, ⟨some 68, .un .not (.t 67), none, [67]⟩])
   (.cond (.t 68)
     (.drop [8, 68]
      (.seq
       (.draws (.tak 0 ⟨some 69, .mov (.t 0), none, []⟩ (.tak 1 ⟨some 70, .mov (.t 1), none, []⟩ (.tak 2 ⟨some 71, .mov (.t 7), none, []⟩ (.tak 3 ⟨some 72, .bin false .add (.t 70) (.t 71), none, []⟩ (.tak 5 ⟨some 74, .mov (.t 0), none, []⟩ (.tak 6 ⟨some 75, .mov (.t 1), none, []⟩ (.alt 4 ⟨some 73, .slc false 17 (.t 69) (some (.t 72)) none, none, []⟩ (.alt 7 ⟨some 76, .slc false 17 (.t 74) (some (.t 75)) none, none, []⟩ (.alt 8 ⟨some 77, .cpy 17 (.t 73) (.t 76), none, []⟩ .done .stop) .stop) (.alt 7 ⟨some 76, .slc false 17 (.t 74) (some (.t 75)) none, none, []⟩ (.alt 4 ⟨some 73, .slc false 17 (.t 69) (some (.t 72)) none, none, []⟩ (.alt 8 ⟨some 77, .cpy 17 (.t 73) (.t 76), none, []⟩ .done .stop) .stop) .stop)))))))) [[], [], [], [1, 2], [0, 3], [], [], [5, 6], [4, 7]] [⟨some 69, .mov (.t 0), none, []⟩, ⟨some 70, .mov (.t 1), none, []⟩, ⟨some 71, .mov (.t 7), none, []⟩, ⟨some 72, .bin false .add (.t 70) (.t 71), none, []⟩, ⟨some 73, .slc false 17 (.t 69) (some (.t 72)) none, none, []⟩, ⟨some 74, .mov (.t 0), none, []⟩, ⟨some 75, .mov (.t 1), none, []⟩, ⟨some 76, .slc false 17 (.t 74) (some (.t 75)) none, none, []⟩, ⟨some 77, .cpy 17 (.t 73) (.t 76), none, []⟩])
      (.drop [7, 69, 70, 71, 72, 73, 74, 75, 76, 77]
       (.seq
        (.region false [] [⟨some 78, .mov (.t 0), none, []⟩, ⟨some 79, .mov (.t 1), none, [1]⟩, ⟨some 80, .slc false 17 (.t 78) (some (.t 79)) none, none, [78, 79]⟩, ⟨some 81, .mov (.t 2), none, [2]⟩, ⟨some 82, .cpy 17 (.t 80) (.t 81), none, [80, 81]⟩])
       (.seq
        (.region false [] [⟨some 83, .mov (.t 0), none, [0]⟩, ⟨some 6, .mov (.t 83), none, [83]⟩])
       (.close_ 6
        .ret))))))
     (.drop [68]
      .skip)))
  (.seq
   (.region false [] [⟨some 84, .mov (.t 0), none, []⟩, ⟨some 85, .mov (.t 8), none, [8]⟩, ⟨some 86, .slc false 17 (.t 84) (some (.t 85)) none, none, [84, 85]⟩, ⟨some 87, .mov (.t 2), none, [2]⟩, ⟨some 88, .cpy 17 (.t 86) (.t 87), none, [86, 87]⟩])
  (.seq
   (.region false [] [⟨some 89, .mov (.t 0), none, []⟩, ⟨some 90, .mov (.t 1), none, [1]⟩, ⟨some 91, .slc false 17 (.t 89) (some (.t 90)) none, none, [89, 90]⟩, ⟨some 92, .mov (.t 7), none, [7]⟩, ⟨some 93, .call 72 [.t 91, .t 92], none, [91, 92]⟩])
  (.seq
   (.region false [] [⟨some 94, .mov (.t 0), none, [0]⟩, ⟨some 6, .mov (.t 94), none, [94]⟩])
  .ret)))))))))))))
def rs_46 : List ARes := [.tmp 6]
theorem g_46 : Good Try.prog 46 ac_46 rs_46 := ⟨Try.f46, Try.f46.body.getD .skip, by kernel_rfl, by kernel_rfl, by kernel_rfl, ⟨by kernel_rfl, by kernel_rfl⟩, by kernel_rfl, by kernel_rfl⟩
theorem ok_46 {Γ : Env} (hΓ : EnvOk Try.prog Γ) (sp : Spec) (h : WB Γ ac_46 rs_46 sp) : CallOk Try.prog 46 sp := g_46.ok hΓ mix_ok sp h

/-- chantry/chantryref13.Right -/
def ac_47 : ACode :=
 (.seq
  (.region false [] [⟨some 1, .box (.t 0), none, [0]⟩, ⟨some 2, .mov (.c (.bool false)), none, []⟩])
 (.seal_ 1
  (.seq
   (.seq
    (.region false [] [⟨some 3, .mov (.c (.int .i64 0)), none, []⟩])
   (.block 0
    (.loop [1, 3]
     (.seq
      (.seq
       (.region false [] [⟨some 5, .mov (.t 3), none, []⟩, ⟨some 6, .fad 1 (.t 1), none, []⟩, ⟨some 7, .ld false 1 (.t 6), none, [6]⟩, ⟨some 8, .len false (.t 7), none, [7]⟩, ⟨some 9, .bin false .lss (.t 5) (.t 8), none, [5, 8]⟩])
      (.cond (.t 9)
        (.drop [9]
         .skip)
        (.drop [3, 9]
         (.exit 0))))
     (.seq
      (.block 1
       (.seq
        (.region false [] [⟨some 12, .fad 1 (.t 1), none, []⟩, ⟨some 13, .ld false 1 (.t 12), none, [12]⟩, ⟨some 14, .mov (.t 3), none, []⟩, ⟨some 15, .iax 17 (.t 13) (.t 14), none, [13, 14]⟩, ⟨some 16, .ld true 17 (.t 15), none, [15]⟩, ⟨some 4, .alloc [.int .u8 0, .int .u16 0, .int .u16 0, .int .u16 0, .int .u16 0, .int .u16 0, .int .u16 0, .int .u16 0, .int .u16 0, .int .u16 0, .int .u16 0, .int .u16 0, .int .u16 0, .int .u16 0, .int .u16 0, .int .u16 0, .int .u16 0], none, []⟩, ⟨none, .st 17 (.t 4) (.t 16), none, [16]⟩])
       (.seal_ 4
        (.seq
         (.draws (.tak 0 ⟨some 17, .fad 0 (.t 1), none, []⟩ (.tak 1 ⟨some 18, .ld false 1 (.t 17), none, []⟩ (.tak 2 ⟨some 19, .fad 0 (.t 4), none, []⟩ (.tak 3 ⟨some 20, .ld false 1 (.t 19), none, []⟩ (.alt 4 ⟨some 21, .call 39 [.t 18, .t 20], none, []⟩ (.tak 5 ⟨some 22, .un .not (.t 21), none, []⟩ (.tak 6 ⟨some 23, .mov (.t 22), none, []⟩ (.tak 7 ⟨some 24, .fad 0 (.t 1), some (23, false), []⟩ (.tak 8 ⟨some 25, .ld false 1 (.t 24), some (23, false), []⟩ (.tak 9 ⟨some 26, .fad 1 (.t 4), some (23, false), []⟩ (.tak 10 ⟨some 27, .ld true 16 (.t 26), some (23, false), []⟩ (.alt 11 ⟨some 28, .call 48 [.t 25, .t 27], some (23, false), []⟩ (.tak 12 ⟨some 29, .un .not (.t 28), some (23, false), []⟩ (.tak 13 ⟨some 30, .pick (.t 23) (.c (.bool true)) (.t 29), none, []⟩ (.tak 14 ⟨some 31, .mov (.t 30), none, []⟩ (.tak 15 ⟨some 32, .mov (.t 3), some (31, false), []⟩ (.tak 16 ⟨some 33, .bin false .gtr (.t 32) (.c (.int .i64 0)), some (31, false), []⟩ (.tak 17 ⟨some 34, .mov (.t 33), some (31, false), []⟩ (.tak 18 ⟨some 35, .fad 1 (.t 1), some (34, true), []⟩ (.tak 19 ⟨some 36, .ld false 1 (.t 35), some (34, true), []⟩ (.tak 20 ⟨some 37, .mov (.t 3), some (34, true), []⟩ (.tak 21 ⟨some 38, .bin false .sub (.t 37) (.c (.int .i64 1)), some (34, true), []⟩ (.tak 22 ⟨some 39, .iax 17 (.t 36) (.t 38), some (34, true), []⟩ (.tak 23 ⟨some 40, .fad 0 (.t 39), some (34, true), []⟩ (.tak 24 ⟨some 41, .ld false 1 (.t 40), some (34, true), []⟩ (.tak 25 ⟨some 42, .fad 0 (.t 4), some (34, true), []⟩ (.tak 26 ⟨some 43, .ld false 1 (.t 42), some (34, true), []⟩ (.tak 27 ⟨some 44, .bin false .geq (.t 41) (.t 43), some (34, true), []⟩ (.tak 28 ⟨some 45, .pick (.t 34) (.t 44) (.c (.bool false)), some (31, false), []⟩ (.tak 29 ⟨some 46, .pick (.t 31) (.c (.bool true)) (.t 45), none, []⟩ .done)))))))))))))))))) .stop))))))) .stop))))) [[], [0], [], [2], [1, 3], [4], [5, 4], [6], [7, 6], [6], [9, 6], [8, 10, 6, 6], [11, 6], [6, 12], [13, 11], [14], [15, 14], [16, 14, 14], [17], [18, 17], [17], [20, 17], [19, 21, 17], [22, 17], [23, 17], [17], [25, 17], [24, 26, 17], [17, 27, 14], [14, 28]] [⟨some 17, .fad 0 (.t 1), none, []⟩, ⟨some 18, .ld false 1 (.t 17), none, []⟩, ⟨some 19, .fad 0 (.t 4), none, []⟩, ⟨some 20, .ld false 1 (.t 19), none, []⟩, ⟨some 21, .call 39 [.t 18, .t 20], none, []⟩, ⟨some 22, .un .not (.t 21), none, []⟩, ⟨some 23, .mov (.t 22), none, []⟩, ⟨some 24, .fad 0 (.t 1), some (23, false), []⟩, ⟨some 25, .ld false 1 (.t 24), some (23, false), []⟩, ⟨some 26, .fad 1 (.t 4), some (23, false), []⟩, ⟨some 27, .ld true 16 (.t 26), some (23, false), []⟩, ⟨some 28, .call 48 [.t 25, .t 27], some (23, false), []⟩, ⟨some 29, .un .not (.t 28), some (23, false), []⟩, ⟨some 30, .pick (.t 23) (.c (.bool true)) (.t 29), none, []⟩, ⟨some 31, .mov (.t 30), none, []⟩, ⟨some 32, .mov (.t 3), some (31, false), []⟩, ⟨some 33, .bin false .gtr (.t 32) (.c (.int .i64 0)), some (31, false), []⟩, ⟨some 34, .mov (.t 33), some (31, false), []⟩, ⟨some 35, .fad 1 (.t 1), some (34, true), []⟩, ⟨some 36, .ld false 1 (.t 35), some (34, true), []⟩, ⟨some 37, .mov (.t 3), some (34, true), []⟩, ⟨some 38, .bin false .sub (.t 37) (.c (.int .i64 1)), some (34, true), []⟩, ⟨some 39, .iax 17 (.t 36) (.t 38), some (34, true), []⟩, ⟨some 40, .fad 0 (.t 39), some (34, true), []⟩, ⟨some 41, .ld false 1 (.t 40), some (34, true), []⟩, ⟨some 42, .fad 0 (.t 4), some (34, true), []⟩, ⟨some 43, .ld false 1 (.t 42), some (34, true), []⟩, ⟨some 44, .bin false .geq (.t 41) (.t 43), some (34, true), []⟩, ⟨some 45, .pick (.t 34) (.t 44) (.c (.bool false)), some (31, false), []⟩, ⟨some 46, .pick (.t 31) (.c (.bool true)) (.t 45), none, []⟩])
        (.drop [4, 17, 18, 19, 20, 21, 22, 23, 24, 25, 26, 27, 28, 29, 30, 31, 32, 33, 34, 35, 36, 37, 38, 39, 40, 41, 42, 43, 44, 45]
         (.cond (.t 46)
           (.drop [1, 3, 46]
            (.seq
             (.region false [] [⟨some 2, .mov (.c (.bool false)), none, []⟩])
            .ret))
           (.drop [46]
            .skip)))))))
     (.region false [] [⟨some 10, .mov (.t 3), none, [3]⟩, ⟨some 11, .bin false .add (.t 10) (.c (.int .i64 1)), none, [10]⟩, ⟨some 3, .mov (.t 11), none, [11]⟩]))))))
  (.seq
   (.region false [] [⟨some 47, .fad 0 (.t 1), none, [1]⟩, ⟨some 48, .ld false 1 (.t 47), none, [47]⟩, ⟨some 49, .bin false .neq (.t 48) (.c (.int .u16 0)), none, [48]⟩, ⟨some 2, .mov (.t 49), none, [49]⟩])
  .ret))))
def rs_47 : List ARes := [.tmp 2]
theorem g_47 : Good Try.prog 47 ac_47 rs_47 := ⟨Try.f47, Try.f47.body.getD .skip, by kernel_rfl, by kernel_rfl, by kernel_rfl, ⟨by kernel_rfl, by kernel_rfl⟩, by kernel_rfl, by kernel_rfl⟩
theorem ok_47 {Γ : Env} (hΓ : EnvOk Try.prog Γ) (sp : Spec) (h : WB Γ ac_47 rs_47 sp) : CallOk Try.prog 47 sp := g_47.ok hΓ mix_ok sp h

/-- chantry/chantryref13.fits -/
def ac_48 : ACode :=
 (.seq
  (.region false [] [⟨some 3, .box (.t 1), none, [1]⟩, ⟨some 4, .mov (.c (.bool false)), none, []⟩])
 (.seal_ 3
  (.seq
   (.seq
    (.region false [] [⟨some 5, .mov (.c (.int .i64 0)), none, []⟩])
   (.block 0
    (.loop [0, 3, 5]
     (.seq
      (.seq
       (.region false [] [⟨some 6, .mov (.t 5), none, []⟩, ⟨some 7, .bin false .lss (.t 6) (.c (.int .i64 16)), none, [6]⟩])
      (.cond (.t 7)
        (.drop [7]
         .skip)
        (.drop [0, 3, 5, 7]
         (.exit 0))))
     (.seq
      (.block 1
       (.seq
        (.region false [] [⟨some 10, .mov (.t 5), none, []⟩, ⟨some 11, .iaa 16 1 (.t 3) (.t 10), none, [10]⟩, ⟨some 12, .ld false 1 (.t 11), none, [11]⟩, ⟨some 13, .bin false .geq (.t 12) (.c (.int .u16 1000)), none, [12]⟩, ⟨some 14, .mov (.t 13), none, [13]⟩, ⟨some 15, .mov (.t 5), some (14, false), []⟩, ⟨some 16, .iaa 16 1 (.t 3) (.t 15), some (14, false), [15]⟩, ⟨some 17, .ld false 1 (.t 16), some (14, false), [16]⟩, ⟨some 18, .bin false .gtr (.t 17) (.c (.int .u16 0)), some (14, false), [17]⟩, ⟨some 19, .mov (.t 18), some (14, false), [18]⟩, ⟨some 20, .mov (.t 0), some (19, true), []⟩, ⟨some 21, .mov (.t 5), some (19, true), []⟩, ⟨some 22, .cvt .u8 (.t 21), some (19, true), [21]⟩, ⟨some 23, .call 39 [.t 20, .t 22], some (19, true), [20, 22]⟩, ⟨some 24, .un .not (.t 23), some (19, true), [23]⟩, ⟨some 25, .pick (.t 19) (.t 24) (.c (.bool false)), some (14, false), [19, 24]⟩, ⟨some 26, .pick (.t 14) (.c (.bool true)) (.t 25), none, [14, 25]⟩])
       (.cond (.t 26)
         (.drop [0, 3, 5, 26]
          (.seq
           (.region false [] [⟨some 4, .mov (.c (.bool false)), none, []⟩])
          .ret))
         (.drop [26]
          .skip))))
     (.region false [] [⟨some 8, .mov (.t 5), none, [5]⟩, ⟨some 9, .bin false .add (.t 8) (.c (.int .i64 1)), none, [8]⟩, ⟨some 5, .mov (.t 9), none, [9]⟩]))))))
  (.seq
   (.region false [] [⟨some 4, .mov (.c (.bool true)), none, []⟩])
  .ret))))
def rs_48 : List ARes := [.tmp 4]
theorem g_48 : Good Try.prog 48 ac_48 rs_48 := ⟨Try.f48, Try.f48.body.getD .skip, by kernel_rfl, by kernel_rfl, by kernel_rfl, ⟨by kernel_rfl, by kernel_rfl⟩, by kernel_rfl, by kernel_rfl⟩
theorem ok_48 {Γ : Env} (hΓ : EnvOk Try.prog Γ) (sp : Spec) (h : WB Γ ac_48 rs_48 sp) : CallOk Try.prog 48 sp := g_48.ok hΓ mix_ok sp h

/-- chantry/count.Size -/
def ac_49 : ACode :=
 (.seq
  (.region false [] [⟨some 2, .mov (.c (.int .i64 0)), none, []⟩])
 (.seq
  (.region false [] [⟨some 3, .mov (.t 0), none, [0]⟩, ⟨some 4, .call 73 [.t 3], none, [3]⟩, ⟨some 2, .mov (.t 4), none, [4]⟩])
 .ret))
def rs_49 : List ARes := [.tmp 2]
theorem g_49 : Good Try.prog 49 ac_49 rs_49 := ⟨Try.f49, Try.f49.body.getD .skip, by kernel_rfl, by kernel_rfl, by kernel_rfl, ⟨by kernel_rfl, by kernel_rfl⟩, by kernel_rfl, by kernel_rfl⟩
theorem ok_49 {Γ : Env} (hΓ : EnvOk Try.prog Γ) (sp : Spec) (h : WB Γ ac_49 rs_49 sp) : CallOk Try.prog 49 sp := g_49.ok hΓ mix_ok sp h

/-- chantry/past.Join -/
def ac_50 : ACode :=
 (.seq
  (.region false [] [⟨some 2, .box (.t 0), none, [0]⟩, ⟨some 3, .box (.t 1), none, [1]⟩, ⟨some 4, .alloc [.int .u16 0, .int .u16 0, .int .u16 0, .int .u16 0, .int .u16 0, .int .u16 0, .int .u16 0, .int .u16 0, .int .u16 0, .int .u16 0, .int .u16 0, .int .u16 0, .int .u16 0, .int .u16 0, .int .u16 0, .int .u16 0], none, []⟩])
 (.seal_ 3
  (.seq
   (.seq
    (.region false [] [⟨some 7, .ld true 16 (.t 3), none, [3]⟩, ⟨some 8, .mov (.c (.int .i64 0)), none, []⟩])
   (.block 0
    (.loop [2, 4, 7, 8]
     (.seq
      (.region false [] [⟨some 9, .bin false .lss (.t 8) (.c (.int .i64 16)), none, []⟩])
     (.seq
      (.cond (.t 9)
        (.drop [9]
         .skip)
        (.drop [7, 8, 9]
         (.exit 0)))
     (.seq
      (.block 1
       (.seq
        (.region false [] [⟨some 10, .mov (.t 8), none, []⟩, ⟨some 11, .ixa 16 1 false (.t 7) (.t 8), none, []⟩, ⟨some 5, .mov (.t 10), none, [10]⟩, ⟨some 6, .mov (.t 11), none, [11]⟩])
       (.region false [] [⟨some 12, .mov (.t 5), none, []⟩, ⟨some 13, .mov (.t 5), none, [5]⟩, ⟨some 14, .iaa 16 1 (.t 2) (.t 13), none, [13]⟩, ⟨some 15, .ld false 1 (.t 14), none, [14]⟩, ⟨some 16, .mov (.t 6), none, [6]⟩, ⟨some 17, .mxx [.t 15, .t 16], none, [15, 16]⟩, ⟨some 18, .iaa 16 1 (.t 2) (.t 12), none, [12]⟩, ⟨none, .st 1 (.t 18) (.t 17), none, [17, 18]⟩])))
     (.region false [] [⟨some 19, .bin false .add (.t 8) (.c (.int .i64 1)), none, [8]⟩, ⟨some 8, .mov (.t 19), none, [19]⟩])))))))
  (.seq
   (.region false [] [⟨some 20, .ld true 16 (.t 2), none, [2]⟩, ⟨none, .st 16 (.t 4) (.t 20), none, [20]⟩])
  .ret))))
def rs_50 : List ARes := [.cell 4 true 16]
theorem g_50 : Good Try.prog 50 ac_50 rs_50 := ⟨Try.f50, Try.f50.body.getD .skip, by kernel_rfl, by kernel_rfl, by kernel_rfl, ⟨by kernel_rfl, by kernel_rfl⟩, by kernel_rfl, by kernel_rfl⟩
theorem ok_50 {Γ : Env} (hΓ : EnvOk Try.prog Γ) (sp : Spec) (h : WB Γ ac_50 rs_50 sp) : CallOk Try.prog 50 sp := g_50.ok hΓ mix_ok sp h

/-- chantry/chantryref09.Join -/
def ac_51 : ACode :=
 (.seq
  (.region false [] [⟨some 2, .box (.t 0), none, [0]⟩, ⟨some 3, .box (.t 1), none, [1]⟩, ⟨some 4, .alloc [.int .u16 0, .int .u16 0, .int .u16 0, .int .u16 0, .int .u16 0, .int .u16 0, .int .u16 0, .int .u16 0, .int .u16 0, .int .u16 0, .int .u16 0, .int .u16 0, .int .u16 0, .int .u16 0, .int .u16 0, .int .u16 0], none, []⟩])
 (.seal_ 3
  (.seq
   (.seq
    (.region false [] [⟨some 5, .mov (.c (.int .i64 0)), none, []⟩])
   (.block 0
    (.loop [2, 3, 4, 5]
     (.seq
      (.seq
       (.region false [] [⟨some 6, .mov (.t 5), none, []⟩, ⟨some 7, .bin false .lss (.t 6) (.c (.int .i64 16)), none, [6]⟩])
      (.cond (.t 7)
        (.drop [7]
         .skip)
        (.drop [3, 5, 7]
         (.exit 0))))
     (.seq
      (.block 1
       (.draws (.tak 0 ⟨some 10, .mov (.t 5), none, []⟩ (.tak 1 ⟨some 11, .mov (.t 5), none, []⟩ (.tak 2 ⟨some 12, .iaa 16 1 (.t 2) (.t 11), none, []⟩ (.tak 4 ⟨some 14, .mov (.t 5), none, []⟩ (.tak 5 ⟨some 15, .iaa 16 1 (.t 3) (.t 14), none, []⟩ (.tak 6 ⟨some 16, .ld false 1 (.t 15), none, []⟩ (.alt 3 ⟨some 13, .ld false 1 (.t 12), none, []⟩ (.tak 7 ⟨some 17, .mxx [.t 13, .t 16], none, []⟩ (.tak 8 ⟨some 18, .iaa 16 1 (.t 2) (.t 10), none, []⟩ (.alt 9 ⟨none, .st 1 (.t 18) (.t 17), none, []⟩ .done .stop))) .stop))))))) [[], [], [1], [2], [], [4], [5], [3, 6], [0, 0, 1, 2, 3, 4, 5, 6, 7], [8, 7, 0, 1, 2, 3, 4, 5, 6, 7]] [⟨some 10, .mov (.t 5), none, []⟩, ⟨some 11, .mov (.t 5), none, []⟩, ⟨some 12, .iaa 16 1 (.t 2) (.t 11), none, []⟩, ⟨some 13, .ld false 1 (.t 12), none, []⟩, ⟨some 14, .mov (.t 5), none, []⟩, ⟨some 15, .iaa 16 1 (.t 3) (.t 14), none, []⟩, ⟨some 16, .ld false 1 (.t 15), none, []⟩, ⟨some 17, .mxx [.t 13, .t 16], none, []⟩, ⟨some 18, .iaa 16 1 (.t 2) (.t 10), none, []⟩, ⟨none, .st 1 (.t 18) (.t 17), none, []⟩]))
     (.region false [] [⟨some 8, .mov (.t 5), none, [5]⟩, ⟨some 9, .bin false .add (.t 8) (.c (.int .i64 1)), none, [8]⟩, ⟨some 5, .mov (.t 9), none, [9]⟩]))))))
  (.seq
   (.region false [] [⟨some 19, .ld true 16 (.t 2), none, [2]⟩, ⟨none, .st 16 (.t 4) (.t 19), none, [19]⟩])
  .ret))))
def rs_51 : List ARes := [.cell 4 true 16]
theorem g_51 : Good Try.prog 51 ac_51 rs_51 := ⟨Try.f51, Try.f51.body.getD .skip, by kernel_rfl, by kernel_rfl, by kernel_rfl, ⟨by kernel_rfl, by kernel_rfl⟩, by kernel_rfl, by kernel_rfl⟩
theorem ok_51 {Γ : Env} (hΓ : EnvOk Try.prog Γ) (sp : Spec) (h : WB Γ ac_51 rs_51 sp) : CallOk Try.prog 51 sp := g_51.ok hΓ mix_ok sp h

/-- slices.Clone[[]chantry/ballot.Cast,chantry/ballot.Cast] -/
def ac_52 : ACode :=
 (.seq
  (.region false [] [⟨some 2, .mov (.c (.slice none 0 0)), none, []⟩])
 (.seq
  (.conc 0
   (.seq
    (.region false [] [⟨some 3, .mov (.t 0), none, []⟩, ⟨some 4, .isn false false (.t 3), none, [3]⟩])
   (.cond (.t 4)
     (.drop [0, 4]
      (.seq
       (.region false [] [⟨some 2, .mov (.c (.slice none 0 0)), none, []⟩])
      (.pack [2]
       .ret)))
     (.drop [4]
      .skip))))
 (.seq
  (.region false [] [⟨some 5, .bsl 73 3 [], none, []⟩, ⟨some 6, .mov (.t 0), none, [0]⟩, ⟨some 7, .app 73 3 3 (.t 5) (.t 6), none, [5, 6]⟩, ⟨some 2, .mov (.t 7), none, [7]⟩])
 (.pack [2]
  .ret))))
def rs_52 : List ARes := [.tmp 2]
theorem g_52 : Good Try.prog 52 ac_52 rs_52 := ⟨Try.f52, Try.f52.body.getD .skip, by kernel_rfl, by kernel_rfl, by kernel_rfl, ⟨by kernel_rfl, by kernel_rfl⟩, by kernel_rfl, by kernel_rfl⟩
theorem ok_52 {Γ : Env} (hΓ : EnvOk Try.prog Γ) (sp : Spec) (h : WB Γ ac_52 rs_52 sp) : CallOk Try.prog 52 sp := g_52.ok hΓ mix_ok sp h

/-- (chantry/ballot.Box).right -/
def ac_53 : ACode :=
 (.seq
  (.region false [] [⟨some 1, .box (.t 0), none, [0]⟩, ⟨some 2, .mov (.c (.bool false)), none, []⟩])
 (.seal_ 1
  (.seq
   (.seq
    (.region false [] [⟨some 7, .fad 2 (.t 1), none, []⟩, ⟨some 8, .ld false 1 (.t 7), none, [7]⟩, ⟨some 9, .len false (.t 8), none, []⟩, ⟨some 10, .mov (.c (.int .i64 0)), none, []⟩])
   (.block 0
    (.loop [1, 8, 9, 10]
     (.seq
      (.region false [] [⟨some 11, .bin false .lss (.t 10) (.t 9), none, []⟩])
     (.seq
      (.cond (.t 11)
        (.drop [11]
         .skip)
        (.drop [8, 9, 10, 11]
         (.exit 0)))
     (.seq
      (.block 1
       (.seq
        (.region false [] [⟨some 12, .mov (.t 10), none, []⟩, ⟨some 13, .iax 3 (.t 8) (.t 10), none, []⟩, ⟨some 14, .ld true 3 (.t 13), none, [13]⟩, ⟨some 4, .alloc [.int .u8 0, .bool false, .int .u8 0], none, []⟩, ⟨some 3, .mov (.t 12), none, [12]⟩, ⟨none, .st 3 (.t 4) (.t 14), none, [14]⟩])
       (.seal_ 4
        (.seq
         (.region false [] [⟨some 16, .fad 0 (.t 1), none, []⟩, ⟨some 17, .ld true 2 (.t 16), none, [16]⟩, ⟨some 18, .fad 1 (.t 4), none, []⟩, ⟨some 19, .ld true 2 (.t 18), none, [18]⟩, ⟨some 20, .call 36 [.t 17, .t 19], none, [17, 19]⟩, ⟨some 15, .mov (.t 20), none, [20]⟩, ⟨some 21, .ext 0 (.t 15), none, []⟩, ⟨some 22, .ext 1 (.t 15), none, [15]⟩, ⟨some 5, .alloc [.int .i64 0, .int .u16 0], none, []⟩, ⟨none, .st 2 (.t 5) (.t 21), none, [5, 21]⟩, ⟨some 6, .mov (.t 22), none, [22]⟩])
        (.seal_ 5
         (.seq
          (.draws (.tak 0 ⟨some 23, .mov (.t 6), none, []⟩ (.tak 1 ⟨some 24, .bin false .neq (.t 23) (.c (.int .i64 0)), none, []⟩ (.tak 2 ⟨some 25, .mov (.t 24), none, []⟩ (.tak 3 ⟨some 26, .fad 0 (.t 1), some (25, false), []⟩ (.tak 4 ⟨some 27, .fad 1 (.t 26), some (25, false), []⟩ (.tak 5 ⟨some 28, .ld false 1 (.t 27), some (25, false), []⟩ (.tak 6 ⟨some 29, .fad 0 (.t 4), some (25, false), []⟩ (.tak 7 ⟨some 30, .ld false 1 (.t 29), some (25, false), []⟩ (.alt 8 ⟨some 31, .call 44 [.t 28, .t 30], some (25, false), []⟩ (.tak 9 ⟨some 32, .un .not (.t 31), some (25, false), []⟩ (.tak 10 ⟨some 33, .pick (.t 25) (.c (.bool true)) (.t 32), none, []⟩ (.tak 11 ⟨some 34, .mov (.t 33), none, []⟩ (.tak 12 ⟨some 35, .mov (.t 3), some (34, false), []⟩ (.tak 13 ⟨some 36, .bin false .gtr (.t 35) (.c (.int .i64 0)), some (34, false), []⟩ (.tak 14 ⟨some 37, .mov (.t 36), some (34, false), []⟩ (.tak 15 ⟨some 38, .fad 2 (.t 1), some (37, true), []⟩ (.tak 16 ⟨some 39, .ld false 1 (.t 38), some (37, true), []⟩ (.tak 17 ⟨some 40, .mov (.t 3), some (37, true), []⟩ (.tak 18 ⟨some 41, .bin false .sub (.t 40) (.c (.int .i64 1)), some (37, true), []⟩ (.tak 19 ⟨some 42, .iax 3 (.t 39) (.t 41), some (37, true), []⟩ (.tak 20 ⟨some 43, .ld true 3 (.t 42), some (37, true), []⟩ (.tak 21 ⟨some 44, .ld true 3 (.t 4), some (37, true), []⟩ (.alt 22 ⟨some 45, .call 55 [.t 43, .t 44], some (37, true), []⟩ (.tak 23 ⟨some 46, .bin false .geq (.t 45) (.c (.int .i64 0)), some (37, true), []⟩ (.tak 24 ⟨some 47, .pick (.t 37) (.t 46) (.c (.bool false)), some (34, false), []⟩ (.tak 25 ⟨some 48, .pick (.t 34) (.c (.bool true)) (.t 47), none, []⟩ .done))) .stop)))))))))))))) .stop))))))))) [[], [0], [1], [2], [3, 2], [4, 2], [2], [6, 2], [5, 7, 2, 2], [8, 2], [2, 9], [10, 8], [11], [12, 11], [13, 11, 11], [14], [15, 14], [14], [17, 14], [16, 18, 14], [19, 14], [14], [20, 21, 14, 14], [22, 14], [14, 23, 11], [11, 24]] [⟨some 23, .mov (.t 6), none, []⟩, ⟨some 24, .bin false .neq (.t 23) (.c (.int .i64 0)), none, []⟩, ⟨some 25, .mov (.t 24), none, []⟩, ⟨some 26, .fad 0 (.t 1), some (25, false), []⟩, ⟨some 27, .fad 1 (.t 26), some (25, false), []⟩, ⟨some 28, .ld false 1 (.t 27), some (25, false), []⟩, ⟨some 29, .fad 0 (.t 4), some (25, false), []⟩, ⟨some 30, .ld false 1 (.t 29), some (25, false), []⟩, ⟨some 31, .call 44 [.t 28, .t 30], some (25, false), []⟩, ⟨some 32, .un .not (.t 31), some (25, false), []⟩, ⟨some 33, .pick (.t 25) (.c (.bool true)) (.t 32), none, []⟩, ⟨some 34, .mov (.t 33), none, []⟩, ⟨some 35, .mov (.t 3), some (34, false), []⟩, ⟨some 36, .bin false .gtr (.t 35) (.c (.int .i64 0)), some (34, false), []⟩, ⟨some 37, .mov (.t 36), some (34, false), []⟩, ⟨some 38, .fad 2 (.t 1), some (37, true), []⟩, ⟨some 39, .ld false 1 (.t 38), some (37, true), []⟩, ⟨some 40, .mov (.t 3), some (37, true), []⟩, ⟨some 41, .bin false .sub (.t 40) (.c (.int .i64 1)), some (37, true), []⟩, ⟨some 42, .iax 3 (.t 39) (.t 41), some (37, true), []⟩, ⟨some 43, .ld true 3 (.t 42), some (37, true), []⟩, ⟨some 44, .ld true 3 (.t 4), some (37, true), []⟩, ⟨some 45, .call 55 [.t 43, .t 44], some (37, true), []⟩, ⟨some 46, .bin false .geq (.t 45) (.c (.int .i64 0)), some (37, true), []⟩, ⟨some 47, .pick (.t 37) (.t 46) (.c (.bool false)), some (34, false), []⟩, ⟨some 48, .pick (.t 34) (.c (.bool true)) (.t 47), none, []⟩])
         (.drop [3, 4, 6, 23, 24, 25, 26, 27, 28, 29, 30, 31, 32, 33, 34, 35, 36, 37, 38, 39, 40, 41, 42, 43, 44, 45, 46, 47]
          (.cond (.t 48)
            (.drop [1, 8, 9, 10, 48]
             (.seq
              (.region false [] [⟨some 2, .mov (.c (.bool false)), none, []⟩])
             .ret))
            (.drop [48]
             .skip)))))))))
     (.region false [] [⟨some 49, .bin false .add (.t 10) (.c (.int .i64 1)), none, [10]⟩, ⟨some 10, .mov (.t 49), none, [49]⟩])))))))
  (.seq
   (.region false [] [⟨some 50, .fad 0 (.t 1), none, [1]⟩, ⟨some 51, .ld true 2 (.t 50), none, [50]⟩, ⟨some 52, .call 65 [.t 51], none, [51]⟩, ⟨some 2, .mov (.t 52), none, [52]⟩])
  .ret))))
def rs_53 : List ARes := [.tmp 2]
theorem g_53 : Good Try.prog 53 ac_53 rs_53 := ⟨Try.f53, Try.f53.body.getD .skip, by kernel_rfl, by kernel_rfl, by kernel_rfl, ⟨by kernel_rfl, by kernel_rfl⟩, by kernel_rfl, by kernel_rfl⟩
theorem ok_53 {Γ : Env} (hΓ : EnvOk Try.prog Γ) (sp : Spec) (h : WB Γ ac_53 rs_53 sp) : CallOk Try.prog 53 sp := g_53.ok hΓ mix_ok sp h

/-- slices.BinarySearchFunc[[]chantry/ballot.Cast,chantry/ballot.Cast,chantry/ballot.Cast] -/
def ac_54 : ACode :=
 (.seq
  (.region false [] [⟨some 4, .box (.t 1), none, [1]⟩, ⟨some 6, .mov (.c (.int .i64 0)), none, []⟩, ⟨some 7, .mov (.c (.bool false)), none, [6]⟩])
 (.seal_ 4
  (.seq
   (.region false [] [⟨some 12, .mov (.t 0), none, []⟩, ⟨some 13, .len false (.t 12), none, [12]⟩, ⟨some 8, .mov (.t 13), none, [13]⟩])
  (.seq
   (.region false [] [⟨some 14, .mov (.t 8), none, []⟩, ⟨some 9, .mov (.c (.int .i64 0)), none, []⟩, ⟨some 10, .mov (.t 14), none, [14]⟩])
  (.seq
   (.block 0
    (.loop [0, 2, 4, 8, 9, 10]
     (.seq
      (.seq
       (.region false [] [⟨some 15, .mov (.t 9), none, []⟩, ⟨some 16, .mov (.t 10), none, []⟩, ⟨some 17, .bin false .lss (.t 15) (.t 16), none, [15, 16]⟩])
      (.cond (.t 17)
        (.drop [17]
         .skip)
        (.drop [10, 17]
         (.exit 0))))
     (.block 1
      (.seq
       (.region false [] [⟨some 18, .mov (.t 9), none, []⟩, ⟨some 19, .mov (.t 10), none, []⟩, ⟨some 20, .bin false .add (.t 18) (.t 19), none, [18, 19]⟩, ⟨some 21, .cvt .u64 (.t 20), none, [20]⟩, ⟨some 22, .bin false .shr (.t 21) (.c (.int .u64 1)), none, [21]⟩, ⟨some 23, .cvt .i64 (.t 22), none, [22]⟩, ⟨some 11, .mov (.t 23), none, [23]⟩])
      (.seq
       (.draws (.tak 0 ⟨some 24, .mov (.t 2), none, []⟩ (.tak 1 ⟨some 25, .mov (.t 0), none, []⟩ (.tak 2 ⟨some 26, .mov (.t 11), none, []⟩ (.tak 3 ⟨some 27, .iax 3 (.t 25) (.t 26), none, []⟩ (.tak 4 ⟨some 28, .ld true 3 (.t 27), none, []⟩ (.tak 5 ⟨some 29, .ld true 3 (.t 4), none, []⟩ (.alt 6 ⟨some 30, .calv (.t 24) [.t 28, .t 29], none, []⟩ (.tak 7 ⟨some 31, .bin false .lss (.t 30) (.c (.int .i64 0)), none, []⟩ .done) .stop))))))) [[], [], [], [1, 2], [3], [], [0, 4, 5], [6]] [⟨some 24, .mov (.t 2), none, []⟩, ⟨some 25, .mov (.t 0), none, []⟩, ⟨some 26, .mov (.t 11), none, []⟩, ⟨some 27, .iax 3 (.t 25) (.t 26), none, []⟩, ⟨some 28, .ld true 3 (.t 27), none, []⟩, ⟨some 29, .ld true 3 (.t 4), none, []⟩, ⟨some 30, .calv (.t 24) [.t 28, .t 29], none, []⟩, ⟨some 31, .bin false .lss (.t 30) (.c (.int .i64 0)), none, []⟩])
      (.drop [24, 25, 26, 27, 28, 29, 30]
       (.cond (.t 31)
         (.drop [9, 31]
          (.region false [] [⟨some 32, .mov (.t 11), none, [11]⟩, ⟨some 33, .bin false .add (.t 32) (.c (.int .i64 1)), none, [32]⟩, ⟨some 9, .mov (.t 33), none, [33]⟩]))
         (.drop [10, 31]
          (.region false [] [⟨some 34, .mov (.t 11), none, [11]⟩, ⟨some 10, .mov (.t 34), none, [34]⟩]))))))))))
  (.seq
   (.draws (.tak 0 ⟨some 35, .mov (.t 9), none, []⟩ (.tak 1 ⟨some 36, .mov (.t 9), none, []⟩ (.tak 2 ⟨some 37, .mov (.t 8), none, []⟩ (.tak 3 ⟨some 38, .bin false .lss (.t 36) (.t 37), none, []⟩ (.tak 4 ⟨some 39, .mov (.t 38), none, []⟩ (.tak 5 ⟨some 40, .mov (.t 2), some (39, true), []⟩ (.tak 6 ⟨some 41, .mov (.t 0), some (39, true), []⟩ (.tak 7 ⟨some 42, .mov (.t 9), some (39, true), []⟩ (.tak 8 ⟨some 43, .iax 3 (.t 41) (.t 42), some (39, true), []⟩ (.tak 9 ⟨some 44, .ld true 3 (.t 43), some (39, true), []⟩ (.tak 10 ⟨some 45, .ld true 3 (.t 4), some (39, true), []⟩ (.alt 11 ⟨some 46, .calv (.t 40) [.t 44, .t 45], some (39, true), []⟩ (.tak 12 ⟨some 47, .bin false .eql (.t 46) (.c (.int .i64 0)), some (39, true), []⟩ (.tak 13 ⟨some 48, .pick (.t 39) (.t 47) (.c (.bool false)), none, []⟩ (.tak 14 ⟨some 6, .mov (.t 35), none, []⟩ (.tak 15 ⟨some 7, .mov (.t 48), none, []⟩ .done)))) .stop)))))))))))) [[], [], [], [1, 2], [3], [4], [4], [4], [6, 7, 4], [8, 4], [4], [5, 9, 10, 4, 4], [11, 4], [4, 12], [0, 11, 0], [13, 14, 0, 1, 2, 3, 4, 5, 6, 7, 8, 9, 10, 11, 12, 13, 14]] [⟨some 35, .mov (.t 9), none, []⟩, ⟨some 36, .mov (.t 9), none, []⟩, ⟨some 37, .mov (.t 8), none, []⟩, ⟨some 38, .bin false .lss (.t 36) (.t 37), none, []⟩, ⟨some 39, .mov (.t 38), none, []⟩, ⟨some 40, .mov (.t 2), some (39, true), []⟩, ⟨some 41, .mov (.t 0), some (39, true), []⟩, ⟨some 42, .mov (.t 9), some (39, true), []⟩, ⟨some 43, .iax 3 (.t 41) (.t 42), some (39, true), []⟩, ⟨some 44, .ld true 3 (.t 43), some (39, true), []⟩, ⟨some 45, .ld true 3 (.t 4), some (39, true), []⟩, ⟨some 46, .calv (.t 40) [.t 44, .t 45], some (39, true), []⟩, ⟨some 47, .bin false .eql (.t 46) (.c (.int .i64 0)), some (39, true), []⟩, ⟨some 48, .pick (.t 39) (.t 47) (.c (.bool false)), none, []⟩, ⟨some 6, .mov (.t 35), none, []⟩, ⟨some 7, .mov (.t 48), none, []⟩])
  (.drop [0, 2, 4, 8, 9, 35, 36, 37, 38, 39, 40, 41, 42, 43, 44, 45, 46, 47, 48]
   .ret)))))))
def rs_54 : List ARes := [.tmp 6, .tmp 7]
theorem g_54 : Good Try.prog 54 ac_54 rs_54 := ⟨Try.f54, Try.f54.body.getD .skip, by kernel_rfl, by kernel_rfl, by kernel_rfl, ⟨by kernel_rfl, by kernel_rfl⟩, by kernel_rfl, by kernel_rfl⟩
theorem ok_54 {Γ : Env} (hΓ : EnvOk Try.prog Γ) (sp : Spec) (h : WB Γ ac_54 rs_54 sp) : CallOk Try.prog 54 sp := g_54.ok hΓ mix_ok sp h

/-- chantry/ballot.order -/
def ac_55 : ACode :=
 (.seq
  (.region false [] [⟨some 2, .box (.t 0), none, [0]⟩, ⟨some 3, .box (.t 1), none, [1]⟩, ⟨some 4, .mov (.c (.int .i64 0)), none, []⟩])
 (.seal_ 3
  (.seal_ 2
   (.seq
    (.region false [] [⟨some 5, .fad 0 (.t 2), none, [2]⟩, ⟨some 6, .ld false 1 (.t 5), none, [5]⟩, ⟨some 7, .fad 0 (.t 3), none, [3]⟩, ⟨some 8, .ld false 1 (.t 7), none, [7]⟩, ⟨some 9, .call 69 [.t 6, .t 8], none, [6, 8]⟩, ⟨some 4, .mov (.t 9), none, [9]⟩])
   .ret))))
def rs_55 : List ARes := [.tmp 4]
theorem g_55 : Good Try.prog 55 ac_55 rs_55 := ⟨Try.f55, Try.f55.body.getD .skip, by kernel_rfl, by kernel_rfl, by kernel_rfl, ⟨by kernel_rfl, by kernel_rfl⟩, by kernel_rfl, by kernel_rfl⟩
theorem ok_55 {Γ : Env} (hΓ : EnvOk Try.prog Γ) (sp : Spec) (h : WB Γ ac_55 rs_55 sp) : CallOk Try.prog 55 sp := g_55.ok hΓ mix_ok sp h

/-- slices.Insert[[]chantry/ballot.Cast,chantry/ballot.Cast] -/
def ac_56 : ACode :=
 (.seq
  (.region false [] [⟨some 6, .mov (.c (.slice none 0 0)), none, []⟩])
 (.open_ 0
  (.seq
   (.region false [] [⟨some 10, .mov (.t 0), none, []⟩, ⟨some 11, .mov (.t 1), none, []⟩, ⟨some 12, .slc false 3 (.t 10) (some (.t 11)) none, none, [10, 11]⟩])
  (.seq
   (.region false [] [⟨some 13, .mov (.t 2), none, []⟩, ⟨some 14, .len false (.t 13), none, [13]⟩, ⟨some 7, .mov (.t 14), none, [14]⟩])
  (.seq
   (.seq
    (.region false [] [⟨some 15, .mov (.t 7), none, []⟩, ⟨some 16, .bin false .eql (.t 15) (.c (.int .i64 0)), none, [15]⟩])
   (.cond (.t 16)
     (.drop [1, 2, 7, 16]
      (.seq
       (.region false [] [⟨some 17, .mov (.t 0), none, [0]⟩, ⟨some 6, .mov (.t 17), none, [17]⟩])
      .ret))
     (.drop [16]
      .skip)))
  (.seq
   (.region false [] [⟨some 18, .mov (.t 0), none, []⟩, ⟨some 19, .len false (.t 18), none, [18]⟩, ⟨some 8, .mov (.t 19), none, [19]⟩])
  (.seq
   (.seq
    (.region false [] [⟨some 20, .mov (.t 1), none, []⟩, ⟨some 21, .mov (.t 8), none, []⟩, ⟨some 22, .bin false .eql (.t 20) (.t 21), none, [20, 21]⟩])
   (.cond (.t 22)
     (.drop [1, 7, 8, 22]
      (.close_ 0
       (.seq
        (.region false [] [⟨some 23, .mov (.t 0), none, [0]⟩, ⟨some 24, .mov (.t 2), none, [2]⟩, ⟨some 25, .app 73 3 3 (.t 23) (.t 24), none, [23, 24]⟩, ⟨some 6, .mov (.t 25), none, [25]⟩])
       .ret)))
     (.drop [22]
      .skip)))
  (.seq
   (.seq
    (.region false [] [⟨some 26, .mov (.t 8), none, []⟩, ⟨some 27, .mov (.t 7), none, []⟩, ⟨some 28, .bin false .add (.t 26) (.t 27), none, [26, 27]⟩, ⟨some 29, .mov (.t 0), none, []⟩, ⟨some 30, .cap (.t 29), none, [29]⟩, ⟨some 31, .bin false .gtr (.t 28) (.t 30), none, [28, 30]⟩])
   (.cond (.t 31)
     (.drop [31]
      (.seq
       (.region false [] [⟨some 32, .mov (.t 0), none, []⟩, ⟨some 33, .mov (.t 1), none, []⟩, ⟨some 34, .slc false 3 (.t 32) none (some (.t 33)), none, [32, 33]⟩, ⟨some 35, .mov (.t 8), none, [8]⟩, ⟨some 36, .mov (.t 7), none, []⟩, ⟨some 37, .bin false .add (.t 35) (.t 36), none, [35, 36]⟩, ⟨some 38, .mov (.t 1), none, []⟩, ⟨some 39, .bin false .sub (.t 37) (.t 38), none, [37, 38]⟩, ⟨some 40, .ap0 73 3 3 [.int .u8 0, .bool false, .int .u8 0] (.t 34) (.t 39), none, [34, 39]⟩, ⟨some 9, .mov (.t 40), none, [40]⟩])
      (.open_ 9
       (.seq
        (.region false [] [⟨some 41, .mov (.t 9), none, []⟩, ⟨some 42, .mov (.t 1), none, []⟩, ⟨some 43, .slc false 3 (.t 41) (some (.t 42)) none, none, [41, 42]⟩, ⟨some 44, .mov (.t 2), none, [2]⟩, ⟨some 45, .cpy 3 (.t 43) (.t 44), none, [43, 44]⟩])
       (.seq
        (.draws (.tak 0 ⟨some 46, .mov (.t 9), none, []⟩ (.tak 1 ⟨some 47, .mov (.t 1), none, []⟩ (.tak 2 ⟨some 48, .mov (.t 7), none, []⟩ (.tak 3 ⟨some 49, .bin false .add (.t 47) (.t 48), none, []⟩ (.tak 5 ⟨some 51, .mov (.t 0), none, []⟩ (.tak 6 ⟨some 52, .mov (.t 1), none, []⟩ (.alt 4 ⟨some 50, .slc false 3 (.t 46) (some (.t 49)) none, none, []⟩ (.alt 7 ⟨some 53, .slc false 3 (.t 51) (some (.t 52)) none, none, []⟩ (.alt 8 ⟨some 54, .cpy 3 (.t 50) (.t 53), none, []⟩ .done .stop) .stop) (.alt 7 ⟨some 53, .slc false 3 (.t 51) (some (.t 52)) none, none, []⟩ (.alt 4 ⟨some 50, .slc false 3 (.t 46) (some (.t 49)) none, none, []⟩ (.alt 8 ⟨some 54, .cpy 3 (.t 50) (.t 53), none, []⟩ .done .stop) .stop) .stop)))))))) [[], [], [], [1, 2], [0, 3], [], [], [5, 6], [4, 7]] [⟨some 46, .mov (.t 9), none, []⟩, ⟨some 47, .mov (.t 1), none, []⟩, ⟨some 48, .mov (.t 7), none, []⟩, ⟨some 49, .bin false .add (.t 47) (.t 48), none, []⟩, ⟨some 50, .slc false 3 (.t 46) (some (.t 49)) none, none, []⟩, ⟨some 51, .mov (.t 0), none, []⟩, ⟨some 52, .mov (.t 1), none, []⟩, ⟨some 53, .slc false 3 (.t 51) (some (.t 52)) none, none, []⟩, ⟨some 54, .cpy 3 (.t 50) (.t 53), none, []⟩])
       (.close_ 0
        (.drop [0, 1, 7, 46, 47, 48, 49, 50, 51, 52, 53, 54]
         (.seq
          (.region false [] [⟨some 55, .mov (.t 9), none, [9]⟩, ⟨some 6, .mov (.t 55), none, [55]⟩])
         (.close_ 6
          .ret)))))))))
     (.drop [31]
      .skip)))
  (.seq
   (.region false [] [⟨some 56, .mov (.t 0), none, [0]⟩, ⟨some 57, .mov (.t 8), none, []⟩, ⟨some 58, .mov (.t 7), none, []⟩, ⟨some 59, .bin false .add (.t 57) (.t 58), none, [57, 58]⟩, ⟨some 60, .slc false 3 (.t 56) none (some (.t 59)), none, [56, 59]⟩, ⟨some 0, .mov (.t 60), none, [60]⟩])
  (.seq
   (.seq
    (.region false [] [⟨some 61, .mov (.t 2), none, []⟩, ⟨some 62, .mov (.t 0), none, []⟩, ⟨some 63, .mov (.t 1), none, []⟩, ⟨some 64, .mov (.t 7), none, []⟩, ⟨some 65, .bin false .add (.t 63) (.t 64), none, [63, 64]⟩, ⟨some 66, .slc false 3 (.t 62) (some (.t 65)) none, none, [62, 65]⟩, ⟨some 67, .call 74 [.t 61, .t 66], none, [61, 66]⟩, ⟨some 68, .un .not (.t 67), none, [67]⟩])
   (.cond (.t 68)
     (.drop [8, 68]
      (.seq
       (.draws (.tak 0 ⟨some 69, .mov (.t 0), none, []⟩ (.tak 1 ⟨some 70, .mov (.t 1), none, []⟩ (.tak 2 ⟨some 71, .mov (.t 7), none, []⟩ (.tak 3 ⟨some 72, .bin false .add (.t 70) (.t 71), none, []⟩ (.tak 5 ⟨some 74, .mov (.t 0), none, []⟩ (.tak 6 ⟨some 75, .mov (.t 1), none, []⟩ (.alt 4 ⟨some 73, .slc false 3 (.t 69) (some (.t 72)) none, none, []⟩ (.alt 7 ⟨some 76, .slc false 3 (.t 74) (some (.t 75)) none, none, []⟩ (.alt 8 ⟨some 77, .cpy 3 (.t 73) (.t 76), none, []⟩ .done .stop) .stop) (.alt 7 ⟨some 76, .slc false 3 (.t 74) (some (.t 75)) none, none, []⟩ (.alt 4 ⟨some 73, .slc false 3 (.t 69) (some (.t 72)) none, none, []⟩ (.alt 8 ⟨some 77, .cpy 3 (.t 73) (.t 76), none, []⟩ .done .stop) .stop) .stop)))))))) [[], [], [], [1, 2], [0, 3], [], [], [5, 6], [4, 7]] [⟨some 69, .mov (.t 0), none, []⟩, ⟨some 70, .mov (.t 1), none, []⟩, ⟨some 71, .mov (.t 7), none, []⟩, ⟨some 72, .bin false .add (.t 70) (.t 71), none, []⟩, ⟨some 73, .slc false 3 (.t 69) (some (.t 72)) none, none, []⟩, ⟨some 74, .mov (.t 0), none, []⟩, ⟨some 75, .mov (.t 1), none, []⟩, ⟨some 76, .slc false 3 (.t 74) (some (.t 75)) none, none, []⟩, ⟨some 77, .cpy 3 (.t 73) (.t 76), none, []⟩])
      (.drop [7, 69, 70, 71, 72, 73, 74, 75, 76, 77]
       (.seq
        (.region false [] [⟨some 78, .mov (.t 0), none, []⟩, ⟨some 79, .mov (.t 1), none, [1]⟩, ⟨some 80, .slc false 3 (.t 78) (some (.t 79)) none, none, [78, 79]⟩, ⟨some 81, .mov (.t 2), none, [2]⟩, ⟨some 82, .cpy 3 (.t 80) (.t 81), none, [80, 81]⟩])
       (.seq
        (.region false [] [⟨some 83, .mov (.t 0), none, [0]⟩, ⟨some 6, .mov (.t 83), none, [83]⟩])
       (.close_ 6
        .ret))))))
     (.drop [68]
      .skip)))
  (.seq
   (.region false [] [⟨some 84, .mov (.t 0), none, []⟩, ⟨some 85, .mov (.t 8), none, [8]⟩, ⟨some 86, .slc false 3 (.t 84) (some (.t 85)) none, none, [84, 85]⟩, ⟨some 87, .mov (.t 2), none, [2]⟩, ⟨some 88, .cpy 3 (.t 86) (.t 87), none, [86, 87]⟩])
  (.seq
   (.region false [] [⟨some 89, .mov (.t 0), none, []⟩, ⟨some 90, .mov (.t 1), none, [1]⟩, ⟨some 91, .slc false 3 (.t 89) (some (.t 90)) none, none, [89, 90]⟩, ⟨some 92, .mov (.t 7), none, [7]⟩, ⟨some 93, .call 75 [.t 91, .t 92], none, [91, 92]⟩])
  (.seq
   (.region false [] [⟨some 94, .mov (.t 0), none, [0]⟩, ⟨some 6, .mov (.t 94), none, [94]⟩])
  .ret)))))))))))))
def rs_56 : List ARes := [.tmp 6]
theorem g_56 : Good Try.prog 56 ac_56 rs_56 := ⟨Try.f56, Try.f56.body.getD .skip, by kernel_rfl, by kernel_rfl, by kernel_rfl, ⟨by kernel_rfl, by kernel_rfl⟩, by kernel_rfl, by kernel_rfl⟩
theorem ok_56 {Γ : Env} (hΓ : EnvOk Try.prog Γ) (sp : Spec) (h : WB Γ ac_56 rs_56 sp) : CallOk Try.prog 56 sp := g_56.ok hΓ mix_ok sp h

/-- chantry/chantryref12.Right -/
def ac_57 : ACode :=
 (.seq
  (.region false [] [⟨some 1, .box (.t 0), none, [0]⟩, ⟨some 2, .mov (.c (.bool false)), none, []⟩])
 (.seal_ 1
  (.seq
   (.seq
    (.region false [] [⟨some 3, .mov (.c (.int .i64 0)), none, []⟩])
   (.block 0
    (.loop [1, 3]
     (.seq
      (.seq
       (.region false [] [⟨some 7, .mov (.t 3), none, []⟩, ⟨some 8, .fad 2 (.t 1), none, []⟩, ⟨some 9, .ld false 1 (.t 8), none, [8]⟩, ⟨some 10, .len false (.t 9), none, [9]⟩, ⟨some 11, .bin false .lss (.t 7) (.t 10), none, [7, 10]⟩])
      (.cond (.t 11)
        (.drop [11]
         .skip)
        (.drop [3, 11]
         (.exit 0))))
     (.seq
      (.block 1
       (.seq
        (.region false [] [⟨some 14, .fad 2 (.t 1), none, []⟩, ⟨some 15, .ld false 1 (.t 14), none, [14]⟩, ⟨some 16, .mov (.t 3), none, []⟩, ⟨some 17, .iax 3 (.t 15) (.t 16), none, [15, 16]⟩, ⟨some 18, .ld true 3 (.t 17), none, [17]⟩, ⟨some 4, .alloc [.int .u8 0, .bool false, .int .u8 0], none, []⟩, ⟨none, .st 3 (.t 4) (.t 18), none, [18]⟩])
       (.seal_ 4
        (.seq
         (.region false [] [⟨some 20, .fad 0 (.t 1), none, []⟩, ⟨some 21, .ld true 2 (.t 20), none, [20]⟩, ⟨some 22, .fad 1 (.t 4), none, []⟩, ⟨some 23, .ld true 2 (.t 22), none, [22]⟩, ⟨some 24, .call 58 [.t 21, .t 23], none, [21, 23]⟩, ⟨some 19, .mov (.t 24), none, [24]⟩, ⟨some 25, .ext 0 (.t 19), none, []⟩, ⟨some 26, .ext 1 (.t 19), none, [19]⟩, ⟨some 5, .alloc [.int .i64 0, .int .u16 0], none, []⟩, ⟨none, .st 2 (.t 5) (.t 25), none, [5, 25]⟩, ⟨some 6, .mov (.t 26), none, [26]⟩])
        (.seal_ 5
         (.seq
          (.draws (.tak 0 ⟨some 27, .mov (.t 6), none, []⟩ (.tak 1 ⟨some 28, .bin false .neq (.t 27) (.c (.int .i64 0)), none, []⟩ (.tak 2 ⟨some 29, .mov (.t 28), none, []⟩ (.tak 3 ⟨some 30, .fad 0 (.t 1), some (29, false), []⟩ (.tak 4 ⟨some 31, .fad 1 (.t 30), some (29, false), []⟩ (.tak 5 ⟨some 32, .ld false 1 (.t 31), some (29, false), []⟩ (.tak 6 ⟨some 33, .fad 0 (.t 4), some (29, false), []⟩ (.tak 7 ⟨some 34, .ld false 1 (.t 33), some (29, false), []⟩ (.alt 8 ⟨some 35, .call 39 [.t 32, .t 34], some (29, false), []⟩ (.tak 9 ⟨some 36, .un .not (.t 35), some (29, false), []⟩ (.tak 10 ⟨some 37, .pick (.t 29) (.c (.bool true)) (.t 36), none, []⟩ (.tak 11 ⟨some 38, .mov (.t 37), none, []⟩ (.tak 12 ⟨some 39, .mov (.t 3), some (38, false), []⟩ (.tak 13 ⟨some 40, .bin false .gtr (.t 39) (.c (.int .i64 0)), some (38, false), []⟩ (.tak 14 ⟨some 41, .mov (.t 40), some (38, false), []⟩ (.tak 15 ⟨some 42, .fad 2 (.t 1), some (41, true), []⟩ (.tak 16 ⟨some 43, .ld false 1 (.t 42), some (41, true), []⟩ (.tak 17 ⟨some 44, .mov (.t 3), some (41, true), []⟩ (.tak 18 ⟨some 45, .bin false .sub (.t 44) (.c (.int .i64 1)), some (41, true), []⟩ (.tak 19 ⟨some 46, .iax 3 (.t 43) (.t 45), some (41, true), []⟩ (.tak 20 ⟨some 47, .fad 0 (.t 46), some (41, true), []⟩ (.tak 21 ⟨some 48, .ld false 1 (.t 47), some (41, true), []⟩ (.tak 22 ⟨some 49, .fad 0 (.t 4), some (41, true), []⟩ (.tak 23 ⟨some 50, .ld false 1 (.t 49), some (41, true), []⟩ (.tak 24 ⟨some 51, .bin false .geq (.t 48) (.t 50), some (41, true), []⟩ (.tak 25 ⟨some 52, .pick (.t 41) (.t 51) (.c (.bool false)), some (38, false), []⟩ (.tak 26 ⟨some 53, .pick (.t 38) (.c (.bool true)) (.t 52), none, []⟩ .done)))))))))))))))))) .stop))))))))) [[], [0], [1], [2], [3, 2], [4, 2], [2], [6, 2], [5, 7, 2, 2], [8, 2], [2, 9], [10, 8], [11], [12, 11], [13, 11, 11], [14], [15, 14], [14], [17, 14], [16, 18, 14], [19, 14], [20, 14], [14], [22, 14], [21, 23, 14], [14, 24, 11], [11, 25]] [⟨some 27, .mov (.t 6), none, []⟩, ⟨some 28, .bin false .neq (.t 27) (.c (.int .i64 0)), none, []⟩, ⟨some 29, .mov (.t 28), none, []⟩, ⟨some 30, .fad 0 (.t 1), some (29, false), []⟩, ⟨some 31, .fad 1 (.t 30), some (29, false), []⟩, ⟨some 32, .ld false 1 (.t 31), some (29, false), []⟩, ⟨some 33, .fad 0 (.t 4), some (29, false), []⟩, ⟨some 34, .ld false 1 (.t 33), some (29, false), []⟩, ⟨some 35, .call 39 [.t 32, .t 34], some (29, false), []⟩, ⟨some 36, .un .not (.t 35), some (29, false), []⟩, ⟨some 37, .pick (.t 29) (.c (.bool true)) (.t 36), none, []⟩, ⟨some 38, .mov (.t 37), none, []⟩, ⟨some 39, .mov (.t 3), some (38, false), []⟩, ⟨some 40, .bin false .gtr (.t 39) (.c (.int .i64 0)), some (38, false), []⟩, ⟨some 41, .mov (.t 40), some (38, false), []⟩, ⟨some 42, .fad 2 (.t 1), some (41, true), []⟩, ⟨some 43, .ld false 1 (.t 42), some (41, true), []⟩, ⟨some 44, .mov (.t 3), some (41, true), []⟩, ⟨some 45, .bin false .sub (.t 44) (.c (.int .i64 1)), some (41, true), []⟩, ⟨some 46, .iax 3 (.t 43) (.t 45), some (41, true), []⟩, ⟨some 47, .fad 0 (.t 46), some (41, true), []⟩, ⟨some 48, .ld false 1 (.t 47), some (41, true), []⟩, ⟨some 49, .fad 0 (.t 4), some (41, true), []⟩, ⟨some 50, .ld false 1 (.t 49), some (41, true), []⟩, ⟨some 51, .bin false .geq (.t 48) (.t 50), some (41, true), []⟩, ⟨some 52, .pick (.t 41) (.t 51) (.c (.bool false)), some (38, false), []⟩, ⟨some 53, .pick (.t 38) (.c (.bool true)) (.t 52), none, []⟩])
         (.drop [4, 6, 27, 28, 29, 30, 31, 32, 33, 34, 35, 36, 37, 38, 39, 40, 41, 42, 43, 44, 45, 46, 47, 48, 49, 50, 51, 52]
          (.cond (.t 53)
            (.drop [1, 3, 53]
             (.seq
              (.region false [] [⟨some 2, .mov (.c (.bool false)), none, []⟩])
             .ret))
            (.drop [53]
             .skip)))))))))
     (.region false [] [⟨some 12, .mov (.t 3), none, [3]⟩, ⟨some 13, .bin false .add (.t 12) (.c (.int .i64 1)), none, [12]⟩, ⟨some 3, .mov (.t 13), none, [13]⟩]))))))
  (.seq
   (.region false [] [⟨some 54, .fad 0 (.t 1), none, [1]⟩, ⟨some 55, .ld true 2 (.t 54), none, [54]⟩, ⟨some 56, .call 76 [.t 55], none, [55]⟩, ⟨some 2, .mov (.t 56), none, [56]⟩])
  .ret))))
def rs_57 : List ARes := [.tmp 2]
theorem g_57 : Good Try.prog 57 ac_57 rs_57 := ⟨Try.f57, Try.f57.body.getD .skip, by kernel_rfl, by kernel_rfl, by kernel_rfl, ⟨by kernel_rfl, by kernel_rfl⟩, by kernel_rfl, by kernel_rfl⟩
theorem ok_57 {Γ : Env} (hΓ : EnvOk Try.prog Γ) (sp : Spec) (h : WB Γ ac_57 rs_57 sp) : CallOk Try.prog 57 sp := g_57.ok hΓ mix_ok sp h

/-- chantry/chantryref11.Apply -/
def ac_58 : ACode :=
 (.seq
  (.region false [] [⟨some 2, .box (.t 0), none, [0]⟩, ⟨some 3, .box (.t 1), none, [1]⟩, ⟨some 4, .alloc [.int .i64 0, .int .u16 0], none, []⟩, ⟨some 5, .mov (.c (.int .i64 0)), none, []⟩])
 (.seal_ 3
  (.seq
   (.region false [] [⟨some 7, .fad 1 (.t 2), none, []⟩, ⟨some 8, .ld false 1 (.t 7), none, [7]⟩, ⟨some 9, .fad 1 (.t 3), none, []⟩, ⟨some 10, .ld false 1 (.t 9), none, [9]⟩, ⟨some 11, .call 39 [.t 8, .t 10], none, [8, 10]⟩, ⟨some 6, .mov (.t 11), none, [11]⟩])
  (.seq
   (.block 0
    (.seq
     (.region false [] [⟨some 13, .ld true 2 (.t 2), none, []⟩, ⟨some 14, .call 76 [.t 13], none, [13]⟩, ⟨some 15, .un .not (.t 14), none, [14]⟩, ⟨some 16, .mov (.t 15), none, [15]⟩, ⟨some 17, .fad 1 (.t 3), some (16, false), []⟩, ⟨some 18, .ld false 1 (.t 17), some (16, false), [17]⟩, ⟨some 19, .bin false .gtr (.t 18) (.c (.int .u8 15)), some (16, false), [18]⟩, ⟨some 20, .pick (.t 16) (.c (.bool true)) (.t 19), none, [16, 19]⟩, ⟨some 12, .mov (.t 20), none, [20]⟩])
    (.cond (.t 12)
      (.drop [2, 3, 6, 12]
       (.seq
        (.region false [] [⟨some 21, .bld [.int .i64 0, .int .u16 0] [], none, []⟩, ⟨none, .st 2 (.t 4) (.t 21), none, [21]⟩, ⟨some 5, .mov (.c (.int .i64 2)), none, []⟩])
       .ret))
      (.drop [12]
       (.seq
        (.region false [] [⟨some 23, .fad 0 (.t 3), none, []⟩, ⟨some 24, .ld false 1 (.t 23), none, [23]⟩, ⟨some 25, .mov (.t 24), none, [24]⟩, ⟨some 26, .mov (.t 6), some (25, true), []⟩, ⟨some 27, .pick (.t 25) (.t 26) (.c (.bool false)), none, [25, 26]⟩, ⟨some 22, .mov (.t 27), none, [27]⟩])
       (.cond (.t 22)
         (.drop [2, 3, 6, 22]
          (.seq
           (.region false [] [⟨some 28, .bld [.int .i64 0, .int .u16 0] [], none, []⟩, ⟨none, .st 2 (.t 4) (.t 28), none, [28]⟩, ⟨some 5, .mov (.c (.int .i64 9)), none, []⟩])
          .ret))
         (.drop [22]
          (.seq
           (.region false [] [⟨some 30, .fad 0 (.t 3), none, []⟩, ⟨some 31, .ld false 1 (.t 30), none, [30]⟩, ⟨some 32, .un .not (.t 31), none, [31]⟩, ⟨some 33, .mov (.t 32), none, [32]⟩, ⟨some 34, .mov (.t 6), some (33, true), [6]⟩, ⟨some 35, .un .not (.t 34), some (33, true), [34]⟩, ⟨some 36, .pick (.t 33) (.t 35) (.c (.bool false)), none, [33, 35]⟩, ⟨some 29, .mov (.t 36), none, [36]⟩])
          (.cond (.t 29)
            (.drop [2, 3, 29]
             (.seq
              (.region false [] [⟨some 37, .bld [.int .i64 0, .int .u16 0] [], none, []⟩, ⟨none, .st 2 (.t 4) (.t 37), none, [37]⟩, ⟨some 5, .mov (.c (.int .i64 8)), none, []⟩])
             .ret))
            (.drop [29]
             (.seq
              (.region false [] [⟨some 39, .fad 0 (.t 2), none, []⟩, ⟨some 40, .ld false 1 (.t 39), none, [39]⟩, ⟨some 41, .bin false .eql (.t 40) (.c (.int .i64 1000)), none, [40]⟩, ⟨some 38, .mov (.t 41), none, [41]⟩])
             (.cond (.t 38)
               (.drop [2, 3, 38]
                (.seq
                 (.region false [] [⟨some 42, .bld [.int .i64 0, .int .u16 0] [], none, []⟩, ⟨none, .st 2 (.t 4) (.t 42), none, [42]⟩, ⟨some 5, .mov (.c (.int .i64 11)), none, []⟩])
                .ret))
               (.drop [38]
                (.seq
                 (.region false [] [⟨some 44, .fad 0 (.t 3), none, []⟩, ⟨some 45, .ld false 1 (.t 44), none, [44]⟩, ⟨some 46, .un .not (.t 45), none, [45]⟩, ⟨some 47, .mov (.t 46), none, [46]⟩, ⟨some 48, .fad 1 (.t 2), some (47, true), []⟩, ⟨some 49, .ld false 1 (.t 48), some (47, true), [48]⟩, ⟨some 50, .call 35 [.t 49], some (47, true), [49]⟩, ⟨some 51, .bin false .eql (.t 50) (.c (.int .i64 1)), some (47, true), [50]⟩, ⟨some 52, .pick (.t 47) (.t 51) (.c (.bool false)), none, [47, 51]⟩, ⟨some 43, .mov (.t 52), none, [52]⟩])
                (.cond (.t 43)
                  (.drop [2, 3, 43]
                   (.seq
                    (.region false [] [⟨some 53, .bld [.int .i64 0, .int .u16 0] [], none, []⟩, ⟨none, .st 2 (.t 4) (.t 53), none, [53]⟩, ⟨some 5, .mov (.c (.int .i64 10)), none, []⟩])
                   .ret))
                  (.drop [43]
                   .skip))))))))))))))))
  (.seq
   (.region false [] [⟨some 54, .fad 0 (.t 2), none, []⟩, ⟨some 55, .ld false 1 (.t 54), none, [54]⟩, ⟨some 56, .bin false .add (.t 55) (.c (.int .i64 1)), none, [55]⟩, ⟨some 57, .fad 0 (.t 2), none, []⟩, ⟨none, .st 1 (.t 57) (.t 56), none, [56, 57]⟩])
  (.seq
   (.seq
    (.region false [] [⟨some 58, .fad 0 (.t 3), none, []⟩, ⟨some 59, .ld false 1 (.t 58), none, [58]⟩])
   (.cond (.t 59)
     (.drop [59]
      (.region false [] [⟨some 60, .fad 1 (.t 2), none, []⟩, ⟨some 61, .ld false 1 (.t 60), none, [60]⟩, ⟨some 62, .fad 1 (.t 3), none, [3]⟩, ⟨some 63, .ld false 1 (.t 62), none, [62]⟩, ⟨some 64, .call 63 [.t 61, .t 63], none, [61, 63]⟩, ⟨some 65, .fad 1 (.t 2), none, []⟩, ⟨none, .st 1 (.t 65) (.t 64), none, [64, 65]⟩]))
     (.drop [59]
      (.region false [] [⟨some 66, .fad 1 (.t 2), none, []⟩, ⟨some 67, .ld false 1 (.t 66), none, [66]⟩, ⟨some 68, .fad 1 (.t 3), none, [3]⟩, ⟨some 69, .ld false 1 (.t 68), none, [68]⟩, ⟨some 70, .call 77 [.t 67, .t 69], none, [67, 69]⟩, ⟨some 71, .fad 1 (.t 2), none, []⟩, ⟨none, .st 1 (.t 71) (.t 70), none, [70, 71]⟩]))))
  (.seq
   (.region false [] [⟨some 72, .ld true 2 (.t 2), none, [2]⟩, ⟨none, .st 2 (.t 4) (.t 72), none, [72]⟩, ⟨some 5, .mov (.c (.int .i64 0)), none, []⟩])
  .ret)))))))
def rs_58 : List ARes := [.cell 4 true 2, .tmp 5]
theorem g_58 : Good Try.prog 58 ac_58 rs_58 := ⟨Try.f58, Try.f58.body.getD .skip, by kernel_rfl, by kernel_rfl, by kernel_rfl, ⟨by kernel_rfl, by kernel_rfl⟩, by kernel_rfl, by kernel_rfl⟩
theorem ok_58 {Γ : Env} (hΓ : EnvOk Try.prog Γ) (sp : Spec) (h : WB Γ ac_58 rs_58 sp) : CallOk Try.prog 58 sp := g_58.ok hΓ mix_ok sp h

/-- chantry/count.Echoes -/
def ac_59 : ACode :=
 (.seq
  (.region false [] [⟨some 2, .mov (.c (.int .i64 0)), none, []⟩])
 (.seq
  (.region false [] [⟨some 3, .mov (.t 0), none, []⟩, ⟨some 4, .call 78 [.t 3], none, [3]⟩, ⟨some 5, .mov (.t 0), none, [0]⟩, ⟨some 6, .call 79 [.t 5], none, [5]⟩, ⟨some 7, .bin false .add (.t 4) (.t 6), none, [4, 6]⟩, ⟨some 8, .bin false .quo (.t 7) (.c (.int .i64 2)), none, [7]⟩, ⟨some 9, .bin false .add (.t 8) (.c (.int .i64 1)), none, [8]⟩, ⟨some 2, .mov (.t 9), none, [9]⟩])
 .ret))
def rs_59 : List ARes := [.tmp 2]
theorem g_59 : Good Try.prog 59 ac_59 rs_59 := ⟨Try.f59, Try.f59.body.getD .skip, by kernel_rfl, by kernel_rfl, by kernel_rfl, ⟨by kernel_rfl, by kernel_rfl⟩, by kernel_rfl, by kernel_rfl⟩
theorem ok_59 {Γ : Env} (hΓ : EnvOk Try.prog Γ) (sp : Spec) (h : WB Γ ac_59 rs_59 sp) : CallOk Try.prog 59 sp := g_59.ok hΓ mix_ok sp h

/-- slices.IndexFunc[[]chantry/ballot.Cast,chantry/ballot.Cast] -/
def ac_60 : ACode :=
 (.seq
  (.region false [] [⟨some 4, .mov (.c (.int .i64 0)), none, []⟩])
 (.seq
  (.seq
   (.region false [] [⟨some 6, .mov (.t 0), none, []⟩, ⟨some 7, .len false (.t 6), none, [6]⟩, ⟨some 8, .mov (.c (.int .i64 0)), none, []⟩])
  (.block 0
   (.loop [0, 1, 7, 8]
    (.seq
     (.region false [] [⟨some 9, .bin false .lss (.t 8) (.t 7), none, []⟩])
    (.seq
     (.cond (.t 9)
       (.drop [9]
        .skip)
       (.drop [0, 1, 7, 8, 9]
        (.exit 0)))
    (.seq
     (.block 1
      (.seq
       (.region false [] [⟨some 10, .mov (.t 8), none, []⟩, ⟨some 5, .mov (.t 10), none, [10]⟩])
      (.seq
       (.region false [] [⟨some 11, .mov (.t 1), none, []⟩, ⟨some 12, .mov (.t 0), none, []⟩, ⟨some 13, .mov (.t 5), none, []⟩, ⟨some 14, .iax 3 (.t 12) (.t 13), none, [12, 13]⟩, ⟨some 15, .ld true 3 (.t 14), none, [14]⟩, ⟨some 16, .calv (.t 11) [.t 15], none, [11, 15]⟩])
      (.cond (.t 16)
        (.drop [0, 1, 7, 8, 16]
         (.seq
          (.region false [] [⟨some 17, .mov (.t 5), none, [5]⟩, ⟨some 4, .mov (.t 17), none, [17]⟩])
         .ret))
        (.drop [5, 16]
         .skip)))))
    (.region false [] [⟨some 18, .bin false .add (.t 8) (.c (.int .i64 1)), none, [8]⟩, ⟨some 8, .mov (.t 18), none, [18]⟩])))))))
 (.seq
  (.region false [] [⟨some 4, .mov (.c (.int .i64 (-1))), none, []⟩])
 .ret)))
def rs_60 : List ARes := [.tmp 4]
theorem g_60 : Good Try.prog 60 ac_60 rs_60 := ⟨Try.f60, Try.f60.body.getD .skip, by kernel_rfl, by kernel_rfl, by kernel_rfl, ⟨by kernel_rfl, by kernel_rfl⟩, by kernel_rfl, by kernel_rfl⟩
theorem ok_60 {Γ : Env} (hΓ : EnvOk Try.prog Γ) (sp : Spec) (h : WB Γ ac_60 rs_60 sp) : CallOk Try.prog 60 sp := g_60.ok hΓ mix_ok sp h

/-- chantry/ballot.Chosen$1 -/
def ac_61 : ACode :=
 (.seq
  (.region false [] [⟨some 3, .box (.t 0), none, [0]⟩, ⟨some 4, .mov (.c (.bool false)), none, []⟩])
 (.seal_ 3
  (.seq
   (.draws (.tak 0 ⟨some 5, .ld true 3 (.t 1), none, []⟩ (.tak 1 ⟨some 6, .fad 1 (.t 3), none, []⟩ (.tak 2 ⟨some 7, .ld true 2 (.t 6), none, []⟩ (.tak 5 ⟨some 10, .ld false 1 (.t 2), none, []⟩ (.alt 3 ⟨some 8, .call 33 [.t 5, .t 7], none, []⟩ (.alt 4 ⟨some 9, .call 49 [.t 8], none, []⟩ (.tak 6 ⟨some 11, .bin false .geq (.t 9) (.t 10), none, []⟩ (.tak 7 ⟨some 4, .mov (.t 11), none, []⟩ .done)) .stop) .stop))))) [[], [], [1], [0, 2], [3, 3], [], [4, 5], [6, 4, 0, 1, 2, 3, 4, 5, 6]] [⟨some 5, .ld true 3 (.t 1), none, []⟩, ⟨some 6, .fad 1 (.t 3), none, []⟩, ⟨some 7, .ld true 2 (.t 6), none, []⟩, ⟨some 8, .call 33 [.t 5, .t 7], none, []⟩, ⟨some 9, .call 49 [.t 8], none, []⟩, ⟨some 10, .ld false 1 (.t 2), none, []⟩, ⟨some 11, .bin false .geq (.t 9) (.t 10), none, []⟩, ⟨some 4, .mov (.t 11), none, []⟩])
  (.drop [1, 2, 3, 5, 6, 7, 8, 9, 10, 11]
   .ret))))
def rs_61 : List ARes := [.tmp 4]
theorem g_61 : Good Try.prog 61 ac_61 rs_61 := ⟨Try.f61, Try.f61.body.getD .skip, by kernel_rfl, by kernel_rfl, by kernel_rfl, ⟨by kernel_rfl, by kernel_rfl⟩, by kernel_rfl, by kernel_rfl⟩
theorem ok_61 {Γ : Env} (hΓ : EnvOk Try.prog Γ) (sp : Spec) (h : WB Γ ac_61 rs_61 sp) : CallOk Try.prog 61 sp := g_61.ok hΓ mix_ok sp h

/-- chantry/count.With -/
def ac_62 : ACode :=
 (.seq
  (.region false [] [⟨some 4, .mov (.c (.int .u16 0)), none, []⟩])
 (.seq
  (.region false [] [⟨some 5, .mov (.t 0), none, [0]⟩, ⟨some 6, .mov (.t 1), none, [1]⟩, ⟨some 7, .call 70 [.t 6], none, [6]⟩, ⟨some 8, .bin false .or (.t 5) (.t 7), none, [5, 7]⟩, ⟨some 4, .mov (.t 8), none, [8]⟩])
 .ret))
def rs_62 : List ARes := [.tmp 4]
theorem g_62 : Good Try.prog 62 ac_62 rs_62 := ⟨Try.f62, Try.f62.body.getD .skip, by kernel_rfl, by kernel_rfl, by kernel_rfl, ⟨by kernel_rfl, by kernel_rfl⟩, by kernel_rfl, by kernel_rfl⟩
theorem ok_62 {Γ : Env} (hΓ : EnvOk Try.prog Γ) (sp : Spec) (h : WB Γ ac_62 rs_62 sp) : CallOk Try.prog 62 sp := g_62.ok hΓ mix_ok sp h

/-- chantry/chantryref05.With -/
def ac_63 : ACode :=
 (.seq
  (.region false [] [⟨some 4, .mov (.c (.int .u16 0)), none, []⟩])
 (.seq
  (.seq
   (.region false [] [⟨some 5, .mov (.t 0), none, []⟩, ⟨some 6, .mov (.t 1), none, []⟩, ⟨some 7, .call 39 [.t 5, .t 6], none, [5, 6]⟩])
  (.cond (.t 7)
    (.drop [1, 7]
     (.seq
      (.region false [] [⟨some 8, .mov (.t 0), none, [0]⟩, ⟨some 4, .mov (.t 8), none, [8]⟩])
     .ret))
    (.drop [7]
     .skip)))
 (.seq
  (.region false [] [⟨some 9, .mov (.t 0), none, [0]⟩, ⟨some 10, .mov (.t 1), none, [1]⟩, ⟨some 11, .call 68 [.t 10], none, [10]⟩, ⟨some 12, .bin false .add (.t 9) (.t 11), none, [9, 11]⟩, ⟨some 4, .mov (.t 12), none, [12]⟩])
 .ret)))
def rs_63 : List ARes := [.tmp 4]
theorem g_63 : Good Try.prog 63 ac_63 rs_63 := ⟨Try.f63, Try.f63.body.getD .skip, by kernel_rfl, by kernel_rfl, by kernel_rfl, ⟨by kernel_rfl, by kernel_rfl⟩, by kernel_rfl, by kernel_rfl⟩
theorem ok_63 {Γ : Env} (hΓ : EnvOk Try.prog Γ) (sp : Spec) (h : WB Γ ac_63 rs_63 sp) : CallOk Try.prog 63 sp := g_63.ok hΓ mix_ok sp h

/-- chantry/chantryref05.List -/
def ac_64 : ACode :=
 (.seq
  (.region false [] [⟨some 2, .mov (.c (.slice none 0 0)), none, []⟩])
 (.seq
  (.region false [] [⟨some 3, .mov (.c (.slice none 0 0)), none, []⟩])
 (.seq
  (.seq
   (.region false [] [⟨some 4, .mov (.c (.int .i64 0)), none, []⟩])
  (.block 0
   (.loop [0, 3, 4]
    (.seq
     (.seq
      (.region false [] [⟨some 5, .mov (.t 4), none, []⟩, ⟨some 6, .bin false .lss (.t 5) (.c (.int .i64 16)), none, [5]⟩])
     (.cond (.t 6)
       (.drop [6]
        .skip)
       (.drop [0, 4, 6]
        (.exit 0))))
    (.seq
     (.block 1
      (.seq
       (.region false [] [⟨some 9, .mov (.t 0), none, []⟩, ⟨some 10, .mov (.t 4), none, []⟩, ⟨some 11, .cvt .u8 (.t 10), none, [10]⟩, ⟨some 12, .call 39 [.t 9, .t 11], none, [9, 11]⟩])
      (.cond (.t 12)
        (.drop [12]
         (.region false [] [⟨some 13, .mov (.t 3), none, [3]⟩, ⟨some 14, .mov (.t 4), none, []⟩, ⟨some 15, .cvt .u8 (.t 14), none, [14]⟩, ⟨some 16, .bsl 5 1 [.t 15], none, [15]⟩, ⟨some 17, .app 5 1 1 (.t 13) (.t 16), none, [13, 16]⟩, ⟨some 3, .mov (.t 17), none, [17]⟩]))
        (.drop [12]
         .skip))))
    (.region false [] [⟨some 7, .mov (.t 4), none, [4]⟩, ⟨some 8, .bin false .add (.t 7) (.c (.int .i64 1)), none, [7]⟩, ⟨some 4, .mov (.t 8), none, [8]⟩]))))))
 (.seq
  (.region false [] [⟨some 18, .mov (.t 3), none, [3]⟩, ⟨some 2, .mov (.t 18), none, [18]⟩])
 .ret))))
def rs_64 : List ARes := [.tmp 2]
theorem g_64 : Good Try.prog 64 ac_64 rs_64 := ⟨Try.f64, Try.f64.body.getD .skip, by kernel_rfl, by kernel_rfl, by kernel_rfl, ⟨by kernel_rfl, by kernel_rfl⟩, by kernel_rfl, by kernel_rfl⟩
theorem ok_64 {Γ : Env} (hΓ : EnvOk Try.prog Γ) (sp : Spec) (h : WB Γ ac_64 rs_64 sp) : CallOk Try.prog 64 sp := g_64.ok hΓ mix_ok sp h

/-- chantry/roll.Right -/
def ac_65 : ACode :=
 (.seq
  (.region false [] [⟨some 1, .box (.t 0), none, [0]⟩, ⟨some 2, .mov (.c (.bool false)), none, []⟩])
 (.seal_ 1
  (.seq
   (.region false [] [⟨some 3, .fad 0 (.t 1), none, []⟩, ⟨some 4, .ld false 1 (.t 3), none, [3]⟩, ⟨some 5, .bin false .geq (.t 4) (.c (.int .i64 0)), none, [4]⟩, ⟨some 6, .mov (.t 5), none, [5]⟩, ⟨some 7, .fad 0 (.t 1), some (6, true), []⟩, ⟨some 8, .ld false 1 (.t 7), some (6, true), [7]⟩, ⟨some 9, .bin false .leq (.t 8) (.c (.int .i64 1000)), some (6, true), [8]⟩, ⟨some 10, .pick (.t 6) (.t 9) (.c (.bool false)), none, [6, 9]⟩, ⟨some 11, .mov (.t 10), none, [10]⟩, ⟨some 12, .fad 1 (.t 1), some (11, true), [1]⟩, ⟨some 13, .ld false 1 (.t 12), some (11, true), [12]⟩, ⟨some 14, .bin false .neq (.t 13) (.c (.int .u16 0)), some (11, true), [13]⟩, ⟨some 15, .pick (.t 11) (.t 14) (.c (.bool false)), none, [11, 14]⟩, ⟨some 2, .mov (.t 15), none, [15]⟩])
  .ret)))
def rs_65 : List ARes := [.tmp 2]
theorem g_65 : Good Try.prog 65 ac_65 rs_65 := ⟨Try.f65, Try.f65.body.getD .skip, by kernel_rfl, by kernel_rfl, by kernel_rfl, ⟨by kernel_rfl, by kernel_rfl⟩, by kernel_rfl, by kernel_rfl⟩
theorem ok_65 {Γ : Env} (hΓ : EnvOk Try.prog Γ) (sp : Spec) (h : WB Γ ac_65 rs_65 sp) : CallOk Try.prog 65 sp := g_65.ok hΓ mix_ok sp h

/-- chantry/count.Without -/
def ac_66 : ACode :=
 (.seq
  (.region false [] [⟨some 4, .mov (.c (.int .u16 0)), none, []⟩])
 (.seq
  (.region false [] [⟨some 5, .mov (.t 0), none, [0]⟩, ⟨some 6, .mov (.t 1), none, [1]⟩, ⟨some 7, .call 70 [.t 6], none, [6]⟩, ⟨some 8, .bin false .andNot (.t 5) (.t 7), none, [5, 7]⟩, ⟨some 4, .mov (.t 8), none, [8]⟩])
 .ret))
def rs_66 : List ARes := [.tmp 4]
theorem g_66 : Good Try.prog 66 ac_66 rs_66 := ⟨Try.f66, Try.f66.body.getD .skip, by kernel_rfl, by kernel_rfl, by kernel_rfl, ⟨by kernel_rfl, by kernel_rfl⟩, by kernel_rfl, by kernel_rfl⟩
theorem ok_66 {Γ : Env} (hΓ : EnvOk Try.prog Γ) (sp : Spec) (h : WB Γ ac_66 rs_66 sp) : CallOk Try.prog 66 sp := g_66.ok hΓ mix_ok sp h

/-- chantry/chantryref05.held -/
def ac_67 : ACode :=
 (.seq
  (.region false [] [⟨some 2, .mov (.c (.int .i64 0)), none, []⟩])
 (.seq
  (.region false [] [⟨some 3, .mov (.t 0), none, [0]⟩, ⟨some 4, .mnn [.t 3, .c (.int .i64 16)], none, [3]⟩, ⟨some 5, .mxx [.c (.int .i64 1), .t 4], none, [4]⟩, ⟨some 2, .mov (.t 5), none, [5]⟩])
 .ret))
def rs_67 : List ARes := [.tmp 2]
theorem g_67 : Good Try.prog 67 ac_67 rs_67 := ⟨Try.f67, Try.f67.body.getD .skip, by kernel_rfl, by kernel_rfl, by kernel_rfl, ⟨by kernel_rfl, by kernel_rfl⟩, by kernel_rfl, by kernel_rfl⟩
theorem ok_67 {Γ : Env} (hΓ : EnvOk Try.prog Γ) (sp : Spec) (h : WB Γ ac_67 rs_67 sp) : CallOk Try.prog 67 sp := g_67.ok hΓ mix_ok sp h

/-- chantry/chantryref05.value -/
def ac_68 : ACode :=
 (.seq
  (.region false [] [⟨some 2, .mov (.c (.int .u16 0)), none, []⟩])
 (.seq
  (.seq
   (.region false [] [⟨some 5, .mov (.t 0), none, []⟩, ⟨some 6, .bin false .gtr (.t 5) (.c (.int .u8 15)), none, [5]⟩])
  (.cond (.t 6)
    (.drop [0, 6]
     (.seq
      (.region false [] [⟨some 2, .mov (.c (.int .u16 0)), none, []⟩])
     .ret))
    (.drop [6]
     .skip)))
 (.seq
  (.region false [] [⟨some 3, .mov (.c (.int .u16 1)), none, []⟩])
 (.seq
  (.seq
   (.region false [] [⟨some 4, .mov (.c (.int .i64 0)), none, []⟩])
  (.block 0
   (.loop [0, 3, 4]
    (.seq
     (.seq
      (.region false [] [⟨some 7, .mov (.t 4), none, []⟩, ⟨some 8, .mov (.t 0), none, []⟩, ⟨some 9, .cvt .i64 (.t 8), none, [8]⟩, ⟨some 10, .bin false .lss (.t 7) (.t 9), none, [7, 9]⟩])
     (.cond (.t 10)
       (.drop [10]
        .skip)
       (.drop [0, 4, 10]
        (.exit 0))))
    (.seq
     (.block 1
      (.region false [] [⟨some 13, .mov (.t 3), none, [3]⟩, ⟨some 14, .bin false .mul (.t 13) (.c (.int .u16 2)), none, [13]⟩, ⟨some 3, .mov (.t 14), none, [14]⟩]))
    (.region false [] [⟨some 11, .mov (.t 4), none, [4]⟩, ⟨some 12, .bin false .add (.t 11) (.c (.int .i64 1)), none, [11]⟩, ⟨some 4, .mov (.t 12), none, [12]⟩]))))))
 (.seq
  (.region false [] [⟨some 15, .mov (.t 3), none, [3]⟩, ⟨some 2, .mov (.t 15), none, [15]⟩])
 .ret)))))
def rs_68 : List ARes := [.tmp 2]
theorem g_68 : Good Try.prog 68 ac_68 rs_68 := ⟨Try.f68, Try.f68.body.getD .skip, by kernel_rfl, by kernel_rfl, by kernel_rfl, ⟨by kernel_rfl, by kernel_rfl⟩, by kernel_rfl, by kernel_rfl⟩
theorem ok_68 {Γ : Env} (hΓ : EnvOk Try.prog Γ) (sp : Spec) (h : WB Γ ac_68 rs_68 sp) : CallOk Try.prog 68 sp := g_68.ok hΓ mix_ok sp h

/-- cmp.Compare[uint8] -/
def ac_69 : ACode :=
 (.seq
  (.region false [] [⟨some 4, .mov (.c (.int .i64 0)), none, []⟩])
 (.seq
  (.region false [] [⟨some 7, .mov (.t 0), none, []⟩, ⟨some 8, .call 80 [.t 7], none, [7]⟩, ⟨some 5, .mov (.t 8), none, [8]⟩])
 (.seq
  (.region false [] [⟨some 9, .mov (.t 1), none, []⟩, ⟨some 10, .call 80 [.t 9], none, [9]⟩, ⟨some 6, .mov (.t 10), none, [10]⟩])
 (.seq
  (.seq
   (.region false [] [⟨some 11, .mov (.t 5), none, [5]⟩])
  (.cond (.t 11)
    (.drop [0, 1, 11]
     (.seq
      (.seq
       (.region false [] [⟨some 12, .mov (.t 6), none, [6]⟩])
      (.cond (.t 12)
        (.drop [12]
         (.seq
          (.region false [] [⟨some 4, .mov (.c (.int .i64 0)), none, []⟩])
         .ret))
        (.drop [12]
         .skip)))
     (.seq
      (.region false [] [⟨some 4, .mov (.c (.int .i64 (-1))), none, []⟩])
     .ret)))
    (.drop [11]
     .skip)))
 (.seq
  (.seq
   (.region false [] [⟨some 13, .mov (.t 6), none, [6]⟩])
  (.cond (.t 13)
    (.drop [0, 1, 13]
     (.seq
      (.region false [] [⟨some 4, .mov (.c (.int .i64 1)), none, []⟩])
     .ret))
    (.drop [13]
     .skip)))
 (.seq
  (.seq
   (.region false [] [⟨some 14, .mov (.t 0), none, []⟩, ⟨some 15, .mov (.t 1), none, []⟩, ⟨some 16, .bin false .lss (.t 14) (.t 15), none, [14, 15]⟩])
  (.cond (.t 16)
    (.drop [0, 1, 16]
     (.seq
      (.region false [] [⟨some 4, .mov (.c (.int .i64 (-1))), none, []⟩])
     .ret))
    (.drop [16]
     .skip)))
 (.seq
  (.seq
   (.region false [] [⟨some 17, .mov (.t 0), none, [0]⟩, ⟨some 18, .mov (.t 1), none, [1]⟩, ⟨some 19, .bin false .gtr (.t 17) (.t 18), none, [17, 18]⟩])
  (.cond (.t 19)
    (.drop [19]
     (.seq
      (.region false [] [⟨some 4, .mov (.c (.int .i64 1)), none, []⟩])
     .ret))
    (.drop [19]
     .skip)))
 (.seq
  (.region false [] [⟨some 4, .mov (.c (.int .i64 0)), none, []⟩])
 .ret))))))))
def rs_69 : List ARes := [.tmp 4]
theorem g_69 : Good Try.prog 69 ac_69 rs_69 := ⟨Try.f69, Try.f69.body.getD .skip, by kernel_rfl, by kernel_rfl, by kernel_rfl, ⟨by kernel_rfl, by kernel_rfl⟩, by kernel_rfl, by kernel_rfl⟩
theorem ok_69 {Γ : Env} (hΓ : EnvOk Try.prog Γ) (sp : Spec) (h : WB Γ ac_69 rs_69 sp) : CallOk Try.prog 69 sp := g_69.ok hΓ mix_ok sp h

/-- chantry/count.bit -/
def ac_70 : ACode :=
 (.seq
  (.region false [] [⟨some 2, .mov (.c (.int .u16 0)), none, []⟩])
 (.seq
  (.region false [] [⟨some 3, .mov (.t 0), none, [0]⟩, ⟨some 4, .bin false .shl (.c (.int .u64 1)) (.t 3), none, [3]⟩, ⟨some 5, .cvt .u16 (.t 4), none, [4]⟩, ⟨some 2, .mov (.t 5), none, [5]⟩])
 .ret))
def rs_70 : List ARes := [.tmp 2]
theorem g_70 : Good Try.prog 70 ac_70 rs_70 := ⟨Try.f70, Try.f70.body.getD .skip, by kernel_rfl, by kernel_rfl, by kernel_rfl, ⟨by kernel_rfl, by kernel_rfl⟩, by kernel_rfl, by kernel_rfl⟩
theorem ok_70 {Γ : Env} (hΓ : EnvOk Try.prog Γ) (sp : Spec) (h : WB Γ ac_70 rs_70 sp) : CallOk Try.prog 70 sp := g_70.ok hΓ mix_ok sp h

/-- math/bits.OnesCount16 -/
def ac_73 : ACode :=
 (.seq
  (.region false [] [⟨some 2, .mov (.c (.int .i64 0)), none, []⟩])
 (.seq
  (.draws (.tak 0 ⟨some 3, .mov (.t 0), none, []⟩ (.tak 1 ⟨some 4, .bin false .shr (.t 3) (.c (.int .u64 8)), none, []⟩ (.tak 2 ⟨some 5, .ixs (.c (.string bytes_5967fadc)) (.t 4), none, []⟩ (.tak 3 ⟨some 6, .mov (.t 0), none, []⟩ (.tak 4 ⟨some 7, .bin false .and (.t 6) (.c (.int .u16 255)), none, []⟩ (.tak 5 ⟨some 8, .ixs (.c (.string bytes_5967fadc)) (.t 7), none, []⟩ (.tak 6 ⟨some 9, .bin false .add (.t 5) (.t 8), none, []⟩ (.tak 7 ⟨some 10, .cvt .i64 (.t 9), none, []⟩ (.tak 8 ⟨some 2, .mov (.t 10), none, []⟩ .done))))))))) [[], [0], [1], [], [3], [4], [2, 5], [6], [7, 0, 1, 2, 3, 4, 5, 6, 7]] [⟨some 3, .mov (.t 0), none, []⟩, ⟨some 4, .bin false .shr (.t 3) (.c (.int .u64 8)), none, []⟩, ⟨some 5, .ixs (.c (.string bytes_5967fadc)) (.t 4), none, []⟩, ⟨some 6, .mov (.t 0), none, []⟩, ⟨some 7, .bin false .and (.t 6) (.c (.int .u16 255)), none, []⟩, ⟨some 8, .ixs (.c (.string bytes_5967fadc)) (.t 7), none, []⟩, ⟨some 9, .bin false .add (.t 5) (.t 8), none, []⟩, ⟨some 10, .cvt .i64 (.t 9), none, []⟩, ⟨some 2, .mov (.t 10), none, []⟩])
 (.drop [0, 3, 4, 5, 6, 7, 8, 9, 10]
  .ret)))
def rs_73 : List ARes := [.tmp 2]
theorem g_73 : Good Try.prog 73 ac_73 rs_73 := ⟨Try.f73, Try.f73.body.getD .skip, by kernel_rfl, by kernel_rfl, by kernel_rfl, ⟨by kernel_rfl, by kernel_rfl⟩, by kernel_rfl, by kernel_rfl⟩
theorem ok_73 {Γ : Env} (hΓ : EnvOk Try.prog Γ) (sp : Spec) (h : WB Γ ac_73 rs_73 sp) : CallOk Try.prog 73 sp := g_73.ok hΓ mix_ok sp h

/-- chantry/chantryref11.Right -/
def ac_76 : ACode :=
 (.seq
  (.region false [] [⟨some 1, .box (.t 0), none, [0]⟩, ⟨some 2, .mov (.c (.bool false)), none, []⟩])
 (.seal_ 1
  (.seq
   (.region false [] [⟨some 3, .fad 0 (.t 1), none, []⟩, ⟨some 4, .ld false 1 (.t 3), none, [3]⟩, ⟨some 5, .bin false .geq (.t 4) (.c (.int .i64 0)), none, [4]⟩, ⟨some 6, .mov (.t 5), none, [5]⟩, ⟨some 7, .fad 0 (.t 1), some (6, true), []⟩, ⟨some 8, .ld false 1 (.t 7), some (6, true), [7]⟩, ⟨some 9, .bin false .leq (.t 8) (.c (.int .i64 1000)), some (6, true), [8]⟩, ⟨some 10, .pick (.t 6) (.t 9) (.c (.bool false)), none, [6, 9]⟩, ⟨some 11, .mov (.t 10), none, [10]⟩, ⟨some 12, .fad 1 (.t 1), some (11, true), [1]⟩, ⟨some 13, .ld false 1 (.t 12), some (11, true), [12]⟩, ⟨some 14, .bin false .neq (.t 13) (.c (.int .u16 0)), some (11, true), [13]⟩, ⟨some 15, .pick (.t 11) (.t 14) (.c (.bool false)), none, [11, 14]⟩, ⟨some 2, .mov (.t 15), none, [15]⟩])
  .ret)))
def rs_76 : List ARes := [.tmp 2]
theorem g_76 : Good Try.prog 76 ac_76 rs_76 := ⟨Try.f76, Try.f76.body.getD .skip, by kernel_rfl, by kernel_rfl, by kernel_rfl, ⟨by kernel_rfl, by kernel_rfl⟩, by kernel_rfl, by kernel_rfl⟩
theorem ok_76 {Γ : Env} (hΓ : EnvOk Try.prog Γ) (sp : Spec) (h : WB Γ ac_76 rs_76 sp) : CallOk Try.prog 76 sp := g_76.ok hΓ mix_ok sp h

/-- chantry/chantryref05.Without -/
def ac_77 : ACode :=
 (.seq
  (.region false [] [⟨some 4, .mov (.c (.int .u16 0)), none, []⟩])
 (.seq
  (.seq
   (.region false [] [⟨some 5, .mov (.t 0), none, []⟩, ⟨some 6, .mov (.t 1), none, []⟩, ⟨some 7, .call 39 [.t 5, .t 6], none, [5, 6]⟩, ⟨some 8, .un .not (.t 7), none, [7]⟩])
  (.cond (.t 8)
    (.drop [1, 8]
     (.seq
      (.region false [] [⟨some 9, .mov (.t 0), none, [0]⟩, ⟨some 4, .mov (.t 9), none, [9]⟩])
     .ret))
    (.drop [8]
     .skip)))
 (.seq
  (.region false [] [⟨some 10, .mov (.t 0), none, [0]⟩, ⟨some 11, .mov (.t 1), none, [1]⟩, ⟨some 12, .call 68 [.t 11], none, [11]⟩, ⟨some 13, .bin false .sub (.t 10) (.t 12), none, [10, 12]⟩, ⟨some 4, .mov (.t 13), none, [13]⟩])
 .ret)))
def rs_77 : List ARes := [.tmp 4]
theorem g_77 : Good Try.prog 77 ac_77 rs_77 := ⟨Try.f77, Try.f77.body.getD .skip, by kernel_rfl, by kernel_rfl, by kernel_rfl, ⟨by kernel_rfl, by kernel_rfl⟩, by kernel_rfl, by kernel_rfl⟩
theorem ok_77 {Γ : Env} (hΓ : EnvOk Try.prog Γ) (sp : Spec) (h : WB Γ ac_77 rs_77 sp) : CallOk Try.prog 77 sp := g_77.ok hΓ mix_ok sp h

/-- chantry/count.held -/
def ac_78 : ACode :=
 (.seq
  (.region false [] [⟨some 2, .mov (.c (.int .i64 0)), none, []⟩])
 (.seq
  (.region false [] [⟨some 3, .mov (.t 0), none, [0]⟩, ⟨some 4, .mnn [.t 3, .c (.int .i64 16)], none, [3]⟩, ⟨some 5, .mxx [.c (.int .i64 1), .t 4], none, [4]⟩, ⟨some 2, .mov (.t 5), none, [5]⟩])
 .ret))
def rs_78 : List ARes := [.tmp 2]
theorem g_78 : Good Try.prog 78 ac_78 rs_78 := ⟨Try.f78, Try.f78.body.getD .skip, by kernel_rfl, by kernel_rfl, by kernel_rfl, ⟨by kernel_rfl, by kernel_rfl⟩, by kernel_rfl, by kernel_rfl⟩
theorem ok_78 {Γ : Env} (hΓ : EnvOk Try.prog Γ) (sp : Spec) (h : WB Γ ac_78 rs_78 sp) : CallOk Try.prog 78 sp := g_78.ok hΓ mix_ok sp h

/-- chantry/count.Faulty -/
def ac_79 : ACode :=
 (.seq
  (.region false [] [⟨some 2, .mov (.c (.int .i64 0)), none, []⟩])
 (.seq
  (.region false [] [⟨some 3, .mov (.t 0), none, [0]⟩, ⟨some 4, .call 78 [.t 3], none, [3]⟩, ⟨some 5, .bin false .sub (.t 4) (.c (.int .i64 1)), none, [4]⟩, ⟨some 6, .bin false .quo (.t 5) (.c (.int .i64 3)), none, [5]⟩, ⟨some 2, .mov (.t 6), none, [6]⟩])
 .ret))
def rs_79 : List ARes := [.tmp 2]
theorem g_79 : Good Try.prog 79 ac_79 rs_79 := ⟨Try.f79, Try.f79.body.getD .skip, by kernel_rfl, by kernel_rfl, by kernel_rfl, ⟨by kernel_rfl, by kernel_rfl⟩, by kernel_rfl, by kernel_rfl⟩
theorem ok_79 {Γ : Env} (hΓ : EnvOk Try.prog Γ) (sp : Spec) (h : WB Γ ac_79 rs_79 sp) : CallOk Try.prog 79 sp := g_79.ok hΓ mix_ok sp h

/-- cmp.isNaN[uint8] -/
def ac_80 : ACode :=
 (.seq
  (.region false [] [⟨some 2, .mov (.c (.bool false)), none, []⟩])
 (.seq
  (.region false [] [⟨some 3, .mov (.t 0), none, []⟩, ⟨some 4, .mov (.t 0), none, [0]⟩, ⟨some 5, .bin false .neq (.t 3) (.t 4), none, [3, 4]⟩, ⟨some 2, .mov (.t 5), none, [5]⟩])
 .ret))
def rs_80 : List ARes := [.tmp 2]
theorem g_80 : Good Try.prog 80 ac_80 rs_80 := ⟨Try.f80, Try.f80.body.getD .skip, by kernel_rfl, by kernel_rfl, by kernel_rfl, ⟨by kernel_rfl, by kernel_rfl⟩, by kernel_rfl, by kernel_rfl⟩
theorem ok_80 {Γ : Env} (hΓ : EnvOk Try.prog Γ) (sp : Spec) (h : WB Γ ac_80 rs_80 sp) : CallOk Try.prog 80 sp := g_80.ok hΓ mix_ok sp h

end Go.Proofs.Ytbponegjfccgfaa.Am
