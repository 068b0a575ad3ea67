/-
  THE FUNCTIONS' ABSTRACT CODE, as Lean's own reduction of compCode printed it, with notes (genac.py); each is held against the translation by the kernel.
-/
import Derived.Test.YtkbgndebfcjojaaProg
import Derived.Test.YtkbgndebfcjojaaZQ3
namespace Go.Proofs.Ytkbgndebfcjojaa.Am
set_option linter.unusedSimpArgs false
set_option linter.unusedVariables false
open Go Go.Proofs
set_option maxRecDepth 100000

theorem mix_ok : Try.prog.follows .mixedOrders = true := by kernel_rfl

def bytes_5967fadc : ByteArray := ⟨#[0, 1, 1, 2, 1, 2, 2, 3, 1, 2, 2, 3, 2, 3, 3, 4, 1, 2, 2, 3, 2, 3, 3, 4, 2, 3, 3, 4, 3, 4, 4, 5, 1, 2, 2, 3, 2, 3, 3, 4, 2, 3, 3, 4, 3, 4, 4, 5, 2, 3, 3, 4, 3, 4, 4, 5, 3, 4, 4, 5, 4, 5, 5, 6, 1, 2, 2, 3, 2, 3, 3, 4, 2, 3, 3, 4, 3, 4, 4, 5, 2, 3, 3, 4, 3, 4, 4, 5, 3, 4, 4, 5, 4, 5, 5, 6, 2, 3, 3, 4, 3, 4, 4, 5, 3, 4, 4, 5, 4, 5, 5, 6, 3, 4, 4, 5, 4, 5, 5, 6, 4, 5, 5, 6, 5, 6, 6, 7, 1, 2, 2, 3, 2, 3, 3, 4, 2, 3, 3, 4, 3, 4, 4, 5, 2, 3, 3, 4, 3, 4, 4, 5, 3, 4, 4, 5, 4, 5, 5, 6, 2, 3, 3, 4, 3, 4, 4, 5, 3, 4, 4, 5, 4, 5, 5, 6, 3, 4, 4, 5, 4, 5, 5, 6, 4, 5, 5, 6, 5, 6, 6, 7, 2, 3, 3, 4, 3, 4, 4, 5, 3, 4, 4, 5, 4, 5, 5, 6, 3, 4, 4, 5, 4, 5, 5, 6, 4, 5, 5, 6, 5, 6, 6, 7, 3, 4, 4, 5, 4, 5, 5, 6, 4, 5, 5, 6, 5, 6, 6, 7, 4, 5, 5, 6, 5, 6, 6, 7, 5, 6, 6, 7, 6, 7, 7, 8]⟩
/-- chantry/vote.Take -/
def ac_21 : ACode :=
 (.seq
  (.region false [] [⟨some 6, .box (.t 0), none, [0]⟩, ⟨some 12, .alloc [.bool false, .bool false, .bool false, .slice none 0 0, .slice none 0 0], none, []⟩, ⟨some 13, .mov (.c (.slice none 0 0)), none, []⟩, ⟨some 14, .mov (.c (.string ⟨#[]⟩)), none, [13]⟩, ⟨some 15, .mov (.c (.bool false)), none, [14]⟩, ⟨some 16, .mov (.c (.int .i64 0)), none, [15]⟩])
 (.seal_ 6
  (.seq
   (.region false [] [⟨some 26, .mkf 39 [.t 6], none, []⟩, ⟨some 17, .mov (.t 26), none, [26]⟩])
  (.seq
   (.region false [] [⟨some 27, .mov (.t 1), none, []⟩, ⟨some 28, .call 41 [.t 27], none, [27]⟩, ⟨some 18, .mov (.t 28), none, [28]⟩])
  (.seq
   (.block 0
    (.seq
     (.region false [] [⟨some 30, .mov (.t 3), none, []⟩, ⟨some 31, .bin false .lss (.t 30) (.c (.int .i64 1)), none, [30]⟩, ⟨some 32, .mov (.t 31), none, [31]⟩, ⟨some 33, .mov (.t 3), some (32, false), []⟩, ⟨some 34, .bin false .gtr (.t 33) (.c (.int .i64 3)), some (32, false), [33]⟩, ⟨some 35, .pick (.t 32) (.c (.bool true)) (.t 34), none, [32, 34]⟩, ⟨some 36, .mov (.t 35), none, [35]⟩, ⟨some 37, .mov (.t 5), some (36, false), []⟩, ⟨some 38, .len true (.t 37), some (36, false), [37]⟩, ⟨some 39, .bin false .gtr (.t 38) (.c (.int .i64 1000)), some (36, false), [38]⟩, ⟨some 40, .pick (.t 36) (.c (.bool true)) (.t 39), none, [36, 39]⟩, ⟨some 29, .mov (.t 40), none, [40]⟩])
    (.cond (.t 29)
      (.drop [1, 2, 3, 4, 5, 6, 18, 29]
       (.seq
        (.region false [] [⟨some 41, .mov (.t 17), none, [17]⟩, ⟨some 42, .calv (.t 41) [.c (.int .i64 2)], none, [41]⟩, ⟨some 43, .ext 0 (.t 42), none, []⟩, ⟨some 44, .ext 1 (.t 42), none, []⟩, ⟨some 45, .ext 2 (.t 42), none, []⟩, ⟨some 46, .ext 3 (.t 42), none, []⟩, ⟨some 47, .ext 4 (.t 42), none, [42]⟩, ⟨none, .st 5 (.t 12) (.t 43), none, [43]⟩, ⟨some 13, .mov (.t 44), none, [44]⟩, ⟨some 14, .mov (.t 45), none, [45]⟩, ⟨some 15, .mov (.t 46), none, [46]⟩, ⟨some 16, .mov (.t 47), none, [47]⟩])
       .ret))
      (.drop [29]
       (.seq
        (.region false [] [⟨some 49, .mov (.t 1), none, []⟩, ⟨some 50, .mov (.t 4), none, []⟩, ⟨some 51, .call 33 [.t 49, .t 50], none, [49, 50]⟩, ⟨some 52, .un .not (.t 51), none, [51]⟩, ⟨some 53, .mov (.t 52), none, [52]⟩, ⟨some 54, .mov (.t 1), some (53, false), [1]⟩, ⟨some 55, .mov (.t 2), some (53, false), []⟩, ⟨some 56, .call 33 [.t 54, .t 55], some (53, false), [54, 55]⟩, ⟨some 57, .un .not (.t 56), some (53, false), [56]⟩, ⟨some 58, .pick (.t 53) (.c (.bool true)) (.t 57), none, [53, 57]⟩, ⟨some 59, .mov (.t 58), none, [58]⟩, ⟨some 60, .mov (.t 3), some (59, false), []⟩, ⟨some 61, .bin false .eql (.t 60) (.c (.int .i64 1)), some (59, false), [60]⟩, ⟨some 62, .mov (.t 61), some (59, false), [61]⟩, ⟨some 63, .mov (.t 4), some (62, true), []⟩, ⟨some 64, .mov (.t 2), some (62, true), [2]⟩, ⟨some 65, .bin false .neq (.t 63) (.t 64), some (62, true), [63, 64]⟩, ⟨some 66, .pick (.t 62) (.t 65) (.c (.bool false)), some (59, false), [62, 65]⟩, ⟨some 67, .pick (.t 59) (.c (.bool true)) (.t 66), none, [59, 66]⟩, ⟨some 48, .mov (.t 67), none, [67]⟩])
       (.cond (.t 48)
         (.drop [3, 4, 5, 6, 18, 48]
          (.seq
           (.region false [] [⟨some 68, .mov (.t 17), none, [17]⟩, ⟨some 69, .calv (.t 68) [.c (.int .i64 10)], none, [68]⟩, ⟨some 70, .ext 0 (.t 69), none, []⟩, ⟨some 71, .ext 1 (.t 69), none, []⟩, ⟨some 72, .ext 2 (.t 69), none, []⟩, ⟨some 73, .ext 3 (.t 69), none, []⟩, ⟨some 74, .ext 4 (.t 69), none, [69]⟩, ⟨none, .st 5 (.t 12) (.t 70), none, [70]⟩, ⟨some 13, .mov (.t 71), none, [71]⟩, ⟨some 14, .mov (.t 72), none, [72]⟩, ⟨some 15, .mov (.t 73), none, [73]⟩, ⟨some 16, .mov (.t 74), none, [74]⟩])
          .ret))
         (.drop [48]
          (.seq
           (.region false [] [⟨some 76, .mov (.t 3), none, []⟩, ⟨some 77, .bin false .eql (.t 76) (.c (.int .i64 1)), none, [76]⟩, ⟨some 78, .mov (.t 77), none, [77]⟩, ⟨some 79, .fad 0 (.t 6), some (78, true), []⟩, ⟨some 80, .ld false 1 (.t 79), some (78, true), [79]⟩, ⟨some 81, .pick (.t 78) (.t 80) (.c (.bool false)), none, [78, 80]⟩, ⟨some 75, .mov (.t 81), none, [81]⟩])
          (.cond (.t 75)
            (.drop [3, 4, 5, 6, 18, 75]
             (.seq
              (.region false [] [⟨some 82, .mov (.t 17), none, [17]⟩, ⟨some 83, .calv (.t 82) [.c (.int .i64 6)], none, [82]⟩, ⟨some 84, .ext 0 (.t 83), none, []⟩, ⟨some 85, .ext 1 (.t 83), none, []⟩, ⟨some 86, .ext 2 (.t 83), none, []⟩, ⟨some 87, .ext 3 (.t 83), none, []⟩, ⟨some 88, .ext 4 (.t 83), none, [83]⟩, ⟨none, .st 5 (.t 12) (.t 84), none, [84]⟩, ⟨some 13, .mov (.t 85), none, [85]⟩, ⟨some 14, .mov (.t 86), none, [86]⟩, ⟨some 15, .mov (.t 87), none, [87]⟩, ⟨some 16, .mov (.t 88), none, [88]⟩])
             .ret))
            (.drop [75]
             .skip))))))))))
  (.seq
   (.region false [] [⟨some 89, .ld true 5 (.t 6), none, [6]⟩, ⟨some 90, .call 40 [.t 89], none, [89]⟩, ⟨some 19, .alloc [.bool false, .bool false, .bool false, .slice none 0 0, .slice none 0 0], none, []⟩, ⟨none, .st 5 (.t 19) (.t 90), none, [90]⟩])
  (.seq
   (.seq
    (.region false [] [⟨some 91, .mov (.t 3), none, []⟩, ⟨some 92, .bin false .eql (.t 91) (.c (.int .i64 1)), none, [91]⟩])
   (.cond (.t 92)
     (.drop [3, 4, 17, 18, 92]
      (.seq
       (.region false [] [⟨some 93, .fad 0 (.t 19), none, []⟩, ⟨none, .st 1 (.t 93) (.c (.bool true)), none, [93]⟩])
      (.seq
       (.region false [] [⟨some 94, .ld true 5 (.t 19), none, [19]⟩, ⟨some 95, .mov (.t 5), none, [5]⟩, ⟨some 96, .bld [.int .i64 0, .string ⟨#[]⟩] [(0, 1, .c (.int .i64 2)), (1, 1, .t 95)], none, [95]⟩, ⟨some 97, .bsl 74 2 [.t 96], none, [96]⟩, ⟨none, .st 5 (.t 12) (.t 94), none, [94]⟩, ⟨some 13, .mov (.t 97), none, [97]⟩, ⟨some 14, .mov (.c (.string ⟨#[]⟩)), none, []⟩, ⟨some 15, .mov (.c (.bool false)), none, []⟩, ⟨some 16, .mov (.c (.int .i64 0)), none, []⟩])
      .ret)))
     (.drop [92]
      .skip)))
  (.seq
   (.region false [] [⟨some 98, .fad 3 (.t 19), none, []⟩, ⟨some 99, .mov (.t 18), none, []⟩, ⟨some 100, .call 42 [.t 99], none, [99]⟩, ⟨some 20, .mov (.t 98), none, [98]⟩, ⟨some 21, .mov (.t 100), none, [100]⟩])
  (.seq
   (.seq
    (.region false [] [⟨some 101, .mov (.t 3), none, []⟩, ⟨some 102, .bin false .eql (.t 101) (.c (.int .i64 3)), none, [101]⟩])
   (.cond (.t 102)
     (.drop [20, 21, 102]
      (.region false [] [⟨some 103, .fad 4 (.t 19), none, []⟩, ⟨some 104, .mov (.t 18), none, []⟩, ⟨some 105, .call 43 [.t 104], none, [104]⟩, ⟨some 20, .mov (.t 103), none, [103]⟩, ⟨some 21, .mov (.t 105), none, [105]⟩]))
     (.drop [102]
      .skip)))
  (.seq
   (.region false [] [⟨some 107, .mov (.t 20), none, []⟩, ⟨some 108, .chk (.t 107), none, [107]⟩, ⟨some 109, .ld false 1 (.t 108), none, [108]⟩, ⟨some 110, .mov (.t 4), none, [4]⟩, ⟨some 111, .mov (.t 5), none, []⟩, ⟨some 112, .call 44 [.t 109, .t 110, .t 111], none, [109, 110, 111]⟩, ⟨some 106, .mov (.t 112), none, [112]⟩, ⟨some 113, .ext 0 (.t 106), none, []⟩, ⟨some 114, .ext 1 (.t 106), none, []⟩, ⟨some 115, .ext 2 (.t 106), none, [106]⟩, ⟨some 22, .mov (.t 113), none, [113]⟩, ⟨some 23, .mov (.t 114), none, [114]⟩, ⟨some 24, .mov (.t 115), none, [115]⟩])
  (.seq
   (.seq
    (.region false [] [⟨some 116, .mov (.t 24), none, [24]⟩, ⟨some 117, .un .not (.t 116), none, [116]⟩])
   (.cond (.t 117)
     (.drop [3, 5, 18, 19, 20, 21, 22, 23, 117]
      (.seq
       (.region false [] [⟨some 118, .mov (.t 17), none, [17]⟩, ⟨some 119, .calv (.t 118) [.c (.int .i64 6)], none, [118]⟩, ⟨some 120, .ext 0 (.t 119), none, []⟩, ⟨some 121, .ext 1 (.t 119), none, []⟩, ⟨some 122, .ext 2 (.t 119), none, []⟩, ⟨some 123, .ext 3 (.t 119), none, []⟩, ⟨some 124, .ext 4 (.t 119), none, [119]⟩, ⟨none, .st 5 (.t 12) (.t 120), none, [120]⟩, ⟨some 13, .mov (.t 121), none, [121]⟩, ⟨some 14, .mov (.t 122), none, [122]⟩, ⟨some 15, .mov (.t 123), none, [123]⟩, ⟨some 16, .mov (.t 124), none, [124]⟩])
      .ret))
     (.drop [17, 117]
      .skip)))
  (.seq
   (.region false [] [⟨some 125, .mov (.t 20), none, [20]⟩, ⟨some 126, .mov (.t 22), none, [22]⟩, ⟨some 127, .chk (.t 125), none, [125]⟩, ⟨none, .st 1 (.t 127) (.t 126), none, [126, 127]⟩])
  (.seq
   (.region false [] [⟨some 25, .mov (.c (.slice none 0 0)), none, []⟩])
  (.seq
   (.seq
    (.region false [] [⟨some 128, .mov (.t 23), none, []⟩, ⟨some 129, .mov (.t 21), none, [21]⟩, ⟨some 130, .bin false .geq (.t 128) (.t 129), none, [128, 129]⟩])
   (.cond (.t 130)
     (.drop [25, 130]
      (.region false [] [⟨some 131, .mov (.t 5), none, []⟩, ⟨some 132, .call 45 [.t 19, .t 131], none, [131]⟩, ⟨some 25, .mov (.t 132), none, [132]⟩]))
     (.drop [130]
      .skip)))
  (.seq
   (.seq
    (.region false [] [⟨some 133, .mov (.t 3), none, [3]⟩, ⟨some 134, .bin false .eql (.t 133) (.c (.int .i64 3)), none, [133]⟩, ⟨some 135, .mov (.t 134), none, [134]⟩, ⟨some 136, .fad 2 (.t 19), some (135, true), []⟩, ⟨some 137, .ld false 1 (.t 136), some (135, true), [136]⟩, ⟨some 138, .un .not (.t 137), some (135, true), [137]⟩, ⟨some 139, .pick (.t 135) (.t 138) (.c (.bool false)), none, [135, 138]⟩, ⟨some 140, .mov (.t 139), none, [139]⟩, ⟨some 141, .mov (.t 23), some (140, true), [23]⟩, ⟨some 142, .mov (.t 18), some (140, true), [18]⟩, ⟨some 143, .call 46 [.t 142], some (140, true), [142]⟩, ⟨some 144, .bin false .geq (.t 141) (.t 143), some (140, true), [141, 143]⟩, ⟨some 145, .pick (.t 140) (.t 144) (.c (.bool false)), none, [140, 144]⟩])
   (.cond (.t 145)
     (.drop [145]
      (.seq
       (.region false [] [⟨some 146, .fad 2 (.t 19), none, []⟩, ⟨none, .st 1 (.t 146) (.c (.bool true)), none, [146]⟩])
      (.seq
       (.region false [] [⟨some 147, .ld true 5 (.t 19), none, [19]⟩, ⟨some 148, .mov (.t 25), none, [25]⟩, ⟨some 149, .mov (.t 5), none, [5]⟩, ⟨none, .st 5 (.t 12) (.t 147), none, [147]⟩, ⟨some 13, .mov (.t 148), none, [148]⟩, ⟨some 14, .mov (.t 149), none, [149]⟩, ⟨some 15, .mov (.c (.bool true)), none, []⟩, ⟨some 16, .mov (.c (.int .i64 0)), none, []⟩])
      .ret)))
     (.drop [5, 145]
      .skip)))
  (.seq
   (.region false [] [⟨some 150, .ld true 5 (.t 19), none, [19]⟩, ⟨some 151, .mov (.t 25), none, [25]⟩, ⟨none, .st 5 (.t 12) (.t 150), none, [150]⟩, ⟨some 13, .mov (.t 151), none, [151]⟩, ⟨some 14, .mov (.c (.string ⟨#[]⟩)), none, []⟩, ⟨some 15, .mov (.c (.bool false)), none, []⟩, ⟨some 16, .mov (.c (.int .i64 0)), none, []⟩])
  .ret))))))))))))))))
def rs_21 : List ARes := [.cell 12 true 5, .tmp 13, .tmp 14, .tmp 15, .tmp 16]
theorem g_21 : Good Try.prog 21 ac_21 rs_21 := ⟨Try.f21, Try.f21.body.getD .skip, by kernel_rfl, by kernel_rfl, by kernel_rfl, ⟨by kernel_rfl, by kernel_rfl⟩, by kernel_rfl, by kernel_rfl⟩
theorem ok_21 {Γ : Env} (hΓ : EnvOk Try.prog Γ) (sp : Spec) (h : WB Γ ac_21 rs_21 sp) : CallOk Try.prog 21 sp := g_21.ok hΓ mix_ok sp h

/-- chantry/count.Has -/
def ac_33 : ACode :=
 (.seq
  (.region false [] [⟨some 4, .mov (.c (.bool false)), none, []⟩])
 (.seq
  (.region false [] [⟨some 5, .mov (.t 0), none, [0]⟩, ⟨some 6, .mov (.t 1), none, [1]⟩, ⟨some 7, .call 58 [.t 6], none, [6]⟩, ⟨some 8, .bin false .and (.t 5) (.t 7), none, [5, 7]⟩, ⟨some 9, .bin false .neq (.t 8) (.c (.int .u16 0)), none, [8]⟩, ⟨some 4, .mov (.t 9), none, [9]⟩])
 .ret))
def rs_33 : List ARes := [.tmp 4]
theorem g_33 : Good Try.prog 33 ac_33 rs_33 := ⟨Try.f33, Try.f33.body.getD .skip, by kernel_rfl, by kernel_rfl, by kernel_rfl, ⟨by kernel_rfl, by kernel_rfl⟩, by kernel_rfl, by kernel_rfl⟩
theorem ok_33 {Γ : Env} (hΓ : EnvOk Try.prog Γ) (sp : Spec) (h : WB Γ ac_33 rs_33 sp) : CallOk Try.prog 33 sp := g_33.ok hΓ mix_ok sp h

/-- chantry/chantryref05.Has -/
def ac_35 : ACode :=
 (.seq
  (.region false [] [⟨some 4, .mov (.c (.bool false)), none, []⟩])
 (.seq
  (.region false [] [⟨some 5, .mov (.t 1), none, []⟩, ⟨some 6, .bin false .leq (.t 5) (.c (.int .u8 15)), none, [5]⟩, ⟨some 7, .mov (.t 6), none, [6]⟩, ⟨some 8, .mov (.t 0), some (7, true), [0]⟩, ⟨some 9, .mov (.t 1), some (7, true), [1]⟩, ⟨some 10, .call 60 [.t 9], some (7, true), [9]⟩, ⟨some 11, .bin false .quo (.t 8) (.t 10), some (7, true), [8, 10]⟩, ⟨some 12, .bin false .rem (.t 11) (.c (.int .u16 2)), some (7, true), [11]⟩, ⟨some 13, .bin false .eql (.t 12) (.c (.int .u16 1)), some (7, true), [12]⟩, ⟨some 14, .pick (.t 7) (.t 13) (.c (.bool false)), none, [7, 13]⟩, ⟨some 4, .mov (.t 14), none, [14]⟩])
 .ret))
def rs_35 : List ARes := [.tmp 4]
theorem g_35 : Good Try.prog 35 ac_35 rs_35 := ⟨Try.f35, Try.f35.body.getD .skip, by kernel_rfl, by kernel_rfl, by kernel_rfl, ⟨by kernel_rfl, by kernel_rfl⟩, by kernel_rfl, by kernel_rfl⟩
theorem ok_35 {Γ : Env} (hΓ : EnvOk Try.prog Γ) (sp : Spec) (h : WB Γ ac_35 rs_35 sp) : CallOk Try.prog 35 sp := g_35.ok hΓ mix_ok sp h

/-- chantry/vote.Take$1 -/
def ac_39 : ACode :=
 (.seq
  (.region false [] [⟨some 3, .alloc [.bool false, .bool false, .bool false, .slice none 0 0, .slice none 0 0], none, []⟩, ⟨some 4, .mov (.c (.slice none 0 0)), none, []⟩, ⟨some 5, .mov (.c (.string ⟨#[]⟩)), none, [4]⟩, ⟨some 6, .mov (.c (.bool false)), none, [5]⟩, ⟨some 7, .mov (.c (.int .i64 0)), none, [6]⟩])
 (.seq
  (.region false [] [⟨some 8, .ld true 5 (.t 1), none, [1]⟩, ⟨some 9, .call 40 [.t 8], none, [8]⟩, ⟨some 10, .mov (.t 0), none, [0]⟩, ⟨none, .st 5 (.t 3) (.t 9), none, [9]⟩, ⟨some 4, .mov (.c (.slice none 0 0)), none, []⟩, ⟨some 5, .mov (.c (.string ⟨#[]⟩)), none, []⟩, ⟨some 6, .mov (.c (.bool false)), none, []⟩, ⟨some 7, .mov (.t 10), none, [10]⟩])
 .ret))
def rs_39 : List ARes := [.cell 3 true 5, .tmp 4, .tmp 5, .tmp 6, .tmp 7]
theorem g_39 : Good Try.prog 39 ac_39 rs_39 := ⟨Try.f39, Try.f39.body.getD .skip, by kernel_rfl, by kernel_rfl, by kernel_rfl, ⟨by kernel_rfl, by kernel_rfl⟩, by kernel_rfl, by kernel_rfl⟩
theorem ok_39 {Γ : Env} (hΓ : EnvOk Try.prog Γ) (sp : Spec) (h : WB Γ ac_39 rs_39 sp) : CallOk Try.prog 39 sp := g_39.ok hΓ mix_ok sp h

/-- (chantry/vote.Case).own -/
def ac_40 : ACode :=
 (.seq
  (.region false [] [⟨some 1, .box (.t 0), none, [0]⟩, ⟨some 2, .alloc [.bool false, .bool false, .bool false, .slice none 0 0, .slice none 0 0], none, []⟩])
 (.seq
  (.draws (.tak 0 ⟨some 3, .fad 3 (.t 1), none, []⟩ (.tak 3 ⟨some 6, .fad 4 (.t 1), none, []⟩ (.alt 1 ⟨some 4, .ld false 1 (.t 3), none, []⟩ (.alt 2 ⟨some 5, .call 48 [.t 4], none, []⟩ (.alt 4 ⟨some 7, .ld false 1 (.t 6), none, []⟩ (.tak 6 ⟨some 9, .fad 3 (.t 1), none, []⟩ (.alt 5 ⟨some 8, .call 48 [.t 7], none, []⟩ (.alt 7 ⟨none, .st 1 (.t 9) (.t 5), none, []⟩ (.tak 8 ⟨some 10, .fad 4 (.t 1), none, []⟩ (.alt 9 ⟨none, .st 1 (.t 10) (.t 8), none, []⟩ .done .stop)) .stop) .stop)) .stop) (.alt 4 ⟨some 7, .ld false 1 (.t 6), none, []⟩ (.alt 2 ⟨some 5, .call 48 [.t 4], none, []⟩ (.tak 6 ⟨some 9, .fad 3 (.t 1), none, []⟩ (.alt 5 ⟨some 8, .call 48 [.t 7], none, []⟩ (.alt 7 ⟨none, .st 1 (.t 9) (.t 5), none, []⟩ (.tak 8 ⟨some 10, .fad 4 (.t 1), none, []⟩ (.alt 9 ⟨none, .st 1 (.t 10) (.t 8), none, []⟩ .done .stop)) .stop) .stop)) .stop) .stop)) (.alt 4 ⟨some 7, .ld false 1 (.t 6), none, []⟩ (.alt 1 ⟨some 4, .ld false 1 (.t 3), none, []⟩ (.alt 2 ⟨some 5, .call 48 [.t 4], none, []⟩ (.tak 6 ⟨some 9, .fad 3 (.t 1), none, []⟩ (.alt 5 ⟨some 8, .call 48 [.t 7], none, []⟩ (.alt 7 ⟨none, .st 1 (.t 9) (.t 5), none, []⟩ (.tak 8 ⟨some 10, .fad 4 (.t 1), none, []⟩ (.alt 9 ⟨none, .st 1 (.t 10) (.t 8), none, []⟩ .done .stop)) .stop) .stop)) .stop) .stop) .stop)))) [[], [0], [1], [], [3], [4, 2], [0, 1, 2, 3, 4], [6, 2, 5, 0, 1, 2, 3, 4], [0, 1, 2, 3, 4, 5, 6, 7], [8, 5, 7, 0, 1, 2, 3, 4, 5, 6, 7]] [⟨some 3, .fad 3 (.t 1), none, []⟩, ⟨some 4, .ld false 1 (.t 3), none, []⟩, ⟨some 5, .call 48 [.t 4], none, []⟩, ⟨some 6, .fad 4 (.t 1), none, []⟩, ⟨some 7, .ld false 1 (.t 6), none, []⟩, ⟨some 8, .call 48 [.t 7], none, []⟩, ⟨some 9, .fad 3 (.t 1), none, []⟩, ⟨none, .st 1 (.t 9) (.t 5), none, []⟩, ⟨some 10, .fad 4 (.t 1), none, []⟩, ⟨none, .st 1 (.t 10) (.t 8), none, []⟩])
 (.drop [3, 4, 5, 6, 7, 8, 9, 10]
  (.pack [1, 2]
   (.seq
    (.region false [] [⟨some 11, .ld true 5 (.t 1), none, [1]⟩, ⟨none, .st 5 (.t 2) (.t 11), none, [11]⟩])
   .ret)))))
def rs_40 : List ARes := [.cell 2 true 5]
theorem g_40 : Good Try.prog 40 ac_40 rs_40 := ⟨Try.f40, Try.f40.body.getD .skip, by kernel_rfl, by kernel_rfl, by kernel_rfl, ⟨by kernel_rfl, by kernel_rfl⟩, by kernel_rfl, by kernel_rfl⟩
theorem ok_40 {Γ : Env} (hΓ : EnvOk Try.prog Γ) (sp : Spec) (h : WB Γ ac_40 rs_40 sp) : CallOk Try.prog 40 sp := g_40.ok hΓ mix_ok sp h

/-- chantry/count.Size -/
def ac_41 : ACode :=
 (.seq
  (.region false [] [⟨some 2, .mov (.c (.int .i64 0)), none, []⟩])
 (.seq
  (.region false [] [⟨some 3, .mov (.t 0), none, [0]⟩, ⟨some 4, .call 63 [.t 3], none, [3]⟩, ⟨some 2, .mov (.t 4), none, [4]⟩])
 .ret))
def rs_41 : List ARes := [.tmp 2]
theorem g_41 : Good Try.prog 41 ac_41 rs_41 := ⟨Try.f41, Try.f41.body.getD .skip, by kernel_rfl, by kernel_rfl, by kernel_rfl, ⟨by kernel_rfl, by kernel_rfl⟩, by kernel_rfl, by kernel_rfl⟩
theorem ok_41 {Γ : Env} (hΓ : EnvOk Try.prog Γ) (sp : Spec) (h : WB Γ ac_41 rs_41 sp) : CallOk Try.prog 41 sp := g_41.ok hΓ mix_ok sp h

/-- chantry/count.Echoes -/
def ac_42 : ACode :=
 (.seq
  (.region false [] [⟨some 2, .mov (.c (.int .i64 0)), none, []⟩])
 (.seq
  (.region false [] [⟨some 3, .mov (.t 0), none, []⟩, ⟨some 4, .call 64 [.t 3], none, [3]⟩, ⟨some 5, .mov (.t 0), none, [0]⟩, ⟨some 6, .call 65 [.t 5], none, [5]⟩, ⟨some 7, .bin false .add (.t 4) (.t 6), none, [4, 6]⟩, ⟨some 8, .bin false .quo (.t 7) (.c (.int .i64 2)), none, [7]⟩, ⟨some 9, .bin false .add (.t 8) (.c (.int .i64 1)), none, [8]⟩, ⟨some 2, .mov (.t 9), none, [9]⟩])
 .ret))
def rs_42 : List ARes := [.tmp 2]
theorem g_42 : Good Try.prog 42 ac_42 rs_42 := ⟨Try.f42, Try.f42.body.getD .skip, by kernel_rfl, by kernel_rfl, by kernel_rfl, ⟨by kernel_rfl, by kernel_rfl⟩, by kernel_rfl, by kernel_rfl⟩
theorem ok_42 {Γ : Env} (hΓ : EnvOk Try.prog Γ) (sp : Spec) (h : WB Γ ac_42 rs_42 sp) : CallOk Try.prog 42 sp := g_42.ok hΓ mix_ok sp h

/-- chantry/count.Readies -/
def ac_43 : ACode :=
 (.seq
  (.region false [] [⟨some 2, .mov (.c (.int .i64 0)), none, []⟩])
 (.seq
  (.region false [] [⟨some 3, .mov (.t 0), none, [0]⟩, ⟨some 4, .call 65 [.t 3], none, [3]⟩, ⟨some 5, .bin false .add (.t 4) (.c (.int .i64 1)), none, [4]⟩, ⟨some 2, .mov (.t 5), none, [5]⟩])
 .ret))
def rs_43 : List ARes := [.tmp 2]
theorem g_43 : Good Try.prog 43 ac_43 rs_43 := ⟨Try.f43, Try.f43.body.getD .skip, by kernel_rfl, by kernel_rfl, by kernel_rfl, ⟨by kernel_rfl, by kernel_rfl⟩, by kernel_rfl, by kernel_rfl⟩
theorem ok_43 {Γ : Env} (hΓ : EnvOk Try.prog Γ) (sp : Spec) (h : WB Γ ac_43 rs_43 sp) : CallOk Try.prog 43 sp := g_43.ok hΓ mix_ok sp h

/-- chantry/vote.cast -/
def ac_44 : ACode :=
 (.seq
  (.region false [] [⟨some 6, .mov (.c (.slice none 0 0)), none, []⟩, ⟨some 7, .mov (.c (.int .i64 0)), none, [6]⟩, ⟨some 8, .mov (.c (.bool false)), none, [7]⟩])
 (.seq
  (.region false [] [⟨some 9, .mov (.c (.int .u16 0)), none, []⟩])
 (.seq
  (.seq
   (.region false [] [⟨some 14, .mov (.t 0), none, []⟩, ⟨some 15, .len false (.t 14), none, []⟩, ⟨some 16, .mov (.c (.int .i64 0)), none, []⟩])
  (.block 0
   (.loop [0, 1, 2, 9, 14, 15, 16]
    (.seq
     (.region false [] [⟨some 17, .bin false .lss (.t 16) (.t 15), none, []⟩])
    (.seq
     (.cond (.t 17)
       (.drop [17]
        .skip)
       (.drop [14, 15, 16, 17]
        (.exit 0)))
    (.seq
     (.block 1
      (.seq
       (.region false [] [⟨some 18, .iax 2 (.t 14) (.t 16), none, []⟩, ⟨some 19, .ld true 2 (.t 18), none, [18]⟩, ⟨some 11, .alloc [.string ⟨#[]⟩, .int .u16 0], none, []⟩, ⟨none, .st 2 (.t 11) (.t 19), none, [19]⟩])
      (.seal_ 11
       (.region false [] [⟨some 20, .mov (.t 9), none, [9]⟩, ⟨some 21, .fad 1 (.t 11), none, [11]⟩, ⟨some 22, .ld false 1 (.t 21), none, [21]⟩, ⟨some 23, .bin false .or (.t 20) (.t 22), none, [20, 22]⟩, ⟨some 9, .mov (.t 23), none, [23]⟩]))))
    (.region false [] [⟨some 24, .bin false .add (.t 16) (.c (.int .i64 1)), none, [16]⟩, ⟨some 16, .mov (.t 24), none, [24]⟩])))))))
 (.seq
  (.seq
   (.region false [] [⟨some 25, .mov (.t 9), none, [9]⟩, ⟨some 26, .mov (.t 1), none, []⟩, ⟨some 27, .call 33 [.t 25, .t 26], none, [25, 26]⟩])
  (.cond (.t 27)
    (.drop [1, 2, 27]
     (.seq
      (.region false [] [⟨some 28, .mov (.t 0), none, [0]⟩, ⟨some 6, .mov (.t 28), none, [28]⟩, ⟨some 7, .mov (.c (.int .i64 0)), none, []⟩, ⟨some 8, .mov (.c (.bool false)), none, []⟩])
     .ret))
    (.drop [27]
     .skip)))
 (.seq
  (.region false [] [⟨some 29, .mov (.t 0), none, [0]⟩, ⟨some 30, .call 48 [.t 29], none, [29]⟩, ⟨some 12, .mov (.t 30), none, [30]⟩])
 (.seq
  (.region false [] [⟨some 31, .mov (.t 12), none, []⟩, ⟨some 32, .mov (.t 2), none, []⟩, ⟨some 33, .call 66 [.t 31, .t 32], none, [31, 32]⟩, ⟨some 13, .mov (.t 33), none, [33]⟩])
 (.seq
  (.seq
   (.region false [] [⟨some 34, .mov (.t 13), none, []⟩, ⟨some 35, .bin false .lss (.t 34) (.c (.int .i64 0)), none, [34]⟩])
  (.cond (.t 35)
    (.drop [13, 35]
     (.seq
      (.region false [] [⟨some 36, .mov (.t 12), none, []⟩, ⟨some 37, .len false (.t 36), none, [36]⟩, ⟨some 13, .mov (.t 37), none, [37]⟩])
     (.region false [] [⟨some 38, .mov (.t 12), none, [12]⟩, ⟨some 39, .mov (.t 2), none, [2]⟩, ⟨some 40, .bld [.string ⟨#[]⟩, .int .u16 0] [(0, 1, .t 39)], none, [39]⟩, ⟨some 41, .bsl 107 2 [.t 40], none, [40]⟩, ⟨some 42, .app 107 2 24 (.t 38) (.t 41), none, [38, 41]⟩, ⟨some 12, .mov (.t 42), none, [42]⟩])))
    (.drop [2, 35]
     .skip)))
 (.seq
  (.region false [] [⟨some 43, .mov (.t 12), none, []⟩, ⟨some 44, .mov (.t 13), none, []⟩, ⟨some 45, .mov (.t 12), none, []⟩, ⟨some 46, .mov (.t 13), none, []⟩, ⟨some 47, .iax 2 (.t 45) (.t 46), none, [45, 46]⟩, ⟨some 48, .fad 1 (.t 47), none, [47]⟩, ⟨some 49, .ld false 1 (.t 48), none, [48]⟩, ⟨some 50, .mov (.t 1), none, [1]⟩, ⟨some 51, .call 67 [.t 49, .t 50], none, [49, 50]⟩, ⟨some 52, .iax 2 (.t 43) (.t 44), none, [43, 44]⟩, ⟨some 53, .fad 1 (.t 52), none, [52]⟩, ⟨none, .st 1 (.t 53) (.t 51), none, [51, 53]⟩])
 (.seq
  (.region false [] [⟨some 54, .mov (.t 12), none, []⟩, ⟨some 55, .mov (.t 12), none, [12]⟩, ⟨some 56, .mov (.t 13), none, [13]⟩, ⟨some 57, .iax 2 (.t 55) (.t 56), none, [55, 56]⟩, ⟨some 58, .fad 1 (.t 57), none, [57]⟩, ⟨some 59, .ld false 1 (.t 58), none, [58]⟩, ⟨some 60, .call 41 [.t 59], none, [59]⟩, ⟨some 6, .mov (.t 54), none, [54]⟩, ⟨some 7, .mov (.t 60), none, [60]⟩, ⟨some 8, .mov (.c (.bool true)), none, []⟩])
 .ret)))))))))
def rs_44 : List ARes := [.tmp 6, .tmp 7, .tmp 8]
theorem g_44 : Good Try.prog 44 ac_44 rs_44 := ⟨Try.f44, Try.f44.body.getD .skip, by kernel_rfl, by kernel_rfl, by kernel_rfl, ⟨by kernel_rfl, by kernel_rfl⟩, by kernel_rfl, by kernel_rfl⟩
theorem ok_44 {Γ : Env} (hΓ : EnvOk Try.prog Γ) (sp : Spec) (h : WB Γ ac_44 rs_44 sp) : CallOk Try.prog 44 sp := g_44.ok hΓ mix_ok sp h

/-- (*chantry/vote.Case).ready -/
def ac_45 : ACode :=
 (.seq
  (.region false [] [⟨some 4, .mov (.c (.slice none 0 0)), none, []⟩])
 (.seq
  (.seq
   (.region false [] [⟨some 5, .mov (.t 0), none, []⟩, ⟨some 6, .chk (.t 5), none, [5]⟩, ⟨some 7, .fad 1 (.t 6), none, [6]⟩, ⟨some 8, .ld false 1 (.t 7), none, [7]⟩])
  (.cond (.t 8)
    (.drop [0, 1, 8]
     (.seq
      (.region false [] [⟨some 4, .mov (.c (.slice none 0 0)), none, []⟩])
     .ret))
    (.drop [8]
     .skip)))
 (.seq
  (.region false [] [⟨some 9, .mov (.t 0), none, [0]⟩, ⟨some 10, .chk (.t 9), none, [9]⟩, ⟨some 11, .fad 1 (.t 10), none, [10]⟩, ⟨none, .st 1 (.t 11) (.c (.bool true)), none, [11]⟩])
 (.seq
  (.region false [] [⟨some 12, .mov (.t 1), none, [1]⟩, ⟨some 13, .bld [.int .i64 0, .string ⟨#[]⟩] [(0, 1, .c (.int .i64 3)), (1, 1, .t 12)], none, [12]⟩, ⟨some 14, .bsl 74 2 [.t 13], none, [13]⟩, ⟨some 4, .mov (.t 14), none, [14]⟩])
 .ret))))
def rs_45 : List ARes := [.tmp 4]
theorem g_45 : Good Try.prog 45 ac_45 rs_45 := ⟨Try.f45, Try.f45.body.getD .skip, by kernel_rfl, by kernel_rfl, by kernel_rfl, ⟨by kernel_rfl, by kernel_rfl⟩, by kernel_rfl, by kernel_rfl⟩
theorem ok_45 {Γ : Env} (hΓ : EnvOk Try.prog Γ) (sp : Spec) (h : WB Γ ac_45 rs_45 sp) : CallOk Try.prog 45 sp := g_45.ok hΓ mix_ok sp h

/-- chantry/count.Enough -/
def ac_46 : ACode :=
 (.seq
  (.region false [] [⟨some 2, .mov (.c (.int .i64 0)), none, []⟩])
 (.seq
  (.region false [] [⟨some 3, .mov (.t 0), none, [0]⟩, ⟨some 4, .call 65 [.t 3], none, [3]⟩, ⟨some 5, .bin false .mul (.c (.int .i64 2)) (.t 4), none, [4]⟩, ⟨some 6, .bin false .add (.t 5) (.c (.int .i64 1)), none, [5]⟩, ⟨some 2, .mov (.t 6), none, [6]⟩])
 .ret))
def rs_46 : List ARes := [.tmp 2]
theorem g_46 : Good Try.prog 46 ac_46 rs_46 := ⟨Try.f46, Try.f46.body.getD .skip, by kernel_rfl, by kernel_rfl, by kernel_rfl, ⟨by kernel_rfl, by kernel_rfl⟩, by kernel_rfl, by kernel_rfl⟩
theorem ok_46 {Γ : Env} (hΓ : EnvOk Try.prog Γ) (sp : Spec) (h : WB Γ ac_46 rs_46 sp) : CallOk Try.prog 46 sp := g_46.ok hΓ mix_ok sp h

/-- slices.Clone[[]chantry/vote.Ballot,chantry/vote.Ballot] -/
def ac_48 : ACode :=
 (.seq
  (.region false [] [⟨some 2, .mov (.c (.slice none 0 0)), none, []⟩])
 (.seq
  (.conc 0
   (.seq
    (.region false [] [⟨some 3, .mov (.t 0), none, []⟩, ⟨some 4, .isn false false (.t 3), none, [3]⟩])
   (.cond (.t 4)
     (.drop [0, 4]
      (.seq
       (.region false [] [⟨some 2, .mov (.c (.slice none 0 0)), none, []⟩])
      (.pack [2]
       .ret)))
     (.drop [4]
      .skip))))
 (.seq
  (.region false [] [⟨some 5, .bsl 107 2 [], none, []⟩, ⟨some 6, .mov (.t 0), none, [0]⟩, ⟨some 7, .app 107 2 24 (.t 5) (.t 6), none, [5, 6]⟩, ⟨some 2, .mov (.t 7), none, [7]⟩])
 (.pack [2]
  .ret))))
def rs_48 : List ARes := [.tmp 2]
theorem g_48 : Good Try.prog 48 ac_48 rs_48 := ⟨Try.f48, Try.f48.body.getD .skip, by kernel_rfl, by kernel_rfl, by kernel_rfl, ⟨by kernel_rfl, by kernel_rfl⟩, by kernel_rfl, by kernel_rfl⟩
theorem ok_48 {Γ : Env} (hΓ : EnvOk Try.prog Γ) (sp : Spec) (h : WB Γ ac_48 rs_48 sp) : CallOk Try.prog 48 sp := g_48.ok hΓ mix_ok sp h

/-- cmp.Compare[uint8] -/
def ac_50 : ACode :=
 (.seq
  (.region false [] [⟨some 4, .mov (.c (.int .i64 0)), none, []⟩])
 (.seq
  (.region false [] [⟨some 7, .mov (.t 0), none, []⟩, ⟨some 8, .call 68 [.t 7], none, [7]⟩, ⟨some 5, .mov (.t 8), none, [8]⟩])
 (.seq
  (.region false [] [⟨some 9, .mov (.t 1), none, []⟩, ⟨some 10, .call 68 [.t 9], none, [9]⟩, ⟨some 6, .mov (.t 10), none, [10]⟩])
 (.seq
  (.seq
   (.region false [] [⟨some 11, .mov (.t 5), none, [5]⟩])
  (.cond (.t 11)
    (.drop [0, 1, 11]
     (.seq
      (.seq
       (.region false [] [⟨some 12, .mov (.t 6), none, [6]⟩])
      (.cond (.t 12)
        (.drop [12]
         (.seq
          (.region false [] [⟨some 4, .mov (.c (.int .i64 0)), none, []⟩])
         .ret))
        (.drop [12]
         .skip)))
     (.seq
      (.region false [] [⟨some 4, .mov (.c (.int .i64 (-1))), none, []⟩])
     .ret)))
    (.drop [11]
     .skip)))
 (.seq
  (.seq
   (.region false [] [⟨some 13, .mov (.t 6), none, [6]⟩])
  (.cond (.t 13)
    (.drop [0, 1, 13]
     (.seq
      (.region false [] [⟨some 4, .mov (.c (.int .i64 1)), none, []⟩])
     .ret))
    (.drop [13]
     .skip)))
 (.seq
  (.seq
   (.region false [] [⟨some 14, .mov (.t 0), none, []⟩, ⟨some 15, .mov (.t 1), none, []⟩, ⟨some 16, .bin false .lss (.t 14) (.t 15), none, [14, 15]⟩])
  (.cond (.t 16)
    (.drop [0, 1, 16]
     (.seq
      (.region false [] [⟨some 4, .mov (.c (.int .i64 (-1))), none, []⟩])
     .ret))
    (.drop [16]
     .skip)))
 (.seq
  (.seq
   (.region false [] [⟨some 17, .mov (.t 0), none, [0]⟩, ⟨some 18, .mov (.t 1), none, [1]⟩, ⟨some 19, .bin false .gtr (.t 17) (.t 18), none, [17, 18]⟩])
  (.cond (.t 19)
    (.drop [19]
     (.seq
      (.region false [] [⟨some 4, .mov (.c (.int .i64 1)), none, []⟩])
     .ret))
    (.drop [19]
     .skip)))
 (.seq
  (.region false [] [⟨some 4, .mov (.c (.int .i64 0)), none, []⟩])
 .ret))))))))
def rs_50 : List ARes := [.tmp 4]
theorem g_50 : Good Try.prog 50 ac_50 rs_50 := ⟨Try.f50, Try.f50.body.getD .skip, by kernel_rfl, by kernel_rfl, by kernel_rfl, ⟨by kernel_rfl, by kernel_rfl⟩, by kernel_rfl, by kernel_rfl⟩
theorem ok_50 {Γ : Env} (hΓ : EnvOk Try.prog Γ) (sp : Spec) (h : WB Γ ac_50 rs_50 sp) : CallOk Try.prog 50 sp := g_50.ok hΓ mix_ok sp h

/-- cmp.Compare[int] -/
def ac_51 : ACode :=
 (.seq
  (.region false [] [⟨some 4, .mov (.c (.int .i64 0)), none, []⟩])
 (.seq
  (.region false [] [⟨some 7, .mov (.t 0), none, []⟩, ⟨some 8, .call 69 [.t 7], none, [7]⟩, ⟨some 5, .mov (.t 8), none, [8]⟩])
 (.seq
  (.region false [] [⟨some 9, .mov (.t 1), none, []⟩, ⟨some 10, .call 69 [.t 9], none, [9]⟩, ⟨some 6, .mov (.t 10), none, [10]⟩])
 (.seq
  (.seq
   (.region false [] [⟨some 11, .mov (.t 5), none, [5]⟩])
  (.cond (.t 11)
    (.drop [0, 1, 11]
     (.seq
      (.seq
       (.region false [] [⟨some 12, .mov (.t 6), none, [6]⟩])
      (.cond (.t 12)
        (.drop [12]
         (.seq
          (.region false [] [⟨some 4, .mov (.c (.int .i64 0)), none, []⟩])
         .ret))
        (.drop [12]
         .skip)))
     (.seq
      (.region false [] [⟨some 4, .mov (.c (.int .i64 (-1))), none, []⟩])
     .ret)))
    (.drop [11]
     .skip)))
 (.seq
  (.seq
   (.region false [] [⟨some 13, .mov (.t 6), none, [6]⟩])
  (.cond (.t 13)
    (.drop [0, 1, 13]
     (.seq
      (.region false [] [⟨some 4, .mov (.c (.int .i64 1)), none, []⟩])
     .ret))
    (.drop [13]
     .skip)))
 (.seq
  (.seq
   (.region false [] [⟨some 14, .mov (.t 0), none, []⟩, ⟨some 15, .mov (.t 1), none, []⟩, ⟨some 16, .bin false .lss (.t 14) (.t 15), none, [14, 15]⟩])
  (.cond (.t 16)
    (.drop [0, 1, 16]
     (.seq
      (.region false [] [⟨some 4, .mov (.c (.int .i64 (-1))), none, []⟩])
     .ret))
    (.drop [16]
     .skip)))
 (.seq
  (.seq
   (.region false [] [⟨some 17, .mov (.t 0), none, [0]⟩, ⟨some 18, .mov (.t 1), none, [1]⟩, ⟨some 19, .bin false .gtr (.t 17) (.t 18), none, [17, 18]⟩])
  (.cond (.t 19)
    (.drop [19]
     (.seq
      (.region false [] [⟨some 4, .mov (.c (.int .i64 1)), none, []⟩])
     .ret))
    (.drop [19]
     .skip)))
 (.seq
  (.region false [] [⟨some 4, .mov (.c (.int .i64 0)), none, []⟩])
 .ret))))))))
def rs_51 : List ARes := [.tmp 4]
theorem g_51 : Good Try.prog 51 ac_51 rs_51 := ⟨Try.f51, Try.f51.body.getD .skip, by kernel_rfl, by kernel_rfl, by kernel_rfl, ⟨by kernel_rfl, by kernel_rfl⟩, by kernel_rfl, by kernel_rfl⟩
theorem ok_51 {Γ : Env} (hΓ : EnvOk Try.prog Γ) (sp : Spec) (h : WB Γ ac_51 rs_51 sp) : CallOk Try.prog 51 sp := g_51.ok hΓ mix_ok sp h

/-- chantry/chantryref05.Size -/
def ac_55 : ACode :=
 (.seq
  (.region false [] [⟨some 2, .mov (.c (.int .i64 0)), none, []⟩])
 (.seq
  (.region false [] [⟨some 3, .mov (.t 0), none, [0]⟩, ⟨some 4, .call 71 [.t 3], none, [3]⟩, ⟨some 5, .len false (.t 4), none, [4]⟩, ⟨some 2, .mov (.t 5), none, [5]⟩])
 .ret))
def rs_55 : List ARes := [.tmp 2]
theorem g_55 : Good Try.prog 55 ac_55 rs_55 := ⟨Try.f55, Try.f55.body.getD .skip, by kernel_rfl, by kernel_rfl, by kernel_rfl, ⟨by kernel_rfl, by kernel_rfl⟩, by kernel_rfl, by kernel_rfl⟩
theorem ok_55 {Γ : Env} (hΓ : EnvOk Try.prog Γ) (sp : Spec) (h : WB Γ ac_55 rs_55 sp) : CallOk Try.prog 55 sp := g_55.ok hΓ mix_ok sp h

/-- chantry/chantryref07.echo -/
def ac_56 : ACode :=
 (.seq
  (.region false [] [⟨some 4, .box (.t 0), none, [0]⟩, ⟨some 8, .alloc [.bool false, .bool false, .bool false, .slice none 0 0, .slice none 0 0, .slice none 0 0, .string ⟨#[]⟩, .bool false, .int .i64 0], none, []⟩])
 (.seq
  (.seq
   (.region false [] [⟨some 10, .fad 3 (.t 4), none, []⟩, ⟨some 11, .ld false 1 (.t 10), none, [10]⟩, ⟨some 12, .mov (.t 2), none, []⟩, ⟨some 13, .call 72 [.t 11, .t 12], none, [11, 12]⟩])
  (.cond (.t 13)
    (.drop [1, 2, 3, 13]
     (.seq
      (.region false [] [⟨some 14, .ld true 5 (.t 4), none, [4]⟩, ⟨some 15, .bld [.bool false, .bool false, .bool false, .slice none 0 0, .slice none 0 0, .slice none 0 0, .string ⟨#[]⟩, .bool false, .int .i64 0] [(0, 5, .t 14), (8, 1, .c (.int .i64 6))], none, [14]⟩, ⟨none, .st 9 (.t 8) (.t 15), none, [15]⟩])
     .ret))
    (.drop [13]
     .skip)))
 (.seq
  (.region false [] [⟨some 16, .fad 3 (.t 4), none, []⟩, ⟨some 17, .ld false 1 (.t 16), none, [16]⟩, ⟨some 18, .mov (.t 2), none, [2]⟩, ⟨some 19, .mov (.t 3), none, []⟩, ⟨some 20, .call 73 [.t 17, .t 18, .t 19], none, [17, 18, 19]⟩, ⟨some 21, .fad 3 (.t 4), none, []⟩, ⟨none, .st 1 (.t 21) (.t 20), none, [20, 21]⟩])
 (.seq
  (.region false [] [⟨some 22, .ld true 5 (.t 4), none, []⟩, ⟨some 23, .bld [.bool false, .bool false, .bool false, .slice none 0 0, .slice none 0 0, .slice none 0 0, .string ⟨#[]⟩, .bool false, .int .i64 0] [(0, 5, .t 22)], none, [22]⟩, ⟨some 9, .alloc [.bool false, .bool false, .bool false, .slice none 0 0, .slice none 0 0, .slice none 0 0, .string ⟨#[]⟩, .bool false, .int .i64 0], none, []⟩, ⟨none, .st 9 (.t 9) (.t 23), none, [23]⟩])
 (.seal_ 9
  (.seq
   (.seq
    (.region false [] [⟨some 24, .fad 3 (.t 4), none, [4]⟩, ⟨some 25, .ld false 1 (.t 24), none, [24]⟩, ⟨some 26, .mov (.t 3), none, []⟩, ⟨some 27, .call 74 [.t 25, .t 26], none, [25, 26]⟩, ⟨some 28, .mov (.t 1), none, [1]⟩, ⟨some 29, .call 75 [.t 28], none, [28]⟩, ⟨some 30, .bin false .geq (.t 27) (.t 29), none, [27, 29]⟩])
   (.cond (.t 30)
     (.drop [30]
      (.seq
       (.region false [] [⟨some 31, .ld true 9 (.t 9), none, [9]⟩, ⟨some 32, .mov (.t 3), none, [3]⟩, ⟨some 33, .call 76 [.t 31, .t 32], none, [31, 32]⟩, ⟨none, .st 9 (.t 8) (.t 33), none, [33]⟩])
      .ret))
     (.drop [3, 30]
      .skip)))
  (.seq
   (.region false [] [⟨some 34, .ld true 9 (.t 9), none, [9]⟩, ⟨none, .st 9 (.t 8) (.t 34), none, [34]⟩])
  .ret)))))))
def rs_56 : List ARes := [.cell 8 true 9]
theorem g_56 : Good Try.prog 56 ac_56 rs_56 := ⟨Try.f56, Try.f56.body.getD .skip, by kernel_rfl, by kernel_rfl, by kernel_rfl, ⟨by kernel_rfl, by kernel_rfl⟩, by kernel_rfl, by kernel_rfl⟩
theorem ok_56 {Γ : Env} (hΓ : EnvOk Try.prog Γ) (sp : Spec) (h : WB Γ ac_56 rs_56 sp) : CallOk Try.prog 56 sp := g_56.ok hΓ mix_ok sp h

/-- chantry/chantryref07.readied -/
def ac_57 : ACode :=
 (.seq
  (.region false [] [⟨some 4, .box (.t 0), none, [0]⟩, ⟨some 8, .alloc [.bool false, .bool false, .bool false, .slice none 0 0, .slice none 0 0, .slice none 0 0, .string ⟨#[]⟩, .bool false, .int .i64 0], none, []⟩])
 (.seq
  (.seq
   (.region false [] [⟨some 11, .fad 4 (.t 4), none, []⟩, ⟨some 12, .ld false 1 (.t 11), none, [11]⟩, ⟨some 13, .mov (.t 2), none, []⟩, ⟨some 14, .call 72 [.t 12, .t 13], none, [12, 13]⟩])
  (.cond (.t 14)
    (.drop [1, 2, 3, 14]
     (.seq
      (.region false [] [⟨some 15, .ld true 5 (.t 4), none, [4]⟩, ⟨some 16, .bld [.bool false, .bool false, .bool false, .slice none 0 0, .slice none 0 0, .slice none 0 0, .string ⟨#[]⟩, .bool false, .int .i64 0] [(0, 5, .t 15), (8, 1, .c (.int .i64 6))], none, [15]⟩, ⟨none, .st 9 (.t 8) (.t 16), none, [16]⟩])
     .ret))
    (.drop [14]
     .skip)))
 (.seq
  (.region false [] [⟨some 17, .fad 4 (.t 4), none, []⟩, ⟨some 18, .ld false 1 (.t 17), none, [17]⟩, ⟨some 19, .mov (.t 2), none, [2]⟩, ⟨some 20, .mov (.t 3), none, []⟩, ⟨some 21, .call 73 [.t 18, .t 19, .t 20], none, [18, 19, 20]⟩, ⟨some 22, .fad 4 (.t 4), none, []⟩, ⟨none, .st 1 (.t 22) (.t 21), none, [21, 22]⟩])
 (.seq
  (.region false [] [⟨some 23, .ld true 5 (.t 4), none, []⟩, ⟨some 24, .bld [.bool false, .bool false, .bool false, .slice none 0 0, .slice none 0 0, .slice none 0 0, .string ⟨#[]⟩, .bool false, .int .i64 0] [(0, 5, .t 23)], none, [23]⟩, ⟨some 9, .alloc [.bool false, .bool false, .bool false, .slice none 0 0, .slice none 0 0, .slice none 0 0, .string ⟨#[]⟩, .bool false, .int .i64 0], none, []⟩, ⟨none, .st 9 (.t 9) (.t 24), none, [24]⟩])
 (.seq
  (.seq
   (.region false [] [⟨some 25, .fad 4 (.t 4), none, []⟩, ⟨some 26, .ld false 1 (.t 25), none, [25]⟩, ⟨some 27, .mov (.t 3), none, []⟩, ⟨some 28, .call 74 [.t 26, .t 27], none, [26, 27]⟩, ⟨some 29, .mov (.t 1), none, []⟩, ⟨some 30, .call 77 [.t 29], none, [29]⟩, ⟨some 31, .bin false .geq (.t 28) (.t 30), none, [28, 30]⟩])
  (.cond (.t 31)
    (.drop [31]
     (.region false [] [⟨some 32, .ld true 9 (.t 9), none, []⟩, ⟨some 33, .mov (.t 3), none, []⟩, ⟨some 34, .call 76 [.t 32, .t 33], none, [32, 33]⟩, ⟨none, .st 9 (.t 9) (.t 34), none, [34]⟩]))
    (.drop [31]
     .skip)))
 (.seq
  (.seq
   (.region false [] [⟨some 35, .fad 2 (.t 4), none, []⟩, ⟨some 36, .ld false 1 (.t 35), none, [35]⟩, ⟨some 37, .un .not (.t 36), none, [36]⟩, ⟨some 38, .mov (.t 37), none, [37]⟩, ⟨some 39, .fad 4 (.t 4), some (38, true), [4]⟩, ⟨some 40, .ld false 1 (.t 39), some (38, true), [39]⟩, ⟨some 41, .mov (.t 3), some (38, true), []⟩, ⟨some 42, .call 74 [.t 40, .t 41], some (38, true), [40, 41]⟩, ⟨some 43, .mov (.t 1), some (38, true), [1]⟩, ⟨some 44, .call 78 [.t 43], some (38, true), [43]⟩, ⟨some 45, .bin false .geq (.t 42) (.t 44), some (38, true), [42, 44]⟩, ⟨some 46, .pick (.t 38) (.t 45) (.c (.bool false)), none, [38, 45]⟩])
  (.cond (.t 46)
    (.drop [46]
     (.seq
      (.region false [] [⟨some 47, .fad 0 (.t 9), none, []⟩, ⟨some 48, .ld true 5 (.t 47), none, [47]⟩, ⟨some 10, .alloc [.bool false, .bool false, .bool false, .slice none 0 0, .slice none 0 0], none, []⟩, ⟨none, .st 5 (.t 10) (.t 48), none, [48]⟩])
     (.seq
      (.region false [] [⟨some 49, .fad 2 (.t 10), none, []⟩, ⟨none, .st 1 (.t 49) (.c (.bool true)), none, [49]⟩])
     (.seq
      (.region false [] [⟨some 50, .ld true 5 (.t 10), none, [10]⟩, ⟨some 51, .fad 0 (.t 9), none, []⟩, ⟨none, .st 5 (.t 51) (.t 50), none, [50, 51]⟩])
     (.seq
      (.region false [] [⟨some 52, .mov (.t 3), none, [3]⟩, ⟨some 53, .fad 6 (.t 9), none, []⟩, ⟨none, .st 1 (.t 53) (.t 52), none, [52, 53]⟩])
     (.region false [] [⟨some 54, .fad 7 (.t 9), none, []⟩, ⟨none, .st 1 (.t 54) (.c (.bool true)), none, [54]⟩]))))))
    (.drop [3, 46]
     .skip)))
 (.seq
  (.region false [] [⟨some 55, .ld true 9 (.t 9), none, [9]⟩, ⟨none, .st 9 (.t 8) (.t 55), none, [55]⟩])
 .ret)))))))
def rs_57 : List ARes := [.cell 8 true 9]
theorem g_57 : Good Try.prog 57 ac_57 rs_57 := ⟨Try.f57, Try.f57.body.getD .skip, by kernel_rfl, by kernel_rfl, by kernel_rfl, ⟨by kernel_rfl, by kernel_rfl⟩, by kernel_rfl, by kernel_rfl⟩
theorem ok_57 {Γ : Env} (hΓ : EnvOk Try.prog Γ) (sp : Spec) (h : WB Γ ac_57 rs_57 sp) : CallOk Try.prog 57 sp := g_57.ok hΓ mix_ok sp h

/-- chantry/count.bit -/
def ac_58 : ACode :=
 (.seq
  (.region false [] [⟨some 2, .mov (.c (.int .u16 0)), none, []⟩])
 (.seq
  (.region false [] [⟨some 3, .mov (.t 0), none, [0]⟩, ⟨some 4, .bin false .shl (.c (.int .u64 1)) (.t 3), none, [3]⟩, ⟨some 5, .cvt .u16 (.t 4), none, [4]⟩, ⟨some 2, .mov (.t 5), none, [5]⟩])
 .ret))
def rs_58 : List ARes := [.tmp 2]
theorem g_58 : Good Try.prog 58 ac_58 rs_58 := ⟨Try.f58, Try.f58.body.getD .skip, by kernel_rfl, by kernel_rfl, by kernel_rfl, ⟨by kernel_rfl, by kernel_rfl⟩, by kernel_rfl, by kernel_rfl⟩
theorem ok_58 {Γ : Env} (hΓ : EnvOk Try.prog Γ) (sp : Spec) (h : WB Γ ac_58 rs_58 sp) : CallOk Try.prog 58 sp := g_58.ok hΓ mix_ok sp h

/-- chantry/chantryref05.value -/
def ac_60 : ACode :=
 (.seq
  (.region false [] [⟨some 2, .mov (.c (.int .u16 0)), none, []⟩])
 (.seq
  (.seq
   (.region false [] [⟨some 5, .mov (.t 0), none, []⟩, ⟨some 6, .bin false .gtr (.t 5) (.c (.int .u8 15)), none, [5]⟩])
  (.cond (.t 6)
    (.drop [0, 6]
     (.seq
      (.region false [] [⟨some 2, .mov (.c (.int .u16 0)), none, []⟩])
     .ret))
    (.drop [6]
     .skip)))
 (.seq
  (.region false [] [⟨some 3, .mov (.c (.int .u16 1)), none, []⟩])
 (.seq
  (.seq
   (.region false [] [⟨some 4, .mov (.c (.int .i64 0)), none, []⟩])
  (.block 0
   (.loop [0, 3, 4]
    (.seq
     (.seq
      (.region false [] [⟨some 7, .mov (.t 4), none, []⟩, ⟨some 8, .mov (.t 0), none, []⟩, ⟨some 9, .cvt .i64 (.t 8), none, [8]⟩, ⟨some 10, .bin false .lss (.t 7) (.t 9), none, [7, 9]⟩])
     (.cond (.t 10)
       (.drop [10]
        .skip)
       (.drop [0, 4, 10]
        (.exit 0))))
    (.seq
     (.block 1
      (.region false [] [⟨some 13, .mov (.t 3), none, [3]⟩, ⟨some 14, .bin false .mul (.t 13) (.c (.int .u16 2)), none, [13]⟩, ⟨some 3, .mov (.t 14), none, [14]⟩]))
    (.region false [] [⟨some 11, .mov (.t 4), none, [4]⟩, ⟨some 12, .bin false .add (.t 11) (.c (.int .i64 1)), none, [11]⟩, ⟨some 4, .mov (.t 12), none, [12]⟩]))))))
 (.seq
  (.region false [] [⟨some 15, .mov (.t 3), none, [3]⟩, ⟨some 2, .mov (.t 15), none, [15]⟩])
 .ret)))))
def rs_60 : List ARes := [.tmp 2]
theorem g_60 : Good Try.prog 60 ac_60 rs_60 := ⟨Try.f60, Try.f60.body.getD .skip, by kernel_rfl, by kernel_rfl, by kernel_rfl, ⟨by kernel_rfl, by kernel_rfl⟩, by kernel_rfl, by kernel_rfl⟩
theorem ok_60 {Γ : Env} (hΓ : EnvOk Try.prog Γ) (sp : Spec) (h : WB Γ ac_60 rs_60 sp) : CallOk Try.prog 60 sp := g_60.ok hΓ mix_ok sp h

/-- chantry/chantryref07.Sound -/
def ac_61 : ACode :=
 (.seq
  (.region false [] [⟨some 2, .mov (.c (.bool false)), none, []⟩])
 (.seq
  (.seq
   (.region false [] [⟨some 3, .mov (.c (.int .i64 0)), none, []⟩])
  (.block 0
   (.loop [0, 3]
    (.seq
     (.seq
      (.region false [] [⟨some 5, .mov (.t 3), none, []⟩, ⟨some 6, .mov (.t 0), none, []⟩, ⟨some 7, .len false (.t 6), none, [6]⟩, ⟨some 8, .bin false .lss (.t 5) (.t 7), none, [5, 7]⟩])
     (.cond (.t 8)
       (.drop [8]
        .skip)
       (.drop [0, 3, 8]
        (.exit 0))))
    (.seq
     (.block 1
      (.seq
       (.region false [] [⟨some 4, .mov (.c (.int .i64 0)), none, []⟩])
      (.block 2
       (.loop [0, 3, 4]
        (.seq
         (.seq
          (.region false [] [⟨some 11, .mov (.t 4), none, []⟩, ⟨some 12, .mov (.t 3), none, []⟩, ⟨some 13, .bin false .lss (.t 11) (.t 12), none, [11, 12]⟩])
         (.cond (.t 13)
           (.drop [13]
            .skip)
           (.drop [4, 13]
            (.exit 2))))
        (.seq
         (.block 3
          (.seq
           (.draws (.tak 0 ⟨some 16, .mov (.t 0), none, []⟩ (.tak 1 ⟨some 17, .mov (.t 3), none, []⟩ (.tak 2 ⟨some 18, .iax 2 (.t 16) (.t 17), none, []⟩ (.tak 3 ⟨some 19, .fad 0 (.t 18), none, []⟩ (.tak 4 ⟨some 20, .ld false 1 (.t 19), none, []⟩ (.tak 5 ⟨some 21, .mov (.t 0), none, []⟩ (.tak 6 ⟨some 22, .mov (.t 4), none, []⟩ (.tak 7 ⟨some 23, .iax 2 (.t 21) (.t 22), none, []⟩ (.tak 8 ⟨some 24, .fad 0 (.t 23), none, []⟩ (.tak 9 ⟨some 25, .ld false 1 (.t 24), none, []⟩ (.tak 10 ⟨some 26, .bin false .eql (.t 20) (.t 25), none, []⟩ (.tak 11 ⟨some 27, .mov (.t 26), none, []⟩ (.tak 12 ⟨some 28, .mov (.t 0), some (27, false), []⟩ (.tak 13 ⟨some 29, .mov (.t 3), some (27, false), []⟩ (.tak 14 ⟨some 30, .iax 2 (.t 28) (.t 29), some (27, false), []⟩ (.tak 15 ⟨some 31, .fad 1 (.t 30), some (27, false), []⟩ (.tak 16 ⟨some 32, .ld false 1 (.t 31), some (27, false), []⟩ (.tak 17 ⟨some 33, .mov (.t 0), some (27, false), []⟩ (.tak 18 ⟨some 34, .mov (.t 4), some (27, false), []⟩ (.tak 19 ⟨some 35, .iax 2 (.t 33) (.t 34), some (27, false), []⟩ (.tak 20 ⟨some 36, .fad 1 (.t 35), some (27, false), []⟩ (.tak 21 ⟨some 37, .ld false 1 (.t 36), some (27, false), []⟩ (.tak 22 ⟨some 38, .bin false .and (.t 32) (.t 37), some (27, false), []⟩ (.tak 23 ⟨some 39, .bin false .neq (.t 38) (.c (.int .u16 0)), some (27, false), []⟩ (.tak 24 ⟨some 40, .pick (.t 27) (.c (.bool true)) (.t 39), none, []⟩ .done))))))))))))))))))))))))) [[], [], [0, 1], [2], [3], [], [], [5, 6], [7], [8], [4, 9], [10], [11], [11], [12, 13, 11], [14, 11], [15, 11], [11], [11], [17, 18, 11], [19, 11], [20, 11], [16, 21, 11], [22, 11], [11, 23]] [⟨some 16, .mov (.t 0), none, []⟩, ⟨some 17, .mov (.t 3), none, []⟩, ⟨some 18, .iax 2 (.t 16) (.t 17), none, []⟩, ⟨some 19, .fad 0 (.t 18), none, []⟩, ⟨some 20, .ld false 1 (.t 19), none, []⟩, ⟨some 21, .mov (.t 0), none, []⟩, ⟨some 22, .mov (.t 4), none, []⟩, ⟨some 23, .iax 2 (.t 21) (.t 22), none, []⟩, ⟨some 24, .fad 0 (.t 23), none, []⟩, ⟨some 25, .ld false 1 (.t 24), none, []⟩, ⟨some 26, .bin false .eql (.t 20) (.t 25), none, []⟩, ⟨some 27, .mov (.t 26), none, []⟩, ⟨some 28, .mov (.t 0), some (27, false), []⟩, ⟨some 29, .mov (.t 3), some (27, false), []⟩, ⟨some 30, .iax 2 (.t 28) (.t 29), some (27, false), []⟩, ⟨some 31, .fad 1 (.t 30), some (27, false), []⟩, ⟨some 32, .ld false 1 (.t 31), some (27, false), []⟩, ⟨some 33, .mov (.t 0), some (27, false), []⟩, ⟨some 34, .mov (.t 4), some (27, false), []⟩, ⟨some 35, .iax 2 (.t 33) (.t 34), some (27, false), []⟩, ⟨some 36, .fad 1 (.t 35), some (27, false), []⟩, ⟨some 37, .ld false 1 (.t 36), some (27, false), []⟩, ⟨some 38, .bin false .and (.t 32) (.t 37), some (27, false), []⟩, ⟨some 39, .bin false .neq (.t 38) (.c (.int .u16 0)), some (27, false), []⟩, ⟨some 40, .pick (.t 27) (.c (.bool true)) (.t 39), none, []⟩])
          (.drop [16, 17, 18, 19, 20, 21, 22, 23, 24, 25, 26, 27, 28, 29, 30, 31, 32, 33, 34, 35, 36, 37, 38, 39]
           (.cond (.t 40)
             (.drop [0, 3, 4, 40]
              (.seq
               (.region false [] [⟨some 2, .mov (.c (.bool false)), none, []⟩])
              .ret))
             (.drop [40]
              .skip)))))
        (.region false [] [⟨some 14, .mov (.t 4), none, [4]⟩, ⟨some 15, .bin false .add (.t 14) (.c (.int .i64 1)), none, [14]⟩, ⟨some 4, .mov (.t 15), none, [15]⟩])))))))
    (.region false [] [⟨some 9, .mov (.t 3), none, [3]⟩, ⟨some 10, .bin false .add (.t 9) (.c (.int .i64 1)), none, [9]⟩, ⟨some 3, .mov (.t 10), none, [10]⟩]))))))
 (.seq
  (.region false [] [⟨some 2, .mov (.c (.bool true)), none, []⟩])
 .ret)))
def rs_61 : List ARes := [.tmp 2]
theorem g_61 : Good Try.prog 61 ac_61 rs_61 := ⟨Try.f61, Try.f61.body.getD .skip, by kernel_rfl, by kernel_rfl, by kernel_rfl, ⟨by kernel_rfl, by kernel_rfl⟩, by kernel_rfl, by kernel_rfl⟩
theorem ok_61 {Γ : Env} (hΓ : EnvOk Try.prog Γ) (sp : Spec) (h : WB Γ ac_61 rs_61 sp) : CallOk Try.prog 61 sp := g_61.ok hΓ mix_ok sp h

/-- chantry/chantryref07.ballots -/
def ac_62 : ACode :=
 (.seq
  (.region false [] [⟨some 4, .mov (.c (.bool false)), none, []⟩])
 (.seq
  (.seq
   (.region false [] [⟨some 6, .mov (.t 0), none, []⟩, ⟨some 7, .len false (.t 6), none, [6]⟩, ⟨some 8, .mov (.t 1), none, []⟩, ⟨some 9, .len false (.t 8), none, [8]⟩, ⟨some 10, .bin false .neq (.t 7) (.t 9), none, [7, 9]⟩])
  (.cond (.t 10)
    (.drop [0, 1, 10]
     (.seq
      (.region false [] [⟨some 4, .mov (.c (.bool false)), none, []⟩])
     .ret))
    (.drop [10]
     .skip)))
 (.seq
  (.seq
   (.region false [] [⟨some 5, .mov (.c (.int .i64 0)), none, []⟩])
  (.block 0
   (.loop [0, 1, 5]
    (.seq
     (.seq
      (.region false [] [⟨some 11, .mov (.t 5), none, []⟩, ⟨some 12, .mov (.t 0), none, []⟩, ⟨some 13, .len false (.t 12), none, [12]⟩, ⟨some 14, .bin false .lss (.t 11) (.t 13), none, [11, 13]⟩])
     (.cond (.t 14)
       (.drop [14]
        .skip)
       (.drop [0, 1, 5, 14]
        (.exit 0))))
    (.seq
     (.block 1
      (.seq
       (.draws (.tak 0 ⟨some 17, .mov (.t 0), none, []⟩ (.tak 1 ⟨some 18, .mov (.t 5), none, []⟩ (.tak 2 ⟨some 19, .iax 2 (.t 17) (.t 18), none, []⟩ (.tak 3 ⟨some 20, .ld true 2 (.t 19), none, []⟩ (.tak 4 ⟨some 21, .mov (.t 1), none, []⟩ (.tak 5 ⟨some 22, .mov (.t 5), none, []⟩ (.tak 6 ⟨some 23, .iax 2 (.t 21) (.t 22), none, []⟩ (.tak 7 ⟨some 24, .ld true 2 (.t 23), none, []⟩ (.tak 8 ⟨some 25, .eqs true [.s, .i] (.t 20) (.t 24), none, []⟩ .done))))))))) [[], [], [0, 1], [2], [], [], [4, 5], [6], [3, 7]] [⟨some 17, .mov (.t 0), none, []⟩, ⟨some 18, .mov (.t 5), none, []⟩, ⟨some 19, .iax 2 (.t 17) (.t 18), none, []⟩, ⟨some 20, .ld true 2 (.t 19), none, []⟩, ⟨some 21, .mov (.t 1), none, []⟩, ⟨some 22, .mov (.t 5), none, []⟩, ⟨some 23, .iax 2 (.t 21) (.t 22), none, []⟩, ⟨some 24, .ld true 2 (.t 23), none, []⟩, ⟨some 25, .eqs true [.s, .i] (.t 20) (.t 24), none, []⟩])
      (.drop [17, 18, 19, 20, 21, 22, 23, 24]
       (.cond (.t 25)
         (.drop [0, 1, 5, 25]
          (.seq
           (.region false [] [⟨some 4, .mov (.c (.bool false)), none, []⟩])
          .ret))
         (.drop [25]
          .skip)))))
    (.region false [] [⟨some 15, .mov (.t 5), none, [5]⟩, ⟨some 16, .bin false .add (.t 15) (.c (.int .i64 1)), none, [15]⟩, ⟨some 5, .mov (.t 16), none, [16]⟩]))))))
 (.seq
  (.region false [] [⟨some 4, .mov (.c (.bool true)), none, []⟩])
 .ret))))
def rs_62 : List ARes := [.tmp 4]
theorem g_62 : Good Try.prog 62 ac_62 rs_62 := ⟨Try.f62, Try.f62.body.getD .skip, by kernel_rfl, by kernel_rfl, by kernel_rfl, ⟨by kernel_rfl, by kernel_rfl⟩, by kernel_rfl, by kernel_rfl⟩
theorem ok_62 {Γ : Env} (hΓ : EnvOk Try.prog Γ) (sp : Spec) (h : WB Γ ac_62 rs_62 sp) : CallOk Try.prog 62 sp := g_62.ok hΓ mix_ok sp h

/-- math/bits.OnesCount16 -/
def ac_63 : ACode :=
 (.seq
  (.region false [] [⟨some 2, .mov (.c (.int .i64 0)), none, []⟩])
 (.seq
  (.draws (.tak 0 ⟨some 3, .mov (.t 0), none, []⟩ (.tak 1 ⟨some 4, .bin false .shr (.t 3) (.c (.int .u64 8)), none, []⟩ (.tak 2 ⟨some 5, .ixs (.c (.string bytes_5967fadc)) (.t 4), none, []⟩ (.tak 3 ⟨some 6, .mov (.t 0), none, []⟩ (.tak 4 ⟨some 7, .bin false .and (.t 6) (.c (.int .u16 255)), none, []⟩ (.tak 5 ⟨some 8, .ixs (.c (.string bytes_5967fadc)) (.t 7), none, []⟩ (.tak 6 ⟨some 9, .bin false .add (.t 5) (.t 8), none, []⟩ (.tak 7 ⟨some 10, .cvt .i64 (.t 9), none, []⟩ (.tak 8 ⟨some 2, .mov (.t 10), none, []⟩ .done))))))))) [[], [0], [1], [], [3], [4], [2, 5], [6], [7, 0, 1, 2, 3, 4, 5, 6, 7]] [⟨some 3, .mov (.t 0), none, []⟩, ⟨some 4, .bin false .shr (.t 3) (.c (.int .u64 8)), none, []⟩, ⟨some 5, .ixs (.c (.string bytes_5967fadc)) (.t 4), none, []⟩, ⟨some 6, .mov (.t 0), none, []⟩, ⟨some 7, .bin false .and (.t 6) (.c (.int .u16 255)), none, []⟩, ⟨some 8, .ixs (.c (.string bytes_5967fadc)) (.t 7), none, []⟩, ⟨some 9, .bin false .add (.t 5) (.t 8), none, []⟩, ⟨some 10, .cvt .i64 (.t 9), none, []⟩, ⟨some 2, .mov (.t 10), none, []⟩])
 (.drop [0, 3, 4, 5, 6, 7, 8, 9, 10]
  .ret)))
def rs_63 : List ARes := [.tmp 2]
theorem g_63 : Good Try.prog 63 ac_63 rs_63 := ⟨Try.f63, Try.f63.body.getD .skip, by kernel_rfl, by kernel_rfl, by kernel_rfl, ⟨by kernel_rfl, by kernel_rfl⟩, by kernel_rfl, by kernel_rfl⟩
theorem ok_63 {Γ : Env} (hΓ : EnvOk Try.prog Γ) (sp : Spec) (h : WB Γ ac_63 rs_63 sp) : CallOk Try.prog 63 sp := g_63.ok hΓ mix_ok sp h

/-- chantry/count.held -/
def ac_64 : ACode :=
 (.seq
  (.region false [] [⟨some 2, .mov (.c (.int .i64 0)), none, []⟩])
 (.seq
  (.region false [] [⟨some 3, .mov (.t 0), none, [0]⟩, ⟨some 4, .mnn [.t 3, .c (.int .i64 16)], none, [3]⟩, ⟨some 5, .mxx [.c (.int .i64 1), .t 4], none, [4]⟩, ⟨some 2, .mov (.t 5), none, [5]⟩])
 .ret))
def rs_64 : List ARes := [.tmp 2]
theorem g_64 : Good Try.prog 64 ac_64 rs_64 := ⟨Try.f64, Try.f64.body.getD .skip, by kernel_rfl, by kernel_rfl, by kernel_rfl, ⟨by kernel_rfl, by kernel_rfl⟩, by kernel_rfl, by kernel_rfl⟩
theorem ok_64 {Γ : Env} (hΓ : EnvOk Try.prog Γ) (sp : Spec) (h : WB Γ ac_64 rs_64 sp) : CallOk Try.prog 64 sp := g_64.ok hΓ mix_ok sp h

/-- chantry/count.Faulty -/
def ac_65 : ACode :=
 (.seq
  (.region false [] [⟨some 2, .mov (.c (.int .i64 0)), none, []⟩])
 (.seq
  (.region false [] [⟨some 3, .mov (.t 0), none, [0]⟩, ⟨some 4, .call 64 [.t 3], none, [3]⟩, ⟨some 5, .bin false .sub (.t 4) (.c (.int .i64 1)), none, [4]⟩, ⟨some 6, .bin false .quo (.t 5) (.c (.int .i64 3)), none, [5]⟩, ⟨some 2, .mov (.t 6), none, [6]⟩])
 .ret))
def rs_65 : List ARes := [.tmp 2]
theorem g_65 : Good Try.prog 65 ac_65 rs_65 := ⟨Try.f65, Try.f65.body.getD .skip, by kernel_rfl, by kernel_rfl, by kernel_rfl, ⟨by kernel_rfl, by kernel_rfl⟩, by kernel_rfl, by kernel_rfl⟩
theorem ok_65 {Γ : Env} (hΓ : EnvOk Try.prog Γ) (sp : Spec) (h : WB Γ ac_65 rs_65 sp) : CallOk Try.prog 65 sp := g_65.ok hΓ mix_ok sp h

/-- chantry/vote.at -/
def ac_66 : ACode :=
 (.seq
  (.region false [] [⟨some 3, .box (.t 1), none, [1]⟩, ⟨some 4, .mov (.c (.int .i64 0)), none, []⟩])
 (.seal_ 3
  (.seq
   (.region false [] [⟨some 5, .mov (.t 0), none, [0]⟩, ⟨some 6, .mkf 80 [.t 3], none, [3]⟩, ⟨some 7, .call 79 [.t 5, .t 6], none, [5, 6]⟩, ⟨some 4, .mov (.t 7), none, [7]⟩])
  .ret)))
def rs_66 : List ARes := [.tmp 4]
theorem g_66 : Good Try.prog 66 ac_66 rs_66 := ⟨Try.f66, Try.f66.body.getD .skip, by kernel_rfl, by kernel_rfl, by kernel_rfl, ⟨by kernel_rfl, by kernel_rfl⟩, by kernel_rfl, by kernel_rfl⟩
theorem ok_66 {Γ : Env} (hΓ : EnvOk Try.prog Γ) (sp : Spec) (h : WB Γ ac_66 rs_66 sp) : CallOk Try.prog 66 sp := g_66.ok hΓ mix_ok sp h

/-- chantry/count.With -/
def ac_67 : ACode :=
 (.seq
  (.region false [] [⟨some 4, .mov (.c (.int .u16 0)), none, []⟩])
 (.seq
  (.region false [] [⟨some 5, .mov (.t 0), none, [0]⟩, ⟨some 6, .mov (.t 1), none, [1]⟩, ⟨some 7, .call 58 [.t 6], none, [6]⟩, ⟨some 8, .bin false .or (.t 5) (.t 7), none, [5, 7]⟩, ⟨some 4, .mov (.t 8), none, [8]⟩])
 .ret))
def rs_67 : List ARes := [.tmp 4]
theorem g_67 : Good Try.prog 67 ac_67 rs_67 := ⟨Try.f67, Try.f67.body.getD .skip, by kernel_rfl, by kernel_rfl, by kernel_rfl, ⟨by kernel_rfl, by kernel_rfl⟩, by kernel_rfl, by kernel_rfl⟩
theorem ok_67 {Γ : Env} (hΓ : EnvOk Try.prog Γ) (sp : Spec) (h : WB Γ ac_67 rs_67 sp) : CallOk Try.prog 67 sp := g_67.ok hΓ mix_ok sp h

/-- cmp.isNaN[uint8] -/
def ac_68 : ACode :=
 (.seq
  (.region false [] [⟨some 2, .mov (.c (.bool false)), none, []⟩])
 (.seq
  (.region false [] [⟨some 3, .mov (.t 0), none, []⟩, ⟨some 4, .mov (.t 0), none, [0]⟩, ⟨some 5, .bin false .neq (.t 3) (.t 4), none, [3, 4]⟩, ⟨some 2, .mov (.t 5), none, [5]⟩])
 .ret))
def rs_68 : List ARes := [.tmp 2]
theorem g_68 : Good Try.prog 68 ac_68 rs_68 := ⟨Try.f68, Try.f68.body.getD .skip, by kernel_rfl, by kernel_rfl, by kernel_rfl, ⟨by kernel_rfl, by kernel_rfl⟩, by kernel_rfl, by kernel_rfl⟩
theorem ok_68 {Γ : Env} (hΓ : EnvOk Try.prog Γ) (sp : Spec) (h : WB Γ ac_68 rs_68 sp) : CallOk Try.prog 68 sp := g_68.ok hΓ mix_ok sp h

/-- cmp.isNaN[int] -/
def ac_69 : ACode :=
 (.seq
  (.region false [] [⟨some 2, .mov (.c (.bool false)), none, []⟩])
 (.seq
  (.region false [] [⟨some 3, .mov (.t 0), none, []⟩, ⟨some 4, .mov (.t 0), none, [0]⟩, ⟨some 5, .bin false .neq (.t 3) (.t 4), none, [3, 4]⟩, ⟨some 2, .mov (.t 5), none, [5]⟩])
 .ret))
def rs_69 : List ARes := [.tmp 2]
theorem g_69 : Good Try.prog 69 ac_69 rs_69 := ⟨Try.f69, Try.f69.body.getD .skip, by kernel_rfl, by kernel_rfl, by kernel_rfl, ⟨by kernel_rfl, by kernel_rfl⟩, by kernel_rfl, by kernel_rfl⟩
theorem ok_69 {Γ : Env} (hΓ : EnvOk Try.prog Γ) (sp : Spec) (h : WB Γ ac_69 rs_69 sp) : CallOk Try.prog 69 sp := g_69.ok hΓ mix_ok sp h

/-- chantry/chantryref05.List -/
def ac_71 : ACode :=
 (.seq
  (.region false [] [⟨some 2, .mov (.c (.slice none 0 0)), none, []⟩])
 (.seq
  (.region false [] [⟨some 3, .mov (.c (.slice none 0 0)), none, []⟩])
 (.seq
  (.seq
   (.region false [] [⟨some 4, .mov (.c (.int .i64 0)), none, []⟩])
  (.block 0
   (.loop [0, 3, 4]
    (.seq
     (.seq
      (.region false [] [⟨some 5, .mov (.t 4), none, []⟩, ⟨some 6, .bin false .lss (.t 5) (.c (.int .i64 16)), none, [5]⟩])
     (.cond (.t 6)
       (.drop [6]
        .skip)
       (.drop [0, 4, 6]
        (.exit 0))))
    (.seq
     (.block 1
      (.seq
       (.region false [] [⟨some 9, .mov (.t 0), none, []⟩, ⟨some 10, .mov (.t 4), none, []⟩, ⟨some 11, .cvt .u8 (.t 10), none, [10]⟩, ⟨some 12, .call 35 [.t 9, .t 11], none, [9, 11]⟩])
      (.cond (.t 12)
        (.drop [12]
         (.region false [] [⟨some 13, .mov (.t 3), none, [3]⟩, ⟨some 14, .mov (.t 4), none, []⟩, ⟨some 15, .cvt .u8 (.t 14), none, [14]⟩, ⟨some 16, .bsl 5 1 [.t 15], none, [15]⟩, ⟨some 17, .app 5 1 1 (.t 13) (.t 16), none, [13, 16]⟩, ⟨some 3, .mov (.t 17), none, [17]⟩]))
        (.drop [12]
         .skip))))
    (.region false [] [⟨some 7, .mov (.t 4), none, [4]⟩, ⟨some 8, .bin false .add (.t 7) (.c (.int .i64 1)), none, [7]⟩, ⟨some 4, .mov (.t 8), none, [8]⟩]))))))
 (.seq
  (.region false [] [⟨some 18, .mov (.t 3), none, [3]⟩, ⟨some 2, .mov (.t 18), none, [18]⟩])
 .ret))))
def rs_71 : List ARes := [.tmp 2]
theorem g_71 : Good Try.prog 71 ac_71 rs_71 := ⟨Try.f71, Try.f71.body.getD .skip, by kernel_rfl, by kernel_rfl, by kernel_rfl, ⟨by kernel_rfl, by kernel_rfl⟩, by kernel_rfl, by kernel_rfl⟩
theorem ok_71 {Γ : Env} (hΓ : EnvOk Try.prog Γ) (sp : Spec) (h : WB Γ ac_71 rs_71 sp) : CallOk Try.prog 71 sp := g_71.ok hΓ mix_ok sp h

/-- chantry/chantryref07.voted -/
def ac_72 : ACode :=
 (.seq
  (.region false [] [⟨some 4, .mov (.c (.bool false)), none, []⟩])
 (.seq
  (.seq
   (.region false [] [⟨some 5, .mov (.c (.int .i64 0)), none, []⟩])
  (.block 0
   (.loop [0, 1, 5]
    (.seq
     (.seq
      (.region false [] [⟨some 6, .mov (.t 5), none, []⟩, ⟨some 7, .mov (.t 0), none, []⟩, ⟨some 8, .len false (.t 7), none, [7]⟩, ⟨some 9, .bin false .lss (.t 6) (.t 8), none, [6, 8]⟩])
     (.cond (.t 9)
       (.drop [9]
        .skip)
       (.drop [0, 1, 5, 9]
        (.exit 0))))
    (.seq
     (.block 1
      (.seq
       (.region false [] [⟨some 12, .mov (.t 0), none, []⟩, ⟨some 13, .mov (.t 5), none, []⟩, ⟨some 14, .iax 2 (.t 12) (.t 13), none, [12, 13]⟩, ⟨some 15, .fad 1 (.t 14), none, [14]⟩, ⟨some 16, .ld false 1 (.t 15), none, [15]⟩, ⟨some 17, .mov (.t 1), none, []⟩, ⟨some 18, .call 35 [.t 16, .t 17], none, [16, 17]⟩])
      (.cond (.t 18)
        (.drop [0, 1, 5, 18]
         (.seq
          (.region false [] [⟨some 4, .mov (.c (.bool true)), none, []⟩])
         .ret))
        (.drop [18]
         .skip))))
    (.region false [] [⟨some 10, .mov (.t 5), none, [5]⟩, ⟨some 11, .bin false .add (.t 10) (.c (.int .i64 1)), none, [10]⟩, ⟨some 5, .mov (.t 11), none, [11]⟩]))))))
 (.seq
  (.region false [] [⟨some 4, .mov (.c (.bool false)), none, []⟩])
 .ret)))
def rs_72 : List ARes := [.tmp 4]
theorem g_72 : Good Try.prog 72 ac_72 rs_72 := ⟨Try.f72, Try.f72.body.getD .skip, by kernel_rfl, by kernel_rfl, by kernel_rfl, ⟨by kernel_rfl, by kernel_rfl⟩, by kernel_rfl, by kernel_rfl⟩
theorem ok_72 {Γ : Env} (hΓ : EnvOk Try.prog Γ) (sp : Spec) (h : WB Γ ac_72 rs_72 sp) : CallOk Try.prog 72 sp := g_72.ok hΓ mix_ok sp h

/-- chantry/chantryref07.with -/
def ac_73 : ACode :=
 (.seq
  (.region false [] [⟨some 6, .mov (.c (.slice none 0 0)), none, []⟩])
 (.seq
  (.region false [] [⟨some 7, .mov (.c (.slice none 0 0)), none, []⟩])
 (.seq
  (.region false [] [⟨some 8, .mov (.c (.bool false)), none, []⟩])
 (.seq
  (.seq
   (.region false [] [⟨some 9, .mov (.c (.int .i64 0)), none, []⟩])
  (.block 0
   (.loop [0, 1, 2, 7, 8, 9]
    (.seq
     (.seq
      (.region false [] [⟨some 11, .mov (.t 9), none, []⟩, ⟨some 12, .mov (.t 0), none, []⟩, ⟨some 13, .len false (.t 12), none, [12]⟩, ⟨some 14, .bin false .lss (.t 11) (.t 13), none, [11, 13]⟩])
     (.cond (.t 14)
       (.drop [14]
        .skip)
       (.drop [0, 9, 14]
        (.exit 0))))
    (.seq
     (.block 1
      (.seq
       (.region false [] [⟨some 17, .mov (.t 0), none, []⟩, ⟨some 18, .mov (.t 9), none, []⟩, ⟨some 19, .iax 2 (.t 17) (.t 18), none, [17, 18]⟩, ⟨some 20, .ld true 2 (.t 19), none, [19]⟩, ⟨some 10, .alloc [.string ⟨#[]⟩, .int .u16 0], none, []⟩, ⟨none, .st 2 (.t 10) (.t 20), none, [20]⟩])
      (.seq
       (.seq
        (.region false [] [⟨some 21, .mov (.t 8), none, []⟩, ⟨some 22, .un .not (.t 21), none, [21]⟩, ⟨some 23, .mov (.t 22), none, [22]⟩, ⟨some 24, .fad 0 (.t 10), some (23, true), []⟩, ⟨some 25, .ld false 1 (.t 24), some (23, true), [24]⟩, ⟨some 26, .mov (.t 2), some (23, true), []⟩, ⟨some 27, .bin false .eql (.t 25) (.t 26), some (23, true), [25, 26]⟩, ⟨some 28, .pick (.t 23) (.t 27) (.c (.bool false)), none, [23, 27]⟩])
       (.cond (.t 28)
         (.drop [8, 28]
          (.seq
           (.region false [] [⟨some 29, .fad 1 (.t 10), none, []⟩, ⟨some 30, .ld false 1 (.t 29), none, [29]⟩, ⟨some 31, .mov (.t 1), none, []⟩, ⟨some 32, .call 82 [.t 30, .t 31], none, [30, 31]⟩, ⟨some 33, .fad 1 (.t 10), none, []⟩, ⟨none, .st 1 (.t 33) (.t 32), none, [32, 33]⟩])
          (.region false [] [⟨some 8, .mov (.c (.bool true)), none, []⟩])))
         (.drop [28]
          .skip)))
      (.region false [] [⟨some 34, .mov (.t 7), none, [7]⟩, ⟨some 35, .ld true 2 (.t 10), none, [10]⟩, ⟨some 36, .bsl 116 2 [.t 35], none, [35]⟩, ⟨some 37, .app 116 2 24 (.t 34) (.t 36), none, [34, 36]⟩, ⟨some 7, .mov (.t 37), none, [37]⟩]))))
    (.region false [] [⟨some 15, .mov (.t 9), none, [9]⟩, ⟨some 16, .bin false .add (.t 15) (.c (.int .i64 1)), none, [15]⟩, ⟨some 9, .mov (.t 16), none, [16]⟩]))))))
 (.seq
  (.seq
   (.region false [] [⟨some 38, .mov (.t 8), none, [8]⟩, ⟨some 39, .un .not (.t 38), none, [38]⟩])
  (.cond (.t 39)
    (.drop [39]
     (.region false [] [⟨some 40, .mov (.t 7), none, [7]⟩, ⟨some 41, .mov (.t 2), none, [2]⟩, ⟨some 42, .mov (.t 1), none, [1]⟩, ⟨some 43, .call 82 [.c (.int .u16 0), .t 42], none, [42]⟩, ⟨some 44, .bld [.string ⟨#[]⟩, .int .u16 0] [(0, 1, .t 41), (1, 1, .t 43)], none, [41, 43]⟩, ⟨some 45, .bsl 116 2 [.t 44], none, [44]⟩, ⟨some 46, .app 116 2 24 (.t 40) (.t 45), none, [40, 45]⟩, ⟨some 7, .mov (.t 46), none, [46]⟩]))
    (.drop [1, 2, 39]
     .skip)))
 (.seq
  (.region false [] [⟨some 47, .mov (.t 7), none, [7]⟩, ⟨some 6, .mov (.t 47), none, [47]⟩])
 .ret))))))
def rs_73 : List ARes := [.tmp 6]
theorem g_73 : Good Try.prog 73 ac_73 rs_73 := ⟨Try.f73, Try.f73.body.getD .skip, by kernel_rfl, by kernel_rfl, by kernel_rfl, ⟨by kernel_rfl, by kernel_rfl⟩, by kernel_rfl, by kernel_rfl⟩
theorem ok_73 {Γ : Env} (hΓ : EnvOk Try.prog Γ) (sp : Spec) (h : WB Γ ac_73 rs_73 sp) : CallOk Try.prog 73 sp := g_73.ok hΓ mix_ok sp h

/-- chantry/chantryref07.votes -/
def ac_74 : ACode :=
 (.seq
  (.region false [] [⟨some 4, .mov (.c (.int .i64 0)), none, []⟩])
 (.seq
  (.region false [] [⟨some 5, .mov (.t 0), none, [0]⟩, ⟨some 6, .mov (.t 1), none, [1]⟩, ⟨some 7, .call 83 [.t 5, .t 6], none, [5, 6]⟩, ⟨some 8, .call 55 [.t 7], none, [7]⟩, ⟨some 4, .mov (.t 8), none, [8]⟩])
 .ret))
def rs_74 : List ARes := [.tmp 4]
theorem g_74 : Good Try.prog 74 ac_74 rs_74 := ⟨Try.f74, Try.f74.body.getD .skip, by kernel_rfl, by kernel_rfl, by kernel_rfl, ⟨by kernel_rfl, by kernel_rfl⟩, by kernel_rfl, by kernel_rfl⟩
theorem ok_74 {Γ : Env} (hΓ : EnvOk Try.prog Γ) (sp : Spec) (h : WB Γ ac_74 rs_74 sp) : CallOk Try.prog 74 sp := g_74.ok hΓ mix_ok sp h

/-- chantry/chantryref05.Echoes -/
def ac_75 : ACode :=
 (.seq
  (.region false [] [⟨some 2, .mov (.c (.int .i64 0)), none, []⟩])
 (.seq
  (.region false [] [⟨some 5, .mov (.t 0), none, []⟩, ⟨some 6, .call 84 [.t 5], none, [5]⟩, ⟨some 7, .mov (.t 0), none, [0]⟩, ⟨some 8, .call 85 [.t 7], none, [7]⟩, ⟨some 9, .bin false .add (.t 6) (.t 8), none, [6, 8]⟩, ⟨some 3, .mov (.t 9), none, [9]⟩])
 (.seq
  (.region false [] [⟨some 4, .mov (.c (.int .i64 0)), none, []⟩])
 (.seq
  (.block 0
   (.loop [3, 4]
    (.seq
     (.seq
      (.region false [] [⟨some 10, .mov (.t 4), none, []⟩, ⟨some 11, .bin false .mul (.c (.int .i64 2)) (.t 10), none, [10]⟩, ⟨some 12, .mov (.t 3), none, []⟩, ⟨some 13, .bin false .leq (.t 11) (.t 12), none, [11, 12]⟩])
     (.cond (.t 13)
       (.drop [13]
        .skip)
       (.drop [3, 13]
        (.exit 0))))
    (.block 1
     (.region false [] [⟨some 14, .mov (.t 4), none, [4]⟩, ⟨some 15, .bin false .add (.t 14) (.c (.int .i64 1)), none, [14]⟩, ⟨some 4, .mov (.t 15), none, [15]⟩])))))
 (.seq
  (.region false [] [⟨some 16, .mov (.t 4), none, [4]⟩, ⟨some 2, .mov (.t 16), none, [16]⟩])
 .ret)))))
def rs_75 : List ARes := [.tmp 2]
theorem g_75 : Good Try.prog 75 ac_75 rs_75 := ⟨Try.f75, Try.f75.body.getD .skip, by kernel_rfl, by kernel_rfl, by kernel_rfl, ⟨by kernel_rfl, by kernel_rfl⟩, by kernel_rfl, by kernel_rfl⟩
theorem ok_75 {Γ : Env} (hΓ : EnvOk Try.prog Γ) (sp : Spec) (h : WB Γ ac_75 rs_75 sp) : CallOk Try.prog 75 sp := g_75.ok hΓ mix_ok sp h

/-- chantry/chantryref07.ready -/
def ac_76 : ACode :=
 (.seq
  (.region false [] [⟨some 2, .box (.t 0), none, [0]⟩, ⟨some 4, .alloc [.bool false, .bool false, .bool false, .slice none 0 0, .slice none 0 0, .slice none 0 0, .string ⟨#[]⟩, .bool false, .int .i64 0], none, []⟩])
 (.seq
  (.seq
   (.region false [] [⟨some 7, .fad 0 (.t 2), none, []⟩, ⟨some 8, .fad 1 (.t 7), none, [7]⟩, ⟨some 9, .ld false 1 (.t 8), none, [8]⟩, ⟨some 10, .un .not (.t 9), none, [9]⟩])
  (.cond (.t 10)
    (.drop [10]
     (.seq
      (.region false [] [⟨some 11, .bsl 95 2 [], none, []⟩, ⟨some 12, .fad 5 (.t 2), none, []⟩, ⟨some 13, .ld false 1 (.t 12), none, [12]⟩, ⟨some 14, .app 95 2 24 (.t 11) (.t 13), none, [11, 13]⟩, ⟨some 5, .mov (.t 14), none, [14]⟩])
     (.seq
      (.region false [] [⟨some 15, .mov (.t 5), none, [5]⟩, ⟨some 16, .mov (.t 1), none, [1]⟩, ⟨some 17, .bld [.int .i64 0, .string ⟨#[]⟩] [(0, 1, .c (.int .i64 3)), (1, 1, .t 16)], none, [16]⟩, ⟨some 18, .bsl 95 2 [.t 17], none, [17]⟩, ⟨some 19, .app 95 2 24 (.t 15) (.t 18), none, [15, 18]⟩, ⟨some 20, .fad 5 (.t 2), none, []⟩, ⟨none, .st 1 (.t 20) (.t 19), none, [19, 20]⟩])
     (.seq
      (.region false [] [⟨some 21, .fad 0 (.t 2), none, []⟩, ⟨some 22, .ld true 5 (.t 21), none, [21]⟩, ⟨some 6, .alloc [.bool false, .bool false, .bool false, .slice none 0 0, .slice none 0 0], none, []⟩, ⟨none, .st 5 (.t 6) (.t 22), none, [22]⟩])
     (.seq
      (.region false [] [⟨some 23, .fad 1 (.t 6), none, []⟩, ⟨none, .st 1 (.t 23) (.c (.bool true)), none, [23]⟩])
     (.region false [] [⟨some 24, .ld true 5 (.t 6), none, [6]⟩, ⟨some 25, .fad 0 (.t 2), none, []⟩, ⟨none, .st 5 (.t 25) (.t 24), none, [24, 25]⟩]))))))
    (.drop [1, 10]
     .skip)))
 (.seq
  (.region false [] [⟨some 26, .ld true 9 (.t 2), none, [2]⟩, ⟨none, .st 9 (.t 4) (.t 26), none, [26]⟩])
 .ret)))
def rs_76 : List ARes := [.cell 4 true 9]
theorem g_76 : Good Try.prog 76 ac_76 rs_76 := ⟨Try.f76, Try.f76.body.getD .skip, by kernel_rfl, by kernel_rfl, by kernel_rfl, ⟨by kernel_rfl, by kernel_rfl⟩, by kernel_rfl, by kernel_rfl⟩
theorem ok_76 {Γ : Env} (hΓ : EnvOk Try.prog Γ) (sp : Spec) (h : WB Γ ac_76 rs_76 sp) : CallOk Try.prog 76 sp := g_76.ok hΓ mix_ok sp h

/-- chantry/chantryref05.Readies -/
def ac_77 : ACode :=
 (.seq
  (.region false [] [⟨some 2, .mov (.c (.int .i64 0)), none, []⟩])
 (.seq
  (.region false [] [⟨some 3, .mov (.t 0), none, [0]⟩, ⟨some 4, .call 85 [.t 3], none, [3]⟩, ⟨some 5, .bin false .add (.t 4) (.c (.int .i64 1)), none, [4]⟩, ⟨some 2, .mov (.t 5), none, [5]⟩])
 .ret))
def rs_77 : List ARes := [.tmp 2]
theorem g_77 : Good Try.prog 77 ac_77 rs_77 := ⟨Try.f77, Try.f77.body.getD .skip, by kernel_rfl, by kernel_rfl, by kernel_rfl, ⟨by kernel_rfl, by kernel_rfl⟩, by kernel_rfl, by kernel_rfl⟩
theorem ok_77 {Γ : Env} (hΓ : EnvOk Try.prog Γ) (sp : Spec) (h : WB Γ ac_77 rs_77 sp) : CallOk Try.prog 77 sp := g_77.ok hΓ mix_ok sp h

/-- chantry/chantryref05.Enough -/
def ac_78 : ACode :=
 (.seq
  (.region false [] [⟨some 2, .mov (.c (.int .i64 0)), none, []⟩])
 (.seq
  (.region false [] [⟨some 3, .mov (.t 0), none, [0]⟩, ⟨some 4, .call 85 [.t 3], none, [3]⟩, ⟨some 5, .bin false .mul (.c (.int .i64 2)) (.t 4), none, [4]⟩, ⟨some 6, .bin false .add (.t 5) (.c (.int .i64 1)), none, [5]⟩, ⟨some 2, .mov (.t 6), none, [6]⟩])
 .ret))
def rs_78 : List ARes := [.tmp 2]
theorem g_78 : Good Try.prog 78 ac_78 rs_78 := ⟨Try.f78, Try.f78.body.getD .skip, by kernel_rfl, by kernel_rfl, by kernel_rfl, ⟨by kernel_rfl, by kernel_rfl⟩, by kernel_rfl, by kernel_rfl⟩
theorem ok_78 {Γ : Env} (hΓ : EnvOk Try.prog Γ) (sp : Spec) (h : WB Γ ac_78 rs_78 sp) : CallOk Try.prog 78 sp := g_78.ok hΓ mix_ok sp h

/-- slices.IndexFunc[[]chantry/vote.Ballot,chantry/vote.Ballot] -/
def ac_79 : ACode :=
 (.seq
  (.region false [] [⟨some 4, .mov (.c (.int .i64 0)), none, []⟩])
 (.seq
  (.seq
   (.region false [] [⟨some 6, .mov (.t 0), none, []⟩, ⟨some 7, .len false (.t 6), none, [6]⟩, ⟨some 8, .mov (.c (.int .i64 0)), none, []⟩])
  (.block 0
   (.loop [0, 1, 7, 8]
    (.seq
     (.region false [] [⟨some 9, .bin false .lss (.t 8) (.t 7), none, []⟩])
    (.seq
     (.cond (.t 9)
       (.drop [9]
        .skip)
       (.drop [0, 1, 7, 8, 9]
        (.exit 0)))
    (.seq
     (.block 1
      (.seq
       (.region false [] [⟨some 10, .mov (.t 8), none, []⟩, ⟨some 5, .mov (.t 10), none, [10]⟩])
      (.seq
       (.region false [] [⟨some 11, .mov (.t 1), none, []⟩, ⟨some 12, .mov (.t 0), none, []⟩, ⟨some 13, .mov (.t 5), none, []⟩, ⟨some 14, .iax 2 (.t 12) (.t 13), none, [12, 13]⟩, ⟨some 15, .ld true 2 (.t 14), none, [14]⟩, ⟨some 16, .calv (.t 11) [.t 15], none, [11, 15]⟩])
      (.cond (.t 16)
        (.drop [0, 1, 7, 8, 16]
         (.seq
          (.region false [] [⟨some 17, .mov (.t 5), none, [5]⟩, ⟨some 4, .mov (.t 17), none, [17]⟩])
         .ret))
        (.drop [5, 16]
         .skip)))))
    (.region false [] [⟨some 18, .bin false .add (.t 8) (.c (.int .i64 1)), none, [8]⟩, ⟨some 8, .mov (.t 18), none, [18]⟩])))))))
 (.seq
  (.region false [] [⟨some 4, .mov (.c (.int .i64 (-1))), none, []⟩])
 .ret)))
def rs_79 : List ARes := [.tmp 4]
theorem g_79 : Good Try.prog 79 ac_79 rs_79 := ⟨Try.f79, Try.f79.body.getD .skip, by kernel_rfl, by kernel_rfl, by kernel_rfl, ⟨by kernel_rfl, by kernel_rfl⟩, by kernel_rfl, by kernel_rfl⟩
theorem ok_79 {Γ : Env} (hΓ : EnvOk Try.prog Γ) (sp : Spec) (h : WB Γ ac_79 rs_79 sp) : CallOk Try.prog 79 sp := g_79.ok hΓ mix_ok sp h

/-- chantry/vote.at$1 -/
def ac_80 : ACode :=
 (.seq
  (.region false [] [⟨some 2, .box (.t 0), none, [0]⟩, ⟨some 3, .mov (.c (.bool false)), none, []⟩])
 (.seal_ 2
  (.seq
   (.region false [] [⟨some 4, .fad 0 (.t 2), none, [2]⟩, ⟨some 5, .ld false 1 (.t 4), none, [4]⟩, ⟨some 6, .ld false 1 (.t 1), none, [1]⟩, ⟨some 7, .bin false .eql (.t 5) (.t 6), none, [5, 6]⟩, ⟨some 3, .mov (.t 7), none, [7]⟩])
  .ret)))
def rs_80 : List ARes := [.tmp 3]
theorem g_80 : Good Try.prog 80 ac_80 rs_80 := ⟨Try.f80, Try.f80.body.getD .skip, by kernel_rfl, by kernel_rfl, by kernel_rfl, ⟨by kernel_rfl, by kernel_rfl⟩, by kernel_rfl, by kernel_rfl⟩
theorem ok_80 {Γ : Env} (hΓ : EnvOk Try.prog Γ) (sp : Spec) (h : WB Γ ac_80 rs_80 sp) : CallOk Try.prog 80 sp := g_80.ok hΓ mix_ok sp h

/-- chantry/chantryref05.With -/
def ac_82 : ACode :=
 (.seq
  (.region false [] [⟨some 4, .mov (.c (.int .u16 0)), none, []⟩])
 (.seq
  (.seq
   (.region false [] [⟨some 5, .mov (.t 0), none, []⟩, ⟨some 6, .mov (.t 1), none, []⟩, ⟨some 7, .call 35 [.t 5, .t 6], none, [5, 6]⟩])
  (.cond (.t 7)
    (.drop [1, 7]
     (.seq
      (.region false [] [⟨some 8, .mov (.t 0), none, [0]⟩, ⟨some 4, .mov (.t 8), none, [8]⟩])
     .ret))
    (.drop [7]
     .skip)))
 (.seq
  (.region false [] [⟨some 9, .mov (.t 0), none, [0]⟩, ⟨some 10, .mov (.t 1), none, [1]⟩, ⟨some 11, .call 60 [.t 10], none, [10]⟩, ⟨some 12, .bin false .add (.t 9) (.t 11), none, [9, 11]⟩, ⟨some 4, .mov (.t 12), none, [12]⟩])
 .ret)))
def rs_82 : List ARes := [.tmp 4]
theorem g_82 : Good Try.prog 82 ac_82 rs_82 := ⟨Try.f82, Try.f82.body.getD .skip, by kernel_rfl, by kernel_rfl, by kernel_rfl, ⟨by kernel_rfl, by kernel_rfl⟩, by kernel_rfl, by kernel_rfl⟩
theorem ok_82 {Γ : Env} (hΓ : EnvOk Try.prog Γ) (sp : Spec) (h : WB Γ ac_82 rs_82 sp) : CallOk Try.prog 82 sp := g_82.ok hΓ mix_ok sp h

/-- chantry/chantryref07.For -/
def ac_83 : ACode :=
 (.seq
  (.region false [] [⟨some 4, .mov (.c (.int .u16 0)), none, []⟩])
 (.seq
  (.seq
   (.region false [] [⟨some 5, .mov (.c (.int .i64 0)), none, []⟩])
  (.block 0
   (.loop [0, 1, 5]
    (.seq
     (.seq
      (.region false [] [⟨some 6, .mov (.t 5), none, []⟩, ⟨some 7, .mov (.t 0), none, []⟩, ⟨some 8, .len false (.t 7), none, [7]⟩, ⟨some 9, .bin false .lss (.t 6) (.t 8), none, [6, 8]⟩])
     (.cond (.t 9)
       (.drop [9]
        .skip)
       (.drop [0, 1, 5, 9]
        (.exit 0))))
    (.seq
     (.block 1
      (.seq
       (.region false [] [⟨some 12, .mov (.t 0), none, []⟩, ⟨some 13, .mov (.t 5), none, []⟩, ⟨some 14, .iax 2 (.t 12) (.t 13), none, [12, 13]⟩, ⟨some 15, .fad 0 (.t 14), none, [14]⟩, ⟨some 16, .ld false 1 (.t 15), none, [15]⟩, ⟨some 17, .mov (.t 1), none, []⟩, ⟨some 18, .bin false .eql (.t 16) (.t 17), none, [16, 17]⟩])
      (.cond (.t 18)
        (.drop [1, 18]
         (.seq
          (.region false [] [⟨some 19, .mov (.t 0), none, [0]⟩, ⟨some 20, .mov (.t 5), none, [5]⟩, ⟨some 21, .iax 2 (.t 19) (.t 20), none, [19, 20]⟩, ⟨some 22, .fad 1 (.t 21), none, [21]⟩, ⟨some 23, .ld false 1 (.t 22), none, [22]⟩, ⟨some 4, .mov (.t 23), none, [23]⟩])
         .ret))
        (.drop [18]
         .skip))))
    (.region false [] [⟨some 10, .mov (.t 5), none, [5]⟩, ⟨some 11, .bin false .add (.t 10) (.c (.int .i64 1)), none, [10]⟩, ⟨some 5, .mov (.t 11), none, [11]⟩]))))))
 (.seq
  (.region false [] [⟨some 4, .mov (.c (.int .u16 0)), none, []⟩])
 .ret)))
def rs_83 : List ARes := [.tmp 4]
theorem g_83 : Good Try.prog 83 ac_83 rs_83 := ⟨Try.f83, Try.f83.body.getD .skip, by kernel_rfl, by kernel_rfl, by kernel_rfl, ⟨by kernel_rfl, by kernel_rfl⟩, by kernel_rfl, by kernel_rfl⟩
theorem ok_83 {Γ : Env} (hΓ : EnvOk Try.prog Γ) (sp : Spec) (h : WB Γ ac_83 rs_83 sp) : CallOk Try.prog 83 sp := g_83.ok hΓ mix_ok sp h

/-- chantry/chantryref05.held -/
def ac_84 : ACode :=
 (.seq
  (.region false [] [⟨some 2, .mov (.c (.int .i64 0)), none, []⟩])
 (.seq
  (.region false [] [⟨some 3, .mov (.t 0), none, [0]⟩, ⟨some 4, .mnn [.t 3, .c (.int .i64 16)], none, [3]⟩, ⟨some 5, .mxx [.c (.int .i64 1), .t 4], none, [4]⟩, ⟨some 2, .mov (.t 5), none, [5]⟩])
 .ret))
def rs_84 : List ARes := [.tmp 2]
theorem g_84 : Good Try.prog 84 ac_84 rs_84 := ⟨Try.f84, Try.f84.body.getD .skip, by kernel_rfl, by kernel_rfl, by kernel_rfl, ⟨by kernel_rfl, by kernel_rfl⟩, by kernel_rfl, by kernel_rfl⟩
theorem ok_84 {Γ : Env} (hΓ : EnvOk Try.prog Γ) (sp : Spec) (h : WB Γ ac_84 rs_84 sp) : CallOk Try.prog 84 sp := g_84.ok hΓ mix_ok sp h

/-- chantry/chantryref05.Faulty -/
def ac_85 : ACode :=
 (.seq
  (.region false [] [⟨some 2, .mov (.c (.int .i64 0)), none, []⟩])
 (.seq
  (.region false [] [⟨some 3, .mov (.t 0), none, [0]⟩, ⟨some 4, .call 84 [.t 3], none, [3]⟩, ⟨some 5, .bin false .sub (.t 4) (.c (.int .i64 1)), none, [4]⟩, ⟨some 6, .bin false .quo (.t 5) (.c (.int .i64 3)), none, [5]⟩, ⟨some 2, .mov (.t 6), none, [6]⟩])
 .ret))
def rs_85 : List ARes := [.tmp 2]
theorem g_85 : Good Try.prog 85 ac_85 rs_85 := ⟨Try.f85, Try.f85.body.getD .skip, by kernel_rfl, by kernel_rfl, by kernel_rfl, ⟨by kernel_rfl, by kernel_rfl⟩, by kernel_rfl, by kernel_rfl⟩
theorem ok_85 {Γ : Env} (hΓ : EnvOk Try.prog Γ) (sp : Spec) (h : WB Γ ac_85 rs_85 sp) : CallOk Try.prog 85 sp := g_85.ok hΓ mix_ok sp h

end Go.Proofs.Ytkbgndebfcjojaa.Am
