/-
  THE FUNCTIONS' ABSTRACT CODE, as Lean's own reduction of compCode printed it, with notes (genac.py); each is held against the translation by the kernel.
-/
import Derived.Test.YtifchnkhnphibaaProg
import Derived.Test.YtifchnkhnphibaaCode
namespace Go.Proofs.Ytifchnkhnphibaa.Am
set_option linter.unusedSimpArgs false
set_option linter.unusedVariables false
open Go Go.Proofs
set_option maxRecDepth 100000


/-- chantry/chantrylaw09.PastVecs -/
def ac_3 : ACode :=
 (.seq
  (.region false [] [⟨some 2, .box (.t 0), none, [0]⟩, ⟨some 3, .box (.t 1), none, [1]⟩, ⟨some 4, .mov (.c (.bool false)), none, []⟩])
 (.seal_ 3
  (.seal_ 2
   (.seq
    (.seq
     (.region false [] [⟨some 5, .call 9 [], none, []⟩, ⟨some 6, .un .not (.t 5), none, [5]⟩])
    (.cond (.t 6)
      (.drop [2, 3, 6]
       (.seq
        (.region false [] [⟨some 4, .mov (.c (.bool false)), none, []⟩])
       .ret))
      (.drop [6]
       .skip)))
   (.seq
    (.draws (.tak 0 ⟨some 7, .ld true 16 (.t 2), none, []⟩ (.tak 1 ⟨some 8, .ld true 16 (.t 3), none, []⟩ (.tak 3 ⟨some 10, .ld true 16 (.t 2), none, []⟩ (.tak 4 ⟨some 11, .ld true 16 (.t 3), none, []⟩ (.alt 2 ⟨some 9, .call 10 [.t 7, .t 8], none, []⟩ (.alt 5 ⟨some 12, .call 11 [.t 10, .t 11], none, []⟩ (.tak 6 ⟨some 13, .bin true .eql (.t 9) (.t 12), none, []⟩ (.tak 7 ⟨some 14, .mov (.t 13), none, []⟩ (.tak 8 ⟨some 15, .ld true 16 (.t 2), some (14, true), []⟩ (.tak 9 ⟨some 16, .ld true 16 (.t 3), some (14, true), []⟩ (.tak 11 ⟨some 18, .ld true 16 (.t 2), some (14, true), []⟩ (.tak 12 ⟨some 19, .ld true 16 (.t 3), some (14, true), []⟩ (.alt 10 ⟨some 17, .call 12 [.t 15, .t 16], some (14, true), []⟩ (.alt 13 ⟨some 20, .call 13 [.t 18, .t 19], some (14, true), []⟩ (.tak 14 ⟨some 21, .eqs false [.i, .i, .i, .i, .i, .i, .i, .i, .i, .i, .i, .i, .i, .i, .i, .i] (.t 17) (.t 20), some (14, true), []⟩ (.tak 15 ⟨some 22, .pick (.t 14) (.t 21) (.c (.bool false)), none, []⟩ (.tak 16 ⟨some 4, .mov (.t 22), none, []⟩ .done))) .stop) .stop))))))) .stop) .stop))))) [[], [], [0, 1], [], [], [3, 4, 2], [2, 5], [6, 5], [7], [7], [8, 9, 7, 7], [7], [7], [11, 12, 10, 7], [10, 13, 7], [7, 14], [15, 13, 0, 1, 2, 3, 4, 5, 6, 7, 8, 9, 10, 11, 12, 13, 14, 15]] [⟨some 7, .ld true 16 (.t 2), none, []⟩, ⟨some 8, .ld true 16 (.t 3), none, []⟩, ⟨some 9, .call 10 [.t 7, .t 8], none, []⟩, ⟨some 10, .ld true 16 (.t 2), none, []⟩, ⟨some 11, .ld true 16 (.t 3), none, []⟩, ⟨some 12, .call 11 [.t 10, .t 11], none, []⟩, ⟨some 13, .bin true .eql (.t 9) (.t 12), none, []⟩, ⟨some 14, .mov (.t 13), none, []⟩, ⟨some 15, .ld true 16 (.t 2), some (14, true), []⟩, ⟨some 16, .ld true 16 (.t 3), some (14, true), []⟩, ⟨some 17, .call 12 [.t 15, .t 16], some (14, true), []⟩, ⟨some 18, .ld true 16 (.t 2), some (14, true), []⟩, ⟨some 19, .ld true 16 (.t 3), some (14, true), []⟩, ⟨some 20, .call 13 [.t 18, .t 19], some (14, true), []⟩, ⟨some 21, .eqs false [.i, .i, .i, .i, .i, .i, .i, .i, .i, .i, .i, .i, .i, .i, .i, .i] (.t 17) (.t 20), some (14, true), []⟩, ⟨some 22, .pick (.t 14) (.t 21) (.c (.bool false)), none, []⟩, ⟨some 4, .mov (.t 22), none, []⟩])
   (.drop [2, 3, 7, 8, 9, 10, 11, 12, 13, 14, 15, 16, 17, 18, 19, 20, 21, 22]
    .ret))))))
def rs_3 : List ARes := [.tmp 4]
theorem ac_3_ok : compCode Try.prog (Try.f3.body.getD .skip) = some ac_3.plain := by kernel_rfl
theorem ac_3_chk : ac_3.chk ⟨Try.f3.ntmps, []⟩ = true := by kernel_rfl
theorem ac_3_pairs : ac_3.pairs.map Prod.fst = ac_3.pairs.map Prod.snd := by kernel_rfl
theorem rs_3_ok : Try.f3.results.toList.mapM (compRes Try.prog) = some rs_3 := by kernel_rfl
theorem ok_3 {Γ : Env} (hΓ : EnvOk Try.prog Γ) (sp : Spec) (h : ∀ args mem r mem1, sp args mem = some (r, mem1) → wpA Γ mem.length ac_3 (finQ mem.length rs_3 r mem1) (entry 0 args) mem) : CallOk Try.prog 3 sp :=
  ok_of_body (fn := Try.f3) (c := Try.f3.body.getD .skip) hΓ mix_ok (by kernel_rfl) (by kernel_rfl) ac_3_ok ⟨ac_3_chk, ac_3_pairs⟩ rs_3_ok (by kernel_rfl) sp h

/-- chantry/chantrylaw09.PastBodies -/
def ac_4 : ACode :=
 (.seq
  (.region false [] [⟨some 3, .box (.t 0), none, [0]⟩, ⟨some 4, .box (.t 1), none, [1]⟩, ⟨some 6, .mov (.c (.bool false)), none, []⟩])
 (.seal_ 4
  (.seal_ 3
   (.seq
    (.seq
     (.region false [] [⟨some 15, .call 9 [], none, []⟩, ⟨some 16, .un .not (.t 15), none, [15]⟩])
    (.cond (.t 16)
      (.drop [2, 3, 4, 16]
       (.seq
        (.region false [] [⟨some 6, .mov (.c (.bool false)), none, []⟩])
       .ret))
      (.drop [16]
       .skip)))
   (.seq
    (.seq
     (.region false [] [⟨some 17, .fad 17 (.t 3), none, []⟩, ⟨some 18, .ld false 1 (.t 17), none, [17]⟩, ⟨some 19, .len true (.t 18), none, [18]⟩, ⟨some 20, .bin false .gtr (.t 19) (.c (.int .i64 1000)), none, [19]⟩, ⟨some 21, .mov (.t 20), none, [20]⟩, ⟨some 22, .mov (.t 2), some (21, false), []⟩, ⟨some 23, .len true (.t 22), some (21, false), [22]⟩, ⟨some 24, .bin false .gtr (.t 23) (.c (.int .i64 1000)), some (21, false), [23]⟩, ⟨some 25, .pick (.t 21) (.c (.bool true)) (.t 24), none, [21, 24]⟩])
    (.cond (.t 25)
      (.drop [2, 3, 4, 25]
       (.seq
        (.region false [] [⟨some 6, .mov (.c (.bool true)), none, []⟩])
       .ret))
      (.drop [25]
       .skip)))
   (.seq
    (.region false [] [⟨some 27, .ld true 18 (.t 3), none, []⟩, ⟨some 28, .call 14 [.t 27], none, [27]⟩, ⟨some 26, .mov (.t 28), none, [28]⟩, ⟨some 29, .ext 0 (.t 26), none, []⟩, ⟨some 30, .ext 1 (.t 26), none, [26]⟩, ⟨some 7, .mov (.t 29), none, [29]⟩, ⟨some 8, .mov (.t 30), none, [30]⟩])
   (.seq
    (.region false [] [⟨some 32, .ld true 18 (.t 3), none, []⟩, ⟨some 33, .call 15 [.t 32], none, [32]⟩, ⟨some 31, .mov (.t 33), none, [33]⟩, ⟨some 34, .ext 0 (.t 31), none, []⟩, ⟨some 35, .ext 1 (.t 31), none, [31]⟩, ⟨some 9, .mov (.t 34), none, [34]⟩, ⟨some 10, .mov (.t 35), none, [35]⟩])
   (.seq
    (.region false [] [⟨some 37, .mov (.t 2), none, []⟩, ⟨some 38, .call 16 [.t 37], none, [37]⟩, ⟨some 36, .mov (.t 38), none, [38]⟩, ⟨some 39, .ext 0 (.t 36), none, []⟩, ⟨some 40, .ext 1 (.t 36), none, [36]⟩, ⟨some 11, .alloc [.int .i64 0, .int .u16 0, .int .u16 0, .int .u16 0, .int .u16 0, .int .u16 0, .int .u16 0, .int .u16 0, .int .u16 0, .int .u16 0, .int .u16 0, .int .u16 0, .int .u16 0, .int .u16 0, .int .u16 0, .int .u16 0, .int .u16 0, .string ⟨#[]⟩], none, []⟩, ⟨none, .st 18 (.t 11) (.t 39), none, [39]⟩, ⟨some 12, .mov (.t 40), none, [40]⟩])
   (.seal_ 11
    (.seq
     (.region false [] [⟨some 42, .mov (.t 2), none, [2]⟩, ⟨some 43, .call 17 [.t 42], none, [42]⟩, ⟨some 41, .mov (.t 43), none, [43]⟩, ⟨some 44, .ext 0 (.t 41), none, []⟩, ⟨some 45, .ext 1 (.t 41), none, [41]⟩, ⟨some 13, .alloc [.int .i64 0, .int .u16 0, .int .u16 0, .int .u16 0, .int .u16 0, .int .u16 0, .int .u16 0, .int .u16 0, .int .u16 0, .int .u16 0, .int .u16 0, .int .u16 0, .int .u16 0, .int .u16 0, .int .u16 0, .int .u16 0, .int .u16 0, .string ⟨#[]⟩], none, []⟩, ⟨none, .st 18 (.t 13) (.t 44), none, [44]⟩, ⟨some 14, .mov (.t 45), none, [45]⟩])
    (.seal_ 13
     (.seq
      (.draws (.tak 0 ⟨some 46, .ld true 18 (.t 3), none, []⟩ (.tak 1 ⟨some 47, .fad 1 (.t 4), none, []⟩ (.tak 2 ⟨some 48, .ld false 1 (.t 47), none, []⟩ (.tak 3 ⟨some 49, .fad 2 (.t 4), none, []⟩ (.tak 4 ⟨some 50, .ld false 1 (.t 49), none, []⟩ (.tak 6 ⟨some 52, .ld true 18 (.t 3), none, []⟩ (.tak 7 ⟨some 53, .fad 1 (.t 4), none, []⟩ (.tak 8 ⟨some 54, .ld false 1 (.t 53), none, []⟩ (.tak 9 ⟨some 55, .fad 2 (.t 4), none, []⟩ (.tak 10 ⟨some 56, .ld false 1 (.t 55), none, []⟩ (.alt 5 ⟨some 51, .call 18 [.t 46, .t 48, .t 50], none, []⟩ (.alt 11 ⟨some 57, .call 19 [.t 52, .t 54, .t 56], none, []⟩ (.tak 12 ⟨some 58, .bin true .eql (.t 51) (.t 57), none, []⟩ (.tak 13 ⟨some 59, .mov (.t 58), none, []⟩ (.tak 14 ⟨some 60, .mov (.t 7), some (59, true), []⟩ (.tak 15 ⟨some 61, .mov (.t 9), some (59, true), []⟩ (.tak 16 ⟨some 62, .bin false .eql (.t 60) (.t 61), some (59, true), []⟩ (.tak 17 ⟨some 63, .pick (.t 59) (.t 62) (.c (.bool false)), none, []⟩ (.tak 18 ⟨some 64, .mov (.t 63), none, []⟩ (.tak 19 ⟨some 65, .mov (.t 8), some (64, true), []⟩ (.tak 20 ⟨some 66, .mov (.t 10), some (64, true), []⟩ (.tak 21 ⟨some 67, .bin false .eql (.t 65) (.t 66), some (64, true), []⟩ (.tak 22 ⟨some 68, .pick (.t 64) (.t 67) (.c (.bool false)), none, []⟩ (.tak 23 ⟨some 69, .mov (.t 68), none, []⟩ (.tak 24 ⟨some 70, .ld true 18 (.t 11), some (69, true), []⟩ (.tak 25 ⟨some 71, .ld true 18 (.t 13), some (69, true), []⟩ (.tak 26 ⟨some 72, .eqs false [.i, .i, .i, .i, .i, .i, .i, .i, .i, .i, .i, .i, .i, .i, .i, .i, .i, .s] (.t 70) (.t 71), some (69, true), []⟩ (.tak 27 ⟨some 73, .pick (.t 69) (.t 72) (.c (.bool false)), none, []⟩ (.tak 28 ⟨some 74, .mov (.t 73), none, []⟩ (.tak 29 ⟨some 75, .mov (.t 12), some (74, true), []⟩ (.tak 30 ⟨some 76, .mov (.t 14), some (74, true), []⟩ (.tak 31 ⟨some 77, .bin false .eql (.t 75) (.t 76), some (74, true), []⟩ (.tak 32 ⟨some 78, .pick (.t 74) (.t 77) (.c (.bool false)), none, []⟩ (.tak 33 ⟨some 6, .mov (.t 78), none, []⟩ .done)))))))))))))))))))))) .stop) .stop))))))))))) [[], [], [1], [], [3], [0, 2, 4], [], [], [7], [], [9], [6, 8, 10, 5], [5, 11], [12, 11], [13], [13], [14, 15, 13], [13, 16], [17, 13], [18], [18], [19, 20, 18], [18, 21], [22, 18], [23], [23], [24, 25, 23], [23, 26], [27, 23], [28], [28], [29, 30, 28], [28, 31], [32, 28, 0, 1, 2, 3, 4, 5, 6, 7, 8, 9, 10, 11, 12, 13, 14, 15, 16, 17, 18, 19, 20, 21, 22, 23, 24, 25, 26, 27, 28, 29, 30, 31, 32]] [⟨some 46, .ld true 18 (.t 3), none, []⟩, ⟨some 47, .fad 1 (.t 4), none, []⟩, ⟨some 48, .ld false 1 (.t 47), none, []⟩, ⟨some 49, .fad 2 (.t 4), none, []⟩, ⟨some 50, .ld false 1 (.t 49), none, []⟩, ⟨some 51, .call 18 [.t 46, .t 48, .t 50], none, []⟩, ⟨some 52, .ld true 18 (.t 3), none, []⟩, ⟨some 53, .fad 1 (.t 4), none, []⟩, ⟨some 54, .ld false 1 (.t 53), none, []⟩, ⟨some 55, .fad 2 (.t 4), none, []⟩, ⟨some 56, .ld false 1 (.t 55), none, []⟩, ⟨some 57, .call 19 [.t 52, .t 54, .t 56], none, []⟩, ⟨some 58, .bin true .eql (.t 51) (.t 57), none, []⟩, ⟨some 59, .mov (.t 58), none, []⟩, ⟨some 60, .mov (.t 7), some (59, true), []⟩, ⟨some 61, .mov (.t 9), some (59, true), []⟩, ⟨some 62, .bin false .eql (.t 60) (.t 61), some (59, true), []⟩, ⟨some 63, .pick (.t 59) (.t 62) (.c (.bool false)), none, []⟩, ⟨some 64, .mov (.t 63), none, []⟩, ⟨some 65, .mov (.t 8), some (64, true), []⟩, ⟨some 66, .mov (.t 10), some (64, true), []⟩, ⟨some 67, .bin false .eql (.t 65) (.t 66), some (64, true), []⟩, ⟨some 68, .pick (.t 64) (.t 67) (.c (.bool false)), none, []⟩, ⟨some 69, .mov (.t 68), none, []⟩, ⟨some 70, .ld true 18 (.t 11), some (69, true), []⟩, ⟨some 71, .ld true 18 (.t 13), some (69, true), []⟩, ⟨some 72, .eqs false [.i, .i, .i, .i, .i, .i, .i, .i, .i, .i, .i, .i, .i, .i, .i, .i, .i, .s] (.t 70) (.t 71), some (69, true), []⟩, ⟨some 73, .pick (.t 69) (.t 72) (.c (.bool false)), none, []⟩, ⟨some 74, .mov (.t 73), none, []⟩, ⟨some 75, .mov (.t 12), some (74, true), []⟩, ⟨some 76, .mov (.t 14), some (74, true), []⟩, ⟨some 77, .bin false .eql (.t 75) (.t 76), some (74, true), []⟩, ⟨some 78, .pick (.t 74) (.t 77) (.c (.bool false)), none, []⟩, ⟨some 6, .mov (.t 78), none, []⟩])
     (.drop [3, 4, 7, 8, 9, 10, 11, 12, 13, 14, 46, 47, 48, 49, 50, 51, 52, 53, 54, 55, 56, 57, 58, 59, 60, 61, 62, 63, 64, 65, 66, 67, 68, 69, 70, 71, 72, 73, 74, 75, 76, 77, 78]
      .ret)))))))))))))
def rs_4 : List ARes := [.tmp 6]
theorem ac_4_ok : compCode Try.prog (Try.f4.body.getD .skip) = some ac_4.plain := by kernel_rfl
theorem ac_4_chk : ac_4.chk ⟨Try.f4.ntmps, []⟩ = true := by kernel_rfl
theorem ac_4_pairs : ac_4.pairs.map Prod.fst = ac_4.pairs.map Prod.snd := by kernel_rfl
theorem rs_4_ok : Try.f4.results.toList.mapM (compRes Try.prog) = some rs_4 := by kernel_rfl
theorem ok_4 {Γ : Env} (hΓ : EnvOk Try.prog Γ) (sp : Spec) (h : ∀ args mem r mem1, sp args mem = some (r, mem1) → wpA Γ mem.length ac_4 (finQ mem.length rs_4 r mem1) (entry 0 args) mem) : CallOk Try.prog 4 sp :=
  ok_of_body (fn := Try.f4) (c := Try.f4.body.getD .skip) hΓ mix_ok (by kernel_rfl) (by kernel_rfl) ac_4_ok ⟨ac_4_chk, ac_4_pairs⟩ rs_4_ok (by kernel_rfl) sp h

/-- chantry/chantrylaw09.PastBack -/
def ac_5 : ACode :=
 (.seq
  (.region false [] [⟨some 3, .box (.t 0), none, [0]⟩, ⟨some 4, .box (.t 1), none, [1]⟩, ⟨some 6, .mov (.c (.bool false)), none, []⟩])
 (.seal_ 4
  (.seal_ 3
   (.seq
    (.seq
     (.region false [] [⟨some 17, .call 9 [], none, []⟩, ⟨some 18, .un .not (.t 17), none, [17]⟩])
    (.cond (.t 18)
      (.drop [2, 3, 4, 18]
       (.seq
        (.region false [] [⟨some 6, .mov (.c (.bool false)), none, []⟩])
       .ret))
      (.drop [18]
       .skip)))
   (.seq
    (.seq
     (.region false [] [⟨some 19, .fad 17 (.t 3), none, []⟩, ⟨some 20, .ld false 1 (.t 19), none, [19]⟩, ⟨some 21, .len true (.t 20), none, [20]⟩, ⟨some 22, .bin false .gtr (.t 21) (.c (.int .i64 1000)), none, [21]⟩, ⟨some 23, .mov (.t 22), none, [22]⟩, ⟨some 24, .fad 17 (.t 4), some (23, false), []⟩, ⟨some 25, .ld false 1 (.t 24), some (23, false), [24]⟩, ⟨some 26, .len true (.t 25), some (23, false), [25]⟩, ⟨some 27, .bin false .gtr (.t 26) (.c (.int .i64 1000)), some (23, false), [26]⟩, ⟨some 28, .pick (.t 23) (.c (.bool true)) (.t 27), none, [23, 27]⟩, ⟨some 29, .mov (.t 28), none, [28]⟩, ⟨some 30, .mov (.t 2), some (29, false), []⟩, ⟨some 31, .len true (.t 30), some (29, false), [30]⟩, ⟨some 32, .bin false .gtr (.t 31) (.c (.int .i64 1000)), some (29, false), [31]⟩, ⟨some 33, .pick (.t 29) (.c (.bool true)) (.t 32), none, [29, 32]⟩])
    (.cond (.t 33)
      (.drop [2, 3, 4, 33]
       (.seq
        (.region false [] [⟨some 6, .mov (.c (.bool true)), none, []⟩])
       .ret))
      (.drop [33]
       .skip)))
   (.seq
    (.region false [] [⟨some 35, .ld true 18 (.t 3), none, []⟩, ⟨some 36, .call 14 [.t 35], none, [35]⟩, ⟨some 34, .mov (.t 36), none, [36]⟩, ⟨some 37, .ext 0 (.t 34), none, []⟩, ⟨some 38, .ext 1 (.t 34), none, [34]⟩, ⟨some 7, .mov (.t 37), none, [37]⟩, ⟨some 8, .mov (.t 38), none, [38]⟩])
   (.seq
    (.region false [] [⟨some 40, .ld true 18 (.t 4), none, []⟩, ⟨some 41, .call 14 [.t 40], none, [40]⟩, ⟨some 39, .mov (.t 41), none, [41]⟩, ⟨some 42, .ext 0 (.t 39), none, []⟩, ⟨some 43, .ext 1 (.t 39), none, [39]⟩, ⟨some 9, .mov (.t 42), none, [42]⟩, ⟨some 10, .mov (.t 43), none, [43]⟩])
   (.seq
    (.seq
     (.region false [] [⟨some 44, .mov (.t 8), none, []⟩, ⟨some 45, .bin false .eql (.t 44) (.c (.int .i64 0)), none, [44]⟩])
    (.cond (.t 45)
      (.drop [45]
       (.seq
        (.region false [] [⟨some 47, .mov (.t 7), none, []⟩, ⟨some 48, .call 16 [.t 47], none, [47]⟩, ⟨some 46, .mov (.t 48), none, [48]⟩, ⟨some 49, .ext 0 (.t 46), none, []⟩, ⟨some 50, .ext 1 (.t 46), none, [46]⟩, ⟨some 11, .alloc [.int .i64 0, .int .u16 0, .int .u16 0, .int .u16 0, .int .u16 0, .int .u16 0, .int .u16 0, .int .u16 0, .int .u16 0, .int .u16 0, .int .u16 0, .int .u16 0, .int .u16 0, .int .u16 0, .int .u16 0, .int .u16 0, .int .u16 0, .string ⟨#[]⟩], none, []⟩, ⟨none, .st 18 (.t 11) (.t 49), none, [49]⟩, ⟨some 12, .mov (.t 50), none, [50]⟩])
       (.seal_ 11
        (.seq
         (.region false [] [⟨some 51, .mov (.t 12), none, [12]⟩, ⟨some 52, .bin false .neq (.t 51) (.c (.int .i64 0)), none, [51]⟩, ⟨some 53, .mov (.t 52), none, [52]⟩, ⟨some 54, .ld true 18 (.t 11), some (53, false), [11]⟩, ⟨some 55, .ld true 18 (.t 3), some (53, false), []⟩, ⟨some 56, .eqs true [.i, .i, .i, .i, .i, .i, .i, .i, .i, .i, .i, .i, .i, .i, .i, .i, .i, .s] (.t 54) (.t 55), some (53, false), [54, 55]⟩, ⟨some 57, .pick (.t 53) (.c (.bool true)) (.t 56), none, [53, 56]⟩])
        (.cond (.t 57)
          (.drop [2, 3, 4, 7, 8, 9, 10, 57]
           (.seq
            (.region false [] [⟨some 6, .mov (.c (.bool false)), none, []⟩])
           .ret))
          (.drop [57]
           .skip))))))
      (.drop [45]
       .skip)))
   (.seq
    (.seq
     (.region false [] [⟨some 59, .mov (.t 2), none, []⟩, ⟨some 60, .call 16 [.t 59], none, [59]⟩, ⟨some 58, .mov (.t 60), none, [60]⟩, ⟨some 61, .ext 0 (.t 58), none, []⟩, ⟨some 62, .ext 1 (.t 58), none, [58]⟩, ⟨some 13, .alloc [.int .i64 0, .int .u16 0, .int .u16 0, .int .u16 0, .int .u16 0, .int .u16 0, .int .u16 0, .int .u16 0, .int .u16 0, .int .u16 0, .int .u16 0, .int .u16 0, .int .u16 0, .int .u16 0, .int .u16 0, .int .u16 0, .int .u16 0, .string ⟨#[]⟩], none, []⟩, ⟨none, .st 18 (.t 13) (.t 61), none, [61]⟩, ⟨some 14, .mov (.t 62), none, [62]⟩])
    (.seal_ 13
     (.seq
      (.region false [] [⟨some 63, .mov (.t 14), none, [14]⟩, ⟨some 64, .bin false .eql (.t 63) (.c (.int .i64 0)), none, [63]⟩])
     (.cond (.t 64)
       (.drop [64]
        (.seq
         (.region false [] [⟨some 66, .ld true 18 (.t 13), none, [13]⟩, ⟨some 67, .call 14 [.t 66], none, [66]⟩, ⟨some 65, .mov (.t 67), none, [67]⟩, ⟨some 68, .ext 0 (.t 65), none, []⟩, ⟨some 69, .ext 1 (.t 65), none, [65]⟩, ⟨some 15, .mov (.t 68), none, [68]⟩, ⟨some 16, .mov (.t 69), none, [69]⟩])
        (.seq
         (.region false [] [⟨some 70, .mov (.t 16), none, [16]⟩, ⟨some 71, .bin false .neq (.t 70) (.c (.int .i64 0)), none, [70]⟩, ⟨some 72, .mov (.t 71), none, [71]⟩, ⟨some 73, .mov (.t 15), some (72, false), [15]⟩, ⟨some 74, .mov (.t 2), some (72, false), [2]⟩, ⟨some 75, .bin false .neq (.t 73) (.t 74), some (72, false), [73, 74]⟩, ⟨some 76, .pick (.t 72) (.c (.bool true)) (.t 75), none, [72, 75]⟩])
        (.cond (.t 76)
          (.drop [3, 4, 7, 8, 9, 10, 76]
           (.seq
            (.region false [] [⟨some 6, .mov (.c (.bool false)), none, []⟩])
           .ret))
          (.drop [76]
           .skip)))))
       (.drop [2, 13, 64]
        .skip)))))
   (.seq
    (.region false [] [⟨some 77, .mov (.t 8), none, [8]⟩, ⟨some 78, .bin false .neq (.t 77) (.c (.int .i64 0)), none, [77]⟩, ⟨some 79, .mov (.t 78), none, [78]⟩, ⟨some 80, .mov (.t 10), some (79, false), [10]⟩, ⟨some 81, .bin false .neq (.t 80) (.c (.int .i64 0)), some (79, false), [80]⟩, ⟨some 82, .pick (.t 79) (.c (.bool true)) (.t 81), none, [79, 81]⟩, ⟨some 83, .mov (.t 82), none, [82]⟩, ⟨some 84, .mov (.t 7), some (83, false), [7]⟩, ⟨some 85, .mov (.t 9), some (83, false), [9]⟩, ⟨some 86, .bin false .eql (.t 84) (.t 85), some (83, false), [84, 85]⟩, ⟨some 87, .ld true 18 (.t 3), some (83, false), [3]⟩, ⟨some 88, .ld true 18 (.t 4), some (83, false), [4]⟩, ⟨some 89, .eqs false [.i, .i, .i, .i, .i, .i, .i, .i, .i, .i, .i, .i, .i, .i, .i, .i, .i, .s] (.t 87) (.t 88), some (83, false), [87, 88]⟩, ⟨some 90, .bin true .eql (.t 86) (.t 89), some (83, false), [86, 89]⟩, ⟨some 91, .pick (.t 83) (.c (.bool true)) (.t 90), none, [83, 90]⟩, ⟨some 6, .mov (.t 91), none, [91]⟩])
   .ret))))))))))
def rs_5 : List ARes := [.tmp 6]
theorem ac_5_ok : compCode Try.prog (Try.f5.body.getD .skip) = some ac_5.plain := by kernel_rfl
theorem ac_5_chk : ac_5.chk ⟨Try.f5.ntmps, []⟩ = true := by kernel_rfl
theorem ac_5_pairs : ac_5.pairs.map Prod.fst = ac_5.pairs.map Prod.snd := by kernel_rfl
theorem rs_5_ok : Try.f5.results.toList.mapM (compRes Try.prog) = some rs_5 := by kernel_rfl
theorem ok_5 {Γ : Env} (hΓ : EnvOk Try.prog Γ) (sp : Spec) (h : ∀ args mem r mem1, sp args mem = some (r, mem1) → wpA Γ mem.length ac_5 (finQ mem.length rs_5 r mem1) (entry 0 args) mem) : CallOk Try.prog 5 sp :=
  ok_of_body (fn := Try.f5) (c := Try.f5.body.getD .skip) hΓ mix_ok (by kernel_rfl) (by kernel_rfl) ac_5_ok ⟨ac_5_chk, ac_5_pairs⟩ rs_5_ok (by kernel_rfl) sp h

/-- chantry/chantrylaw09.PastJoins -/
def ac_6 : ACode :=
 (.seq
  (.region false [] [⟨some 3, .box (.t 0), none, [0]⟩, ⟨some 4, .box (.t 1), none, [1]⟩, ⟨some 5, .box (.t 2), none, [2]⟩, ⟨some 6, .mov (.c (.bool false)), none, []⟩])
 (.seal_ 5
  (.seal_ 4
   (.seal_ 3
    (.seq
     (.seq
      (.region false [] [⟨some 8, .call 9 [], none, []⟩, ⟨some 9, .un .not (.t 8), none, [8]⟩])
     (.cond (.t 9)
       (.drop [3, 4, 5, 9]
        (.seq
         (.region false [] [⟨some 6, .mov (.c (.bool false)), none, []⟩])
        .ret))
       (.drop [9]
        .skip)))
    (.seq
     (.region false [] [⟨some 10, .ld true 16 (.t 3), none, []⟩, ⟨some 11, .ld true 16 (.t 4), none, []⟩, ⟨some 12, .call 12 [.t 10, .t 11], none, [10, 11]⟩, ⟨some 7, .alloc [.int .u16 0, .int .u16 0, .int .u16 0, .int .u16 0, .int .u16 0, .int .u16 0, .int .u16 0, .int .u16 0, .int .u16 0, .int .u16 0, .int .u16 0, .int .u16 0, .int .u16 0, .int .u16 0, .int .u16 0, .int .u16 0], none, []⟩, ⟨none, .st 16 (.t 7) (.t 12), none, [12]⟩])
    (.seal_ 7
     (.seq
      (.seq
       (.draws (.tak 0 ⟨some 13, .ld true 16 (.t 3), none, []⟩ (.tak 1 ⟨some 14, .ld true 16 (.t 4), none, []⟩ (.tak 3 ⟨some 16, .ld true 16 (.t 7), none, []⟩ (.tak 4 ⟨some 17, .ld true 16 (.t 4), none, []⟩ (.tak 5 ⟨some 18, .eqs false [.i, .i, .i, .i, .i, .i, .i, .i, .i, .i, .i, .i, .i, .i, .i, .i] (.t 16) (.t 17), none, []⟩ (.alt 2 ⟨some 15, .call 10 [.t 13, .t 14], none, []⟩ (.tak 6 ⟨some 19, .bin true .neq (.t 15) (.t 18), none, []⟩ (.tak 7 ⟨some 20, .mov (.t 19), none, []⟩ (.tak 8 ⟨some 21, .ld true 16 (.t 3), some (20, false), []⟩ (.tak 9 ⟨some 22, .ld true 16 (.t 7), some (20, false), []⟩ (.alt 10 ⟨some 23, .call 10 [.t 21, .t 22], some (20, false), []⟩ (.tak 11 ⟨some 24, .un .not (.t 23), some (20, false), []⟩ (.tak 12 ⟨some 25, .pick (.t 20) (.c (.bool true)) (.t 24), none, []⟩ (.tak 13 ⟨some 26, .mov (.t 25), none, []⟩ (.tak 14 ⟨some 27, .ld true 16 (.t 4), some (26, false), []⟩ (.tak 15 ⟨some 28, .ld true 16 (.t 7), some (26, false), []⟩ (.alt 16 ⟨some 29, .call 10 [.t 27, .t 28], some (26, false), []⟩ (.tak 17 ⟨some 30, .un .not (.t 29), some (26, false), []⟩ (.tak 18 ⟨some 31, .pick (.t 26) (.c (.bool true)) (.t 30), none, []⟩ (.tak 19 ⟨some 32, .mov (.t 31), none, []⟩ (.tak 20 ⟨some 33, .ld true 16 (.t 7), some (32, false), []⟩ (.tak 21 ⟨some 34, .ld true 16 (.t 4), some (32, false), []⟩ (.tak 22 ⟨some 35, .ld true 16 (.t 3), some (32, false), []⟩ (.alt 23 ⟨some 36, .call 12 [.t 34, .t 35], some (32, false), []⟩ (.tak 24 ⟨some 37, .eqs true [.i, .i, .i, .i, .i, .i, .i, .i, .i, .i, .i, .i, .i, .i, .i, .i] (.t 33) (.t 36), some (32, false), []⟩ (.tak 25 ⟨some 38, .pick (.t 32) (.c (.bool true)) (.t 37), none, []⟩ (.tak 26 ⟨some 39, .mov (.t 38), none, []⟩ (.tak 27 ⟨some 40, .ld true 16 (.t 3), some (39, false), []⟩ (.tak 28 ⟨some 41, .ld true 16 (.t 3), some (39, false), []⟩ (.tak 30 ⟨some 43, .ld true 16 (.t 3), some (39, false), []⟩ (.alt 29 ⟨some 42, .call 12 [.t 40, .t 41], some (39, false), []⟩ (.tak 31 ⟨some 44, .eqs true [.i, .i, .i, .i, .i, .i, .i, .i, .i, .i, .i, .i, .i, .i, .i, .i] (.t 42) (.t 43), some (39, false), []⟩ (.tak 32 ⟨some 45, .pick (.t 39) (.c (.bool true)) (.t 44), none, []⟩ .done)) .stop))))))) .stop))))))) .stop)))))) .stop))))) .stop)))))) [[], [], [0, 1], [], [], [3, 4], [2, 5], [6, 2], [7], [7], [8, 9, 7, 7], [10, 7], [7, 11], [12, 10], [13], [13], [14, 15, 13, 13], [16, 13], [13, 17], [18, 16], [19], [19], [19], [21, 22, 19, 19], [20, 23, 19], [19, 24], [25, 23], [26], [26], [27, 28, 26, 26], [26], [29, 30, 26], [26, 31]] [⟨some 13, .ld true 16 (.t 3), none, []⟩, ⟨some 14, .ld true 16 (.t 4), none, []⟩, ⟨some 15, .call 10 [.t 13, .t 14], none, []⟩, ⟨some 16, .ld true 16 (.t 7), none, []⟩, ⟨some 17, .ld true 16 (.t 4), none, []⟩, ⟨some 18, .eqs false [.i, .i, .i, .i, .i, .i, .i, .i, .i, .i, .i, .i, .i, .i, .i, .i] (.t 16) (.t 17), none, []⟩, ⟨some 19, .bin true .neq (.t 15) (.t 18), none, []⟩, ⟨some 20, .mov (.t 19), none, []⟩, ⟨some 21, .ld true 16 (.t 3), some (20, false), []⟩, ⟨some 22, .ld true 16 (.t 7), some (20, false), []⟩, ⟨some 23, .call 10 [.t 21, .t 22], some (20, false), []⟩, ⟨some 24, .un .not (.t 23), some (20, false), []⟩, ⟨some 25, .pick (.t 20) (.c (.bool true)) (.t 24), none, []⟩, ⟨some 26, .mov (.t 25), none, []⟩, ⟨some 27, .ld true 16 (.t 4), some (26, false), []⟩, ⟨some 28, .ld true 16 (.t 7), some (26, false), []⟩, ⟨some 29, .call 10 [.t 27, .t 28], some (26, false), []⟩, ⟨some 30, .un .not (.t 29), some (26, false), []⟩, ⟨some 31, .pick (.t 26) (.c (.bool true)) (.t 30), none, []⟩, ⟨some 32, .mov (.t 31), none, []⟩, ⟨some 33, .ld true 16 (.t 7), some (32, false), []⟩, ⟨some 34, .ld true 16 (.t 4), some (32, false), []⟩, ⟨some 35, .ld true 16 (.t 3), some (32, false), []⟩, ⟨some 36, .call 12 [.t 34, .t 35], some (32, false), []⟩, ⟨some 37, .eqs true [.i, .i, .i, .i, .i, .i, .i, .i, .i, .i, .i, .i, .i, .i, .i, .i] (.t 33) (.t 36), some (32, false), []⟩, ⟨some 38, .pick (.t 32) (.c (.bool true)) (.t 37), none, []⟩, ⟨some 39, .mov (.t 38), none, []⟩, ⟨some 40, .ld true 16 (.t 3), some (39, false), []⟩, ⟨some 41, .ld true 16 (.t 3), some (39, false), []⟩, ⟨some 42, .call 12 [.t 40, .t 41], some (39, false), []⟩, ⟨some 43, .ld true 16 (.t 3), some (39, false), []⟩, ⟨some 44, .eqs true [.i, .i, .i, .i, .i, .i, .i, .i, .i, .i, .i, .i, .i, .i, .i, .i] (.t 42) (.t 43), some (39, false), []⟩, ⟨some 45, .pick (.t 39) (.c (.bool true)) (.t 44), none, []⟩])
      (.drop [13, 14, 15, 16, 17, 18, 19, 20, 21, 22, 23, 24, 25, 26, 27, 28, 29, 30, 31, 32, 33, 34, 35, 36, 37, 38, 39, 40, 41, 42, 43, 44]
       (.cond (.t 45)
         (.drop [3, 4, 5, 7, 45]
          (.seq
           (.region false [] [⟨some 6, .mov (.c (.bool false)), none, []⟩])
          .ret))
         (.drop [45]
          .skip))))
     (.seq
      (.draws (.tak 0 ⟨some 46, .ld true 16 (.t 7), none, []⟩ (.tak 1 ⟨some 47, .ld true 16 (.t 5), none, []⟩ (.tak 3 ⟨some 49, .ld true 16 (.t 3), none, []⟩ (.tak 4 ⟨some 50, .ld true 16 (.t 5), none, []⟩ (.alt 2 ⟨some 48, .call 10 [.t 46, .t 47], none, []⟩ (.alt 5 ⟨some 51, .call 10 [.t 49, .t 50], none, []⟩ (.tak 6 ⟨some 52, .mov (.t 51), none, []⟩ (.tak 7 ⟨some 53, .ld true 16 (.t 4), some (52, true), []⟩ (.tak 8 ⟨some 54, .ld true 16 (.t 5), some (52, true), []⟩ (.alt 9 ⟨some 55, .call 10 [.t 53, .t 54], some (52, true), []⟩ (.tak 10 ⟨some 56, .pick (.t 52) (.t 55) (.c (.bool false)), none, []⟩ (.tak 11 ⟨some 57, .bin true .eql (.t 48) (.t 56), none, []⟩ (.tak 12 ⟨some 58, .mov (.t 57), none, []⟩ (.tak 13 ⟨some 59, .ld true 16 (.t 7), some (58, true), []⟩ (.tak 14 ⟨some 60, .ld true 16 (.t 5), some (58, true), []⟩ (.tak 16 ⟨some 62, .ld true 16 (.t 3), some (58, true), []⟩ (.tak 17 ⟨some 63, .ld true 16 (.t 4), some (58, true), []⟩ (.tak 18 ⟨some 64, .ld true 16 (.t 5), some (58, true), []⟩ (.alt 15 ⟨some 61, .call 12 [.t 59, .t 60], some (58, true), []⟩ (.alt 19 ⟨some 65, .call 12 [.t 63, .t 64], some (58, true), []⟩ (.alt 20 ⟨some 66, .call 12 [.t 62, .t 65], some (58, true), []⟩ (.tak 21 ⟨some 67, .eqs false [.i, .i, .i, .i, .i, .i, .i, .i, .i, .i, .i, .i, .i, .i, .i, .i] (.t 61) (.t 66), some (58, true), []⟩ (.tak 22 ⟨some 68, .pick (.t 58) (.t 67) (.c (.bool false)), none, []⟩ (.tak 23 ⟨some 6, .mov (.t 68), none, []⟩ .done))) .stop) .stop) .stop))))))))) .stop)))) .stop) .stop))))) [[], [], [0, 1], [], [], [3, 4, 2], [5, 5], [6], [6], [7, 8, 6, 6], [6, 9], [2, 10], [11, 9], [12], [12], [13, 14, 12, 12], [12], [12], [12], [17, 18, 15, 12], [16, 19, 19, 12], [15, 20, 12], [12, 21], [22, 20, 0, 1, 2, 3, 4, 5, 6, 7, 8, 9, 10, 11, 12, 13, 14, 15, 16, 17, 18, 19, 20, 21, 22]] [⟨some 46, .ld true 16 (.t 7), none, []⟩, ⟨some 47, .ld true 16 (.t 5), none, []⟩, ⟨some 48, .call 10 [.t 46, .t 47], none, []⟩, ⟨some 49, .ld true 16 (.t 3), none, []⟩, ⟨some 50, .ld true 16 (.t 5), none, []⟩, ⟨some 51, .call 10 [.t 49, .t 50], none, []⟩, ⟨some 52, .mov (.t 51), none, []⟩, ⟨some 53, .ld true 16 (.t 4), some (52, true), []⟩, ⟨some 54, .ld true 16 (.t 5), some (52, true), []⟩, ⟨some 55, .call 10 [.t 53, .t 54], some (52, true), []⟩, ⟨some 56, .pick (.t 52) (.t 55) (.c (.bool false)), none, []⟩, ⟨some 57, .bin true .eql (.t 48) (.t 56), none, []⟩, ⟨some 58, .mov (.t 57), none, []⟩, ⟨some 59, .ld true 16 (.t 7), some (58, true), []⟩, ⟨some 60, .ld true 16 (.t 5), some (58, true), []⟩, ⟨some 61, .call 12 [.t 59, .t 60], some (58, true), []⟩, ⟨some 62, .ld true 16 (.t 3), some (58, true), []⟩, ⟨some 63, .ld true 16 (.t 4), some (58, true), []⟩, ⟨some 64, .ld true 16 (.t 5), some (58, true), []⟩, ⟨some 65, .call 12 [.t 63, .t 64], some (58, true), []⟩, ⟨some 66, .call 12 [.t 62, .t 65], some (58, true), []⟩, ⟨some 67, .eqs false [.i, .i, .i, .i, .i, .i, .i, .i, .i, .i, .i, .i, .i, .i, .i, .i] (.t 61) (.t 66), some (58, true), []⟩, ⟨some 68, .pick (.t 58) (.t 67) (.c (.bool false)), none, []⟩, ⟨some 6, .mov (.t 68), none, []⟩])
     (.drop [3, 4, 5, 7, 46, 47, 48, 49, 50, 51, 52, 53, 54, 55, 56, 57, 58, 59, 60, 61, 62, 63, 64, 65, 66, 67, 68]
      .ret))))))))))
def rs_6 : List ARes := [.tmp 6]
theorem ac_6_ok : compCode Try.prog (Try.f6.body.getD .skip) = some ac_6.plain := by kernel_rfl
theorem ac_6_chk : ac_6.chk ⟨Try.f6.ntmps, []⟩ = true := by kernel_rfl
theorem ac_6_pairs : ac_6.pairs.map Prod.fst = ac_6.pairs.map Prod.snd := by kernel_rfl
theorem rs_6_ok : Try.f6.results.toList.mapM (compRes Try.prog) = some rs_6 := by kernel_rfl
theorem ok_6 {Γ : Env} (hΓ : EnvOk Try.prog Γ) (sp : Spec) (h : ∀ args mem r mem1, sp args mem = some (r, mem1) → wpA Γ mem.length ac_6 (finQ mem.length rs_6 r mem1) (entry 0 args) mem) : CallOk Try.prog 6 sp :=
  ok_of_body (fn := Try.f6) (c := Try.f6.body.getD .skip) hΓ mix_ok (by kernel_rfl) (by kernel_rfl) ac_6_ok ⟨ac_6_chk, ac_6_pairs⟩ rs_6_ok (by kernel_rfl) sp h

/-- chantry/chantrylaw09.PastRights -/
def ac_7 : ACode :=
 (.seq
  (.region false [] [⟨some 3, .box (.t 0), none, [0]⟩, ⟨some 6, .mov (.c (.bool false)), none, []⟩])
 (.seal_ 3
  (.seq
   (.seq
    (.region false [] [⟨some 10, .call 9 [], none, []⟩, ⟨some 11, .un .not (.t 10), none, [10]⟩])
   (.cond (.t 11)
     (.drop [1, 2, 3, 11]
      (.seq
       (.region false [] [⟨some 6, .mov (.c (.bool false)), none, []⟩])
      .ret))
     (.drop [11]
      .skip)))
  (.seq
   (.seq
    (.region false [] [⟨some 12, .fad 17 (.t 3), none, []⟩, ⟨some 13, .ld false 1 (.t 12), none, [12]⟩, ⟨some 14, .len true (.t 13), none, [13]⟩, ⟨some 15, .bin false .gtr (.t 14) (.c (.int .i64 1000)), none, [14]⟩])
   (.cond (.t 15)
     (.drop [1, 2, 3, 15]
      (.seq
       (.region false [] [⟨some 6, .mov (.c (.bool true)), none, []⟩])
      .ret))
     (.drop [15]
      .skip)))
  (.seq
   (.region false [] [⟨some 16, .ld true 18 (.t 3), none, []⟩, ⟨some 7, .alloc [.int .i64 0, .int .u16 0, .int .u16 0, .int .u16 0, .int .u16 0, .int .u16 0, .int .u16 0, .int .u16 0, .int .u16 0, .int .u16 0, .int .u16 0, .int .u16 0, .int .u16 0, .int .u16 0, .int .u16 0, .int .u16 0, .int .u16 0, .string ⟨#[]⟩], none, []⟩, ⟨none, .st 18 (.t 7) (.t 16), none, [16]⟩])
  (.seal_ 7
   (.seq
    (.region false [] [⟨some 18, .ld true 18 (.t 7), none, []⟩, ⟨some 19, .call 14 [.t 18], none, [18]⟩, ⟨some 17, .mov (.t 19), none, [19]⟩, ⟨some 20, .ext 0 (.t 17), none, []⟩, ⟨some 21, .ext 1 (.t 17), none, [17]⟩, ⟨some 8, .mov (.t 20), none, [20]⟩, ⟨some 9, .mov (.t 21), none, [8, 21]⟩])
   (.seq
    (.seq
     (.region false [] [⟨some 22, .mov (.t 9), none, [9]⟩, ⟨some 23, .bin false .neq (.t 22) (.c (.int .i64 0)), none, [22]⟩])
    (.cond (.t 23)
      (.drop [3, 23]
       (.seq
        (.region false [] [⟨some 24, .ld true 18 (.t 7), none, [7]⟩, ⟨some 25, .mov (.t 1), none, [1]⟩, ⟨some 26, .mov (.t 2), none, [2]⟩, ⟨some 27, .call 18 [.t 24, .t 25, .t 26], none, [24, 25, 26]⟩, ⟨some 28, .un .not (.t 27), none, [27]⟩, ⟨some 6, .mov (.t 28), none, [28]⟩])
       .ret))
      (.drop [23]
       .skip)))
   (.seq
    (.region false [] [⟨some 29, .ld true 18 (.t 7), none, [7]⟩, ⟨some 30, .mov (.t 1), none, []⟩, ⟨some 31, .mov (.t 2), none, []⟩, ⟨some 32, .call 18 [.t 29, .t 30, .t 31], none, [29, 30, 31]⟩, ⟨some 33, .mov (.t 1), none, []⟩, ⟨some 34, .bin false .lss (.t 33) (.c (.int .u8 16)), none, [33]⟩, ⟨some 35, .mov (.t 34), none, [34]⟩, ⟨some 36, .mov (.t 2), some (35, true), [2]⟩, ⟨some 37, .mov (.t 1), some (35, true), [1]⟩, ⟨some 38, .bin false .rem (.t 37) (.c (.int .u8 16)), some (35, true), [37]⟩, ⟨some 39, .fad 1 (.t 3), some (35, true), [3]⟩, ⟨some 40, .iaa 16 1 (.t 39) (.t 38), some (35, true), [38, 39]⟩, ⟨some 41, .ld false 1 (.t 40), some (35, true), [40]⟩, ⟨some 42, .cvt .i64 (.t 41), some (35, true), [41]⟩, ⟨some 43, .bin false .eql (.t 36) (.t 42), some (35, true), [36, 42]⟩, ⟨some 44, .pick (.t 35) (.t 43) (.c (.bool false)), none, [35, 43]⟩, ⟨some 45, .bin true .eql (.t 32) (.t 44), none, [32, 44]⟩, ⟨some 6, .mov (.t 45), none, [45]⟩])
   .ret)))))))))
def rs_7 : List ARes := [.tmp 6]
theorem ac_7_ok : compCode Try.prog (Try.f7.body.getD .skip) = some ac_7.plain := by kernel_rfl
theorem ac_7_chk : ac_7.chk ⟨Try.f7.ntmps, []⟩ = true := by kernel_rfl
theorem ac_7_pairs : ac_7.pairs.map Prod.fst = ac_7.pairs.map Prod.snd := by kernel_rfl
theorem rs_7_ok : Try.f7.results.toList.mapM (compRes Try.prog) = some rs_7 := by kernel_rfl
theorem ok_7 {Γ : Env} (hΓ : EnvOk Try.prog Γ) (sp : Spec) (h : ∀ args mem r mem1, sp args mem = some (r, mem1) → wpA Γ mem.length ac_7 (finQ mem.length rs_7 r mem1) (entry 0 args) mem) : CallOk Try.prog 7 sp :=
  ok_of_body (fn := Try.f7) (c := Try.f7.body.getD .skip) hΓ mix_ok (by kernel_rfl) (by kernel_rfl) ac_7_ok ⟨ac_7_chk, ac_7_pairs⟩ rs_7_ok (by kernel_rfl) sp h

/-- chantry/chantrylaw09.PastOrder -/
def ac_8 : ACode :=
 (.seq
  (.region false [] [⟨some 3, .box (.t 0), none, [0]⟩, ⟨some 4, .box (.t 1), none, [1]⟩, ⟨some 5, .box (.t 2), none, [2]⟩, ⟨some 6, .mov (.c (.bool false)), none, []⟩])
 (.seal_ 5
  (.seal_ 4
   (.seal_ 3
    (.seq
     (.seq
      (.region false [] [⟨some 7, .call 9 [], none, []⟩, ⟨some 8, .un .not (.t 7), none, [7]⟩])
     (.cond (.t 8)
       (.drop [3, 4, 5, 8]
        (.seq
         (.region false [] [⟨some 6, .mov (.c (.bool false)), none, []⟩])
        .ret))
       (.drop [8]
        .skip)))
    (.seq
     (.seq
      (.draws (.tak 0 ⟨some 9, .ld true 16 (.t 3), none, []⟩ (.tak 1 ⟨some 10, .ld true 16 (.t 4), none, []⟩ (.alt 2 ⟨some 11, .call 10 [.t 9, .t 10], none, []⟩ (.tak 3 ⟨some 12, .mov (.t 11), none, []⟩ (.tak 4 ⟨some 13, .ld true 16 (.t 4), some (12, true), []⟩ (.tak 5 ⟨some 14, .ld true 16 (.t 5), some (12, true), []⟩ (.alt 6 ⟨some 15, .call 10 [.t 13, .t 14], some (12, true), []⟩ (.tak 7 ⟨some 16, .pick (.t 12) (.t 15) (.c (.bool false)), none, []⟩ (.tak 8 ⟨some 17, .mov (.t 16), none, []⟩ (.tak 9 ⟨some 18, .ld true 16 (.t 3), some (17, true), []⟩ (.tak 10 ⟨some 19, .ld true 16 (.t 5), some (17, true), []⟩ (.alt 11 ⟨some 20, .call 10 [.t 18, .t 19], some (17, true), []⟩ (.tak 12 ⟨some 21, .un .not (.t 20), some (17, true), []⟩ (.tak 13 ⟨some 22, .pick (.t 17) (.t 21) (.c (.bool false)), none, []⟩ (.tak 14 ⟨some 23, .mov (.t 22), none, []⟩ (.tak 15 ⟨some 24, .ld true 16 (.t 3), some (23, false), []⟩ (.tak 16 ⟨some 25, .ld true 16 (.t 4), some (23, false), []⟩ (.alt 17 ⟨some 26, .call 10 [.t 24, .t 25], some (23, false), []⟩ (.tak 18 ⟨some 27, .mov (.t 26), some (23, false), []⟩ (.tak 19 ⟨some 28, .ld true 16 (.t 4), some (27, true), []⟩ (.tak 20 ⟨some 29, .ld true 16 (.t 3), some (27, true), []⟩ (.tak 22 ⟨some 31, .ld true 16 (.t 3), some (27, true), []⟩ (.tak 23 ⟨some 32, .ld true 16 (.t 4), some (27, true), []⟩ (.tak 24 ⟨some 33, .eqs false [.i, .i, .i, .i, .i, .i, .i, .i, .i, .i, .i, .i, .i, .i, .i, .i] (.t 31) (.t 32), some (27, true), []⟩ (.alt 21 ⟨some 30, .call 10 [.t 28, .t 29], some (27, true), []⟩ (.tak 25 ⟨some 34, .bin true .neq (.t 30) (.t 33), some (27, true), []⟩ (.tak 26 ⟨some 35, .pick (.t 27) (.t 34) (.c (.bool false)), some (23, false), []⟩ (.tak 27 ⟨some 36, .pick (.t 23) (.c (.bool true)) (.t 35), none, []⟩ .done))) .stop))))))) .stop)))))) .stop))))) .stop)))) .stop))) [[], [], [0, 1], [2, 2], [3], [3], [4, 5, 3, 3], [3, 6], [7, 6], [8], [8], [9, 10, 8, 8], [11, 8], [8, 12], [13, 11], [14], [14], [15, 16, 14, 14], [17, 17, 14], [18], [18], [19, 20, 18, 18], [18], [18], [22, 23, 18], [21, 24, 18], [18, 25, 14], [14, 26]] [⟨some 9, .ld true 16 (.t 3), none, []⟩, ⟨some 10, .ld true 16 (.t 4), none, []⟩, ⟨some 11, .call 10 [.t 9, .t 10], none, []⟩, ⟨some 12, .mov (.t 11), none, []⟩, ⟨some 13, .ld true 16 (.t 4), some (12, true), []⟩, ⟨some 14, .ld true 16 (.t 5), some (12, true), []⟩, ⟨some 15, .call 10 [.t 13, .t 14], some (12, true), []⟩, ⟨some 16, .pick (.t 12) (.t 15) (.c (.bool false)), none, []⟩, ⟨some 17, .mov (.t 16), none, []⟩, ⟨some 18, .ld true 16 (.t 3), some (17, true), []⟩, ⟨some 19, .ld true 16 (.t 5), some (17, true), []⟩, ⟨some 20, .call 10 [.t 18, .t 19], some (17, true), []⟩, ⟨some 21, .un .not (.t 20), some (17, true), []⟩, ⟨some 22, .pick (.t 17) (.t 21) (.c (.bool false)), none, []⟩, ⟨some 23, .mov (.t 22), none, []⟩, ⟨some 24, .ld true 16 (.t 3), some (23, false), []⟩, ⟨some 25, .ld true 16 (.t 4), some (23, false), []⟩, ⟨some 26, .call 10 [.t 24, .t 25], some (23, false), []⟩, ⟨some 27, .mov (.t 26), some (23, false), []⟩, ⟨some 28, .ld true 16 (.t 4), some (27, true), []⟩, ⟨some 29, .ld true 16 (.t 3), some (27, true), []⟩, ⟨some 30, .call 10 [.t 28, .t 29], some (27, true), []⟩, ⟨some 31, .ld true 16 (.t 3), some (27, true), []⟩, ⟨some 32, .ld true 16 (.t 4), some (27, true), []⟩, ⟨some 33, .eqs false [.i, .i, .i, .i, .i, .i, .i, .i, .i, .i, .i, .i, .i, .i, .i, .i] (.t 31) (.t 32), some (27, true), []⟩, ⟨some 34, .bin true .neq (.t 30) (.t 33), some (27, true), []⟩, ⟨some 35, .pick (.t 27) (.t 34) (.c (.bool false)), some (23, false), []⟩, ⟨some 36, .pick (.t 23) (.c (.bool true)) (.t 35), none, []⟩])
     (.drop [4, 5, 9, 10, 11, 12, 13, 14, 15, 16, 17, 18, 19, 20, 21, 22, 23, 24, 25, 26, 27, 28, 29, 30, 31, 32, 33, 34, 35]
      (.cond (.t 36)
        (.drop [3, 36]
         (.seq
          (.region false [] [⟨some 6, .mov (.c (.bool false)), none, []⟩])
         .ret))
        (.drop [36]
         .skip))))
    (.seq
     (.region false [] [⟨some 37, .ld true 16 (.t 3), none, []⟩, ⟨some 38, .ld true 16 (.t 3), none, []⟩, ⟨some 39, .call 10 [.t 37, .t 38], none, [37, 38]⟩, ⟨some 40, .mov (.t 39), none, [39]⟩, ⟨some 41, .bld [.int .u16 0, .int .u16 0, .int .u16 0, .int .u16 0, .int .u16 0, .int .u16 0, .int .u16 0, .int .u16 0, .int .u16 0, .int .u16 0, .int .u16 0, .int .u16 0, .int .u16 0, .int .u16 0, .int .u16 0, .int .u16 0] [], some (40, true), []⟩, ⟨some 42, .ld true 16 (.t 3), some (40, true), [3]⟩, ⟨some 43, .call 10 [.t 41, .t 42], some (40, true), [41, 42]⟩, ⟨some 44, .pick (.t 40) (.t 43) (.c (.bool false)), none, [40, 43]⟩, ⟨some 6, .mov (.t 44), none, [44]⟩])
    .ret)))))))
def rs_8 : List ARes := [.tmp 6]
theorem ac_8_ok : compCode Try.prog (Try.f8.body.getD .skip) = some ac_8.plain := by kernel_rfl
theorem ac_8_chk : ac_8.chk ⟨Try.f8.ntmps, []⟩ = true := by kernel_rfl
theorem ac_8_pairs : ac_8.pairs.map Prod.fst = ac_8.pairs.map Prod.snd := by kernel_rfl
theorem rs_8_ok : Try.f8.results.toList.mapM (compRes Try.prog) = some rs_8 := by kernel_rfl
theorem ok_8 {Γ : Env} (hΓ : EnvOk Try.prog Γ) (sp : Spec) (h : ∀ args mem r mem1, sp args mem = some (r, mem1) → wpA Γ mem.length ac_8 (finQ mem.length rs_8 r mem1) (entry 0 args) mem) : CallOk Try.prog 8 sp :=
  ok_of_body (fn := Try.f8) (c := Try.f8.body.getD .skip) hΓ mix_ok (by kernel_rfl) (by kernel_rfl) ac_8_ok ⟨ac_8_chk, ac_8_pairs⟩ rs_8_ok (by kernel_rfl) sp h

/-- chantry/chantrylaw09.alive -/
def ac_9 : ACode :=
 (.seq
  (.region false [] [⟨some 0, .mov (.c (.bool false)), none, []⟩])
 (.seq
  (.region false [] [⟨some 8, .bld [.int .u16 0, .int .u16 0, .int .u16 0, .int .u16 0, .int .u16 0, .int .u16 0, .int .u16 0, .int .u16 0, .int .u16 0, .int .u16 0, .int .u16 0, .int .u16 0, .int .u16 0, .int .u16 0, .int .u16 0, .int .u16 0] [(0, 1, .c (.int .u16 2)), (1, 1, .c (.int .u16 1))], none, []⟩, ⟨some 9, .bld [.int .i64 0, .int .u16 0, .int .u16 0, .int .u16 0, .int .u16 0, .int .u16 0, .int .u16 0, .int .u16 0, .int .u16 0, .int .u16 0, .int .u16 0, .int .u16 0, .int .u16 0, .int .u16 0, .int .u16 0, .int .u16 0, .int .u16 0, .string ⟨#[]⟩] [(0, 1, .c (.int .i64 1)), (1, 16, .t 8), (17, 1, .c (.string ⟨#[120]⟩))], none, [8]⟩, ⟨some 1, .alloc [.int .i64 0, .int .u16 0, .int .u16 0, .int .u16 0, .int .u16 0, .int .u16 0, .int .u16 0, .int .u16 0, .int .u16 0, .int .u16 0, .int .u16 0, .int .u16 0, .int .u16 0, .int .u16 0, .int .u16 0, .int .u16 0, .int .u16 0, .string ⟨#[]⟩], none, []⟩, ⟨none, .st 18 (.t 1) (.t 9), none, [9]⟩])
 (.seal_ 1
  (.seq
   (.region false [] [⟨some 11, .ld true 18 (.t 1), none, []⟩, ⟨some 12, .call 14 [.t 11], none, [11]⟩, ⟨some 10, .mov (.t 12), none, [12]⟩, ⟨some 13, .ext 0 (.t 10), none, []⟩, ⟨some 14, .ext 1 (.t 10), none, [10]⟩, ⟨some 2, .mov (.t 13), none, [13]⟩, ⟨some 3, .mov (.t 14), none, [14]⟩])
  (.seq
   (.region false [] [⟨some 16, .mov (.t 2), none, [2]⟩, ⟨some 17, .call 16 [.t 16], none, [16]⟩, ⟨some 15, .mov (.t 17), none, [17]⟩, ⟨some 18, .ext 0 (.t 15), none, []⟩, ⟨some 19, .ext 1 (.t 15), none, [15]⟩, ⟨some 4, .alloc [.int .i64 0, .int .u16 0, .int .u16 0, .int .u16 0, .int .u16 0, .int .u16 0, .int .u16 0, .int .u16 0, .int .u16 0, .int .u16 0, .int .u16 0, .int .u16 0, .int .u16 0, .int .u16 0, .int .u16 0, .int .u16 0, .int .u16 0, .string ⟨#[]⟩], none, []⟩, ⟨none, .st 18 (.t 4) (.t 18), none, [18]⟩, ⟨some 5, .mov (.t 19), none, [19]⟩])
  (.seal_ 4
   (.seq
    (.region false [] [⟨some 21, .call 16 [.c (.string ⟨#[120]⟩)], none, []⟩, ⟨some 20, .mov (.t 21), none, [21]⟩, ⟨some 22, .ext 0 (.t 20), none, []⟩, ⟨some 23, .ext 1 (.t 20), none, [20]⟩, ⟨some 6, .alloc [.int .i64 0, .int .u16 0, .int .u16 0, .int .u16 0, .int .u16 0, .int .u16 0, .int .u16 0, .int .u16 0, .int .u16 0, .int .u16 0, .int .u16 0, .int .u16 0, .int .u16 0, .int .u16 0, .int .u16 0, .int .u16 0, .int .u16 0, .string ⟨#[]⟩], none, []⟩, ⟨none, .st 18 (.t 6) (.t 22), none, [6, 22]⟩, ⟨some 7, .mov (.t 23), none, [23]⟩])
   (.seal_ 6
    (.seq
     (.region false [] [⟨some 24, .ld true 18 (.t 1), none, []⟩, ⟨some 25, .call 18 [.t 24, .c (.int .u8 0), .c (.int .i64 2)], none, [24]⟩, ⟨some 26, .mov (.t 25), none, [25]⟩, ⟨some 27, .ld true 18 (.t 1), some (26, true), []⟩, ⟨some 28, .call 18 [.t 27, .c (.int .u8 1), .c (.int .i64 2)], some (26, true), [27]⟩, ⟨some 29, .un .not (.t 28), some (26, true), [28]⟩, ⟨some 30, .pick (.t 26) (.t 29) (.c (.bool false)), none, [26, 29]⟩, ⟨some 31, .mov (.t 30), none, [30]⟩, ⟨some 32, .mov (.t 3), some (31, true), [3]⟩, ⟨some 33, .bin false .eql (.t 32) (.c (.int .i64 0)), some (31, true), [32]⟩, ⟨some 34, .pick (.t 31) (.t 33) (.c (.bool false)), none, [31, 33]⟩, ⟨some 35, .mov (.t 34), none, [34]⟩, ⟨some 36, .mov (.t 5), some (35, true), [5]⟩, ⟨some 37, .bin false .eql (.t 36) (.c (.int .i64 0)), some (35, true), [36]⟩, ⟨some 38, .pick (.t 35) (.t 37) (.c (.bool false)), none, [35, 37]⟩, ⟨some 39, .mov (.t 38), none, [38]⟩, ⟨some 40, .ld true 18 (.t 4), some (39, true), [4]⟩, ⟨some 41, .ld true 18 (.t 1), some (39, true), []⟩, ⟨some 42, .eqs false [.i, .i, .i, .i, .i, .i, .i, .i, .i, .i, .i, .i, .i, .i, .i, .i, .i, .s] (.t 40) (.t 41), some (39, true), [40, 41]⟩, ⟨some 43, .pick (.t 39) (.t 42) (.c (.bool false)), none, [39, 42]⟩, ⟨some 44, .mov (.t 43), none, [43]⟩, ⟨some 45, .mov (.t 7), some (44, true), [7]⟩, ⟨some 46, .bin false .eql (.t 45) (.c (.int .i64 4)), some (44, true), [45]⟩, ⟨some 47, .pick (.t 44) (.t 46) (.c (.bool false)), none, [44, 46]⟩, ⟨some 48, .mov (.t 47), none, [47]⟩, ⟨some 49, .bld [.int .u16 0, .int .u16 0, .int .u16 0, .int .u16 0, .int .u16 0, .int .u16 0, .int .u16 0, .int .u16 0, .int .u16 0, .int .u16 0, .int .u16 0, .int .u16 0, .int .u16 0, .int .u16 0, .int .u16 0, .int .u16 0] [(0, 1, .c (.int .u16 1))], some (48, true), []⟩, ⟨some 50, .fad 1 (.t 1), some (48, true), []⟩, ⟨some 51, .ld true 16 (.t 50), some (48, true), [50]⟩, ⟨some 52, .call 10 [.t 49, .t 51], some (48, true), [49, 51]⟩, ⟨some 53, .pick (.t 48) (.t 52) (.c (.bool false)), none, [48, 52]⟩, ⟨some 54, .mov (.t 53), none, [53]⟩, ⟨some 55, .bld [.int .u16 0, .int .u16 0, .int .u16 0, .int .u16 0, .int .u16 0, .int .u16 0, .int .u16 0, .int .u16 0, .int .u16 0, .int .u16 0, .int .u16 0, .int .u16 0, .int .u16 0, .int .u16 0, .int .u16 0, .int .u16 0] [(0, 1, .c (.int .u16 0)), (1, 1, .c (.int .u16 5))], some (54, true), []⟩, ⟨some 56, .fad 1 (.t 1), some (54, true), [1]⟩, ⟨some 57, .ld true 16 (.t 56), some (54, true), [56]⟩, ⟨some 58, .call 12 [.t 55, .t 57], some (54, true), [55, 57]⟩, ⟨some 59, .bld [.int .u16 0, .int .u16 0, .int .u16 0, .int .u16 0, .int .u16 0, .int .u16 0, .int .u16 0, .int .u16 0, .int .u16 0, .int .u16 0, .int .u16 0, .int .u16 0, .int .u16 0, .int .u16 0, .int .u16 0, .int .u16 0] [(0, 1, .c (.int .u16 2)), (1, 1, .c (.int .u16 5))], some (54, true), []⟩, ⟨some 60, .eqs false [.i, .i, .i, .i, .i, .i, .i, .i, .i, .i, .i, .i, .i, .i, .i, .i] (.t 58) (.t 59), some (54, true), [58, 59]⟩, ⟨some 61, .pick (.t 54) (.t 60) (.c (.bool false)), none, [54, 60]⟩, ⟨some 0, .mov (.t 61), none, [61]⟩])
    .ret)))))))))
def rs_9 : List ARes := [.tmp 0]
theorem ac_9_ok : compCode Try.prog (Try.f9.body.getD .skip) = some ac_9.plain := by kernel_rfl
theorem ac_9_chk : ac_9.chk ⟨Try.f9.ntmps, []⟩ = true := by kernel_rfl
theorem ac_9_pairs : ac_9.pairs.map Prod.fst = ac_9.pairs.map Prod.snd := by kernel_rfl
theorem rs_9_ok : Try.f9.results.toList.mapM (compRes Try.prog) = some rs_9 := by kernel_rfl
theorem ok_9 {Γ : Env} (hΓ : EnvOk Try.prog Γ) (sp : Spec) (h : ∀ args mem r mem1, sp args mem = some (r, mem1) → wpA Γ mem.length ac_9 (finQ mem.length rs_9 r mem1) (entry 0 args) mem) : CallOk Try.prog 9 sp :=
  ok_of_body (fn := Try.f9) (c := Try.f9.body.getD .skip) hΓ mix_ok (by kernel_rfl) (by kernel_rfl) ac_9_ok ⟨ac_9_chk, ac_9_pairs⟩ rs_9_ok (by kernel_rfl) sp h

end Go.Proofs.Ytifchnkhnphibaa.Am
