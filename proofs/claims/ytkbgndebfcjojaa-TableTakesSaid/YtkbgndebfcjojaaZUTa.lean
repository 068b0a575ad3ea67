/-
  What comes of any vote in any table, and whether that may be, is the document's.
-/
import Derived.Test.YtkbgndebfcjojaaZT14
namespace Go.Proofs.Ytkbgndebfcjojaa.Am
set_option linter.unusedSimpArgs false
set_option linter.unusedVariables false
open Go Go.Proofs
set_option maxRecDepth 100000


/-- chantry/chantrylaw08.TableTakes -/
def ac_3 : ACode :=
 (.seq
  (.region false [] [⟨some 2, .box (.t 0), none, [0]⟩, ⟨some 3, .box (.t 1), none, [1]⟩, ⟨some 4, .mov (.c (.bool false)), none, []⟩])
 (.seal_ 3
  (.seal_ 2
   (.seq
    (.seq
     (.region false [] [⟨some 11, .call 10 [], none, []⟩, ⟨some 12, .un .not (.t 11), none, [11]⟩])
    (.cond (.t 12)
      (.drop [2, 3, 12]
       (.seq
        (.region false [] [⟨some 4, .mov (.c (.bool false)), none, []⟩])
       .ret))
      (.drop [12]
       .skip)))
   (.seq
    (.seq
     (.region false [] [⟨some 13, .ld true 19 (.t 2), none, []⟩, ⟨some 14, .call 11 [.t 13], none, [13]⟩, ⟨some 15, .un .not (.t 14), none, [14]⟩, ⟨some 16, .mov (.t 15), none, [15]⟩, ⟨some 17, .fad 5 (.t 3), some (16, false), []⟩, ⟨some 18, .ld false 1 (.t 17), some (16, false), [17]⟩, ⟨some 19, .len true (.t 18), some (16, false), [18]⟩, ⟨some 20, .bin false .gtr (.t 19) (.c (.int .i64 1100)), some (16, false), [19]⟩, ⟨some 21, .pick (.t 16) (.c (.bool true)) (.t 20), none, [16, 20]⟩])
    (.cond (.t 21)
      (.drop [2, 3, 21]
       (.seq
        (.region false [] [⟨some 4, .mov (.c (.bool true)), none, []⟩])
       .ret))
      (.drop [21]
       .skip)))
   (.seq
    (.draws (.tak 0 ⟨some 23, .ld true 19 (.t 2), none, []⟩ (.tak 2 ⟨some 25, .fad 0 (.t 3), none, []⟩ (.tak 3 ⟨some 26, .ld true 3 (.t 25), none, []⟩ (.tak 4 ⟨some 27, .fad 3 (.t 3), none, []⟩ (.tak 5 ⟨some 28, .ld false 1 (.t 27), none, []⟩ (.tak 6 ⟨some 29, .fad 4 (.t 3), none, []⟩ (.tak 7 ⟨some 30, .ld false 1 (.t 29), none, []⟩ (.tak 8 ⟨some 31, .fad 5 (.t 3), none, []⟩ (.tak 9 ⟨some 32, .ld false 1 (.t 31), none, []⟩ (.alt 1 ⟨some 24, .call 13 [.t 23], none, []⟩ (.alt 10 ⟨some 33, .call 12 [.t 24, .t 26, .t 28, .t 30, .t 32], none, []⟩ (.tak 11 ⟨some 22, .mov (.t 33), none, []⟩ (.tak 12 ⟨some 34, .ext 0 (.t 22), none, []⟩ (.tak 13 ⟨some 35, .ext 1 (.t 22), none, []⟩ (.tak 14 ⟨some 36, .ext 2 (.t 22), none, []⟩ (.tak 15 ⟨some 37, .ext 3 (.t 22), none, []⟩ (.tak 16 ⟨some 38, .ext 4 (.t 22), none, []⟩ (.alt 17 ⟨some 5, .alloc [.int .i64 0, .int .u16 0, .int .u16 0, .int .u16 0, .int .u16 0, .int .u16 0, .int .u16 0, .int .u16 0, .int .u16 0, .int .u16 0, .int .u16 0, .int .u16 0, .int .u16 0, .int .u16 0, .int .u16 0, .int .u16 0, .int .u16 0, .int .u16 0, .slice none 0 0], none, []⟩ (.alt 18 ⟨none, .st 19 (.t 5) (.t 34), none, []⟩ (.tak 19 ⟨some 6, .mov (.t 35), none, []⟩ (.tak 20 ⟨some 7, .mov (.t 36), none, []⟩ (.tak 21 ⟨some 8, .mov (.t 37), none, []⟩ (.tak 22 ⟨some 9, .mov (.t 38), none, []⟩ .done)))) .stop) .stop))))))) (.alt 17 ⟨some 5, .alloc [.int .i64 0, .int .u16 0, .int .u16 0, .int .u16 0, .int .u16 0, .int .u16 0, .int .u16 0, .int .u16 0, .int .u16 0, .int .u16 0, .int .u16 0, .int .u16 0, .int .u16 0, .int .u16 0, .int .u16 0, .int .u16 0, .int .u16 0, .int .u16 0, .slice none 0 0], none, []⟩ (.alt 10 ⟨some 33, .call 12 [.t 24, .t 26, .t 28, .t 30, .t 32], none, []⟩ (.tak 11 ⟨some 22, .mov (.t 33), none, []⟩ (.tak 12 ⟨some 34, .ext 0 (.t 22), none, []⟩ (.tak 13 ⟨some 35, .ext 1 (.t 22), none, []⟩ (.tak 14 ⟨some 36, .ext 2 (.t 22), none, []⟩ (.tak 15 ⟨some 37, .ext 3 (.t 22), none, []⟩ (.tak 16 ⟨some 38, .ext 4 (.t 22), none, []⟩ (.alt 18 ⟨none, .st 19 (.t 5) (.t 34), none, []⟩ (.tak 19 ⟨some 6, .mov (.t 35), none, []⟩ (.tak 20 ⟨some 7, .mov (.t 36), none, []⟩ (.tak 21 ⟨some 8, .mov (.t 37), none, []⟩ (.tak 22 ⟨some 9, .mov (.t 38), none, []⟩ .done)))) .stop))))))) .stop) .stop)) (.alt 17 ⟨some 5, .alloc [.int .i64 0, .int .u16 0, .int .u16 0, .int .u16 0, .int .u16 0, .int .u16 0, .int .u16 0, .int .u16 0, .int .u16 0, .int .u16 0, .int .u16 0, .int .u16 0, .int .u16 0, .int .u16 0, .int .u16 0, .int .u16 0, .int .u16 0, .int .u16 0, .slice none 0 0], none, []⟩ (.alt 1 ⟨some 24, .call 13 [.t 23], none, []⟩ (.alt 10 ⟨some 33, .call 12 [.t 24, .t 26, .t 28, .t 30, .t 32], none, []⟩ (.tak 11 ⟨some 22, .mov (.t 33), none, []⟩ (.tak 12 ⟨some 34, .ext 0 (.t 22), none, []⟩ (.tak 13 ⟨some 35, .ext 1 (.t 22), none, []⟩ (.tak 14 ⟨some 36, .ext 2 (.t 22), none, []⟩ (.tak 15 ⟨some 37, .ext 3 (.t 22), none, []⟩ (.tak 16 ⟨some 38, .ext 4 (.t 22), none, []⟩ (.alt 18 ⟨none, .st 19 (.t 5) (.t 34), none, []⟩ (.tak 19 ⟨some 6, .mov (.t 35), none, []⟩ (.tak 20 ⟨some 7, .mov (.t 36), none, []⟩ (.tak 21 ⟨some 8, .mov (.t 37), none, []⟩ (.tak 22 ⟨some 9, .mov (.t 38), none, []⟩ .done)))) .stop))))))) .stop) .stop) .stop))))))))))) [[], [0], [], [2], [], [4], [], [6], [], [8], [1, 3, 5, 7, 9, 1], [10], [11], [11], [11], [11], [11], [], [17, 12, 10, 0, 1, 2, 3, 4, 5, 6, 7, 8, 9, 10, 11, 12, 17], [13, 18, 0, 1, 2, 3, 4, 5, 6, 7, 8, 9, 10, 11, 12, 13, 17, 18], [14, 19, 0, 1, 2, 3, 4, 5, 6, 7, 8, 9, 10, 11, 12, 13, 14, 17, 18, 19], [15, 20, 0, 1, 2, 3, 4, 5, 6, 7, 8, 9, 10, 11, 12, 13, 14, 15, 17, 18, 19, 20], [16, 21, 0, 1, 2, 3, 4, 5, 6, 7, 8, 9, 10, 11, 12, 13, 14, 15, 16, 17, 18, 19, 20, 21]] [⟨some 23, .ld true 19 (.t 2), none, []⟩, ⟨some 24, .call 13 [.t 23], none, []⟩, ⟨some 25, .fad 0 (.t 3), none, []⟩, ⟨some 26, .ld true 3 (.t 25), none, []⟩, ⟨some 27, .fad 3 (.t 3), none, []⟩, ⟨some 28, .ld false 1 (.t 27), none, []⟩, ⟨some 29, .fad 4 (.t 3), none, []⟩, ⟨some 30, .ld false 1 (.t 29), none, []⟩, ⟨some 31, .fad 5 (.t 3), none, []⟩, ⟨some 32, .ld false 1 (.t 31), none, []⟩, ⟨some 33, .call 12 [.t 24, .t 26, .t 28, .t 30, .t 32], none, []⟩, ⟨some 22, .mov (.t 33), none, []⟩, ⟨some 34, .ext 0 (.t 22), none, []⟩, ⟨some 35, .ext 1 (.t 22), none, []⟩, ⟨some 36, .ext 2 (.t 22), none, []⟩, ⟨some 37, .ext 3 (.t 22), none, []⟩, ⟨some 38, .ext 4 (.t 22), none, []⟩, ⟨some 5, .alloc [.int .i64 0, .int .u16 0, .int .u16 0, .int .u16 0, .int .u16 0, .int .u16 0, .int .u16 0, .int .u16 0, .int .u16 0, .int .u16 0, .int .u16 0, .int .u16 0, .int .u16 0, .int .u16 0, .int .u16 0, .int .u16 0, .int .u16 0, .int .u16 0, .slice none 0 0], none, []⟩, ⟨none, .st 19 (.t 5) (.t 34), none, []⟩, ⟨some 6, .mov (.t 35), none, []⟩, ⟨some 7, .mov (.t 36), none, []⟩, ⟨some 8, .mov (.t 37), none, []⟩, ⟨some 9, .mov (.t 38), none, []⟩])
   (.drop [22, 23, 24, 25, 26, 27, 28, 29, 30, 31, 32, 33, 34, 35, 36, 37, 38]
    (.pack [2, 3, 5, 6, 7, 8, 9]
     (.seq
      (.region false [] [⟨some 39, .ld true 19 (.t 2), none, []⟩, ⟨some 40, .fad 0 (.t 3), none, []⟩, ⟨some 41, .ld true 3 (.t 40), none, [40]⟩, ⟨some 42, .fad 3 (.t 3), none, []⟩, ⟨some 43, .ld false 1 (.t 42), none, [42]⟩, ⟨some 44, .fad 4 (.t 3), none, []⟩, ⟨some 45, .ld false 1 (.t 44), none, [44]⟩, ⟨some 46, .fad 5 (.t 3), none, [3]⟩, ⟨some 47, .ld false 1 (.t 46), none, [46]⟩, ⟨some 48, .call 14 [.t 39, .t 41, .t 43, .t 45, .t 47], none, [39, 41, 43, 45, 47]⟩, ⟨some 10, .alloc [.int .i64 0, .int .u16 0, .int .u16 0, .int .u16 0, .int .u16 0, .int .u16 0, .int .u16 0, .int .u16 0, .int .u16 0, .int .u16 0, .int .u16 0, .int .u16 0, .int .u16 0, .int .u16 0, .int .u16 0, .int .u16 0, .int .u16 0, .int .u16 0, .slice none 0 0, .slice none 0 0, .string ⟨#[]⟩, .bool false, .int .i64 0], none, []⟩, ⟨none, .st 23 (.t 10) (.t 48), none, [48]⟩])
     (.seal_ 10
      (.seq
       (.draws (.tak 0 ⟨some 49, .ld true 19 (.t 2), none, []⟩ (.tak 3 ⟨some 52, .ld true 19 (.t 2), none, []⟩ (.alt 1 ⟨some 50, .call 13 [.t 49], none, []⟩ (.alt 2 ⟨some 51, .call 15 [.t 50], none, []⟩ (.alt 4 ⟨some 53, .call 16 [.t 52], none, []⟩ (.tak 5 ⟨some 54, .bin true .eql (.t 51) (.t 53), none, []⟩ (.tak 6 ⟨some 55, .mov (.t 54), none, []⟩ (.tak 9 ⟨some 58, .fad 0 (.t 10), some (55, true), []⟩ (.tak 10 ⟨some 59, .ld true 19 (.t 58), some (55, true), []⟩ (.alt 7 ⟨some 56, .ld true 19 (.t 5), some (55, true), []⟩ (.alt 8 ⟨some 57, .call 18 [.t 56], some (55, true), []⟩ (.alt 11 ⟨some 60, .call 17 [.t 57, .t 59], some (55, true), []⟩ (.tak 12 ⟨some 61, .pick (.t 55) (.t 60) (.c (.bool false)), none, []⟩ (.tak 13 ⟨some 62, .mov (.t 61), none, []⟩ (.tak 14 ⟨some 63, .mov (.t 6), some (62, true), []⟩ (.tak 15 ⟨some 64, .fad 19 (.t 10), some (62, true), []⟩ (.tak 16 ⟨some 65, .ld false 1 (.t 64), some (62, true), []⟩ (.alt 17 ⟨some 66, .call 19 [.t 63, .t 65], some (62, true), []⟩ (.tak 18 ⟨some 67, .pick (.t 62) (.t 66) (.c (.bool false)), none, []⟩ (.tak 19 ⟨some 68, .mov (.t 67), none, []⟩ (.tak 20 ⟨some 69, .mov (.t 7), some (68, true), []⟩ (.tak 21 ⟨some 70, .fad 20 (.t 10), some (68, true), []⟩ (.tak 22 ⟨some 71, .ld false 1 (.t 70), some (68, true), []⟩ (.tak 23 ⟨some 72, .bin false .eql (.t 69) (.t 71), some (68, true), []⟩ (.tak 24 ⟨some 73, .pick (.t 68) (.t 72) (.c (.bool false)), none, []⟩ (.tak 25 ⟨some 74, .mov (.t 73), none, []⟩ (.tak 26 ⟨some 75, .mov (.t 8), some (74, true), []⟩ (.tak 27 ⟨some 76, .fad 21 (.t 10), some (74, true), []⟩ (.tak 28 ⟨some 77, .ld false 1 (.t 76), some (74, true), []⟩ (.tak 29 ⟨some 78, .bin true .eql (.t 75) (.t 77), some (74, true), []⟩ (.tak 30 ⟨some 79, .pick (.t 74) (.t 78) (.c (.bool false)), none, []⟩ (.tak 31 ⟨some 80, .mov (.t 79), none, []⟩ (.tak 32 ⟨some 81, .mov (.t 9), some (80, true), []⟩ (.tak 33 ⟨some 82, .fad 22 (.t 10), some (80, true), []⟩ (.tak 34 ⟨some 83, .ld false 1 (.t 82), some (80, true), []⟩ (.tak 35 ⟨some 84, .bin false .eql (.t 81) (.t 83), some (80, true), []⟩ (.tak 36 ⟨some 85, .pick (.t 80) (.t 84) (.c (.bool false)), none, []⟩ (.tak 37 ⟨some 4, .mov (.t 85), none, []⟩ .done)))))))))))))))))))) .stop)))))) .stop) .stop) .stop))))) .stop) .stop) .stop))) [[], [0], [1, 1], [], [3, 2], [2, 4], [5, 4], [6], [7, 6, 6], [6], [9, 6], [8, 10, 8, 6], [6, 11], [12, 11], [13], [13], [15, 13], [14, 16, 13, 13], [13, 17], [18, 17], [19], [19], [21, 19], [20, 22, 19], [19, 23], [24, 19], [25], [25], [27, 25], [26, 28, 25], [25, 29], [30, 25], [31], [31], [33, 31], [32, 34, 31], [31, 35], [36, 31, 0, 1, 2, 3, 4, 5, 6, 7, 8, 9, 10, 11, 12, 13, 14, 15, 16, 17, 18, 19, 20, 21, 22, 23, 24, 25, 26, 27, 28, 29, 30, 31, 32, 33, 34, 35, 36]] [⟨some 49, .ld true 19 (.t 2), none, []⟩, ⟨some 50, .call 13 [.t 49], none, []⟩, ⟨some 51, .call 15 [.t 50], none, []⟩, ⟨some 52, .ld true 19 (.t 2), none, []⟩, ⟨some 53, .call 16 [.t 52], none, []⟩, ⟨some 54, .bin true .eql (.t 51) (.t 53), none, []⟩, ⟨some 55, .mov (.t 54), none, []⟩, ⟨some 56, .ld true 19 (.t 5), some (55, true), []⟩, ⟨some 57, .call 18 [.t 56], some (55, true), []⟩, ⟨some 58, .fad 0 (.t 10), some (55, true), []⟩, ⟨some 59, .ld true 19 (.t 58), some (55, true), []⟩, ⟨some 60, .call 17 [.t 57, .t 59], some (55, true), []⟩, ⟨some 61, .pick (.t 55) (.t 60) (.c (.bool false)), none, []⟩, ⟨some 62, .mov (.t 61), none, []⟩, ⟨some 63, .mov (.t 6), some (62, true), []⟩, ⟨some 64, .fad 19 (.t 10), some (62, true), []⟩, ⟨some 65, .ld false 1 (.t 64), some (62, true), []⟩, ⟨some 66, .call 19 [.t 63, .t 65], some (62, true), []⟩, ⟨some 67, .pick (.t 62) (.t 66) (.c (.bool false)), none, []⟩, ⟨some 68, .mov (.t 67), none, []⟩, ⟨some 69, .mov (.t 7), some (68, true), []⟩, ⟨some 70, .fad 20 (.t 10), some (68, true), []⟩, ⟨some 71, .ld false 1 (.t 70), some (68, true), []⟩, ⟨some 72, .bin false .eql (.t 69) (.t 71), some (68, true), []⟩, ⟨some 73, .pick (.t 68) (.t 72) (.c (.bool false)), none, []⟩, ⟨some 74, .mov (.t 73), none, []⟩, ⟨some 75, .mov (.t 8), some (74, true), []⟩, ⟨some 76, .fad 21 (.t 10), some (74, true), []⟩, ⟨some 77, .ld false 1 (.t 76), some (74, true), []⟩, ⟨some 78, .bin true .eql (.t 75) (.t 77), some (74, true), []⟩, ⟨some 79, .pick (.t 74) (.t 78) (.c (.bool false)), none, []⟩, ⟨some 80, .mov (.t 79), none, []⟩, ⟨some 81, .mov (.t 9), some (80, true), []⟩, ⟨some 82, .fad 22 (.t 10), some (80, true), []⟩, ⟨some 83, .ld false 1 (.t 82), some (80, true), []⟩, ⟨some 84, .bin false .eql (.t 81) (.t 83), some (80, true), []⟩, ⟨some 85, .pick (.t 80) (.t 84) (.c (.bool false)), none, []⟩, ⟨some 4, .mov (.t 85), none, []⟩])
      (.drop [2, 5, 6, 7, 8, 9, 10, 49, 50, 51, 52, 53, 54, 55, 56, 57, 58, 59, 60, 61, 62, 63, 64, 65, 66, 67, 68, 69, 70, 71, 72, 73, 74, 75, 76, 77, 78, 79, 80, 81, 82, 83, 84, 85]
       (.pack [4]
        .ret)))))))))))))
def rs_3 : List ARes := [.tmp 4]
theorem g_3 : Good Try.prog 3 ac_3 rs_3 := ⟨Try.f3, Try.f3.body.getD .skip, by kernel_rfl, by kernel_rfl, by kernel_rfl, ⟨by kernel_rfl, by kernel_rfl⟩, by kernel_rfl, by kernel_rfl⟩
theorem ok_3 {Γ : Env} (hΓ : EnvOk Try.prog Γ) (sp : Spec) (h : WB Γ ac_3 rs_3 sp) : CallOk Try.prog 3 sp := g_3.ok hΓ mix_ok sp h

end Go.Proofs.Ytkbgndebfcjojaa.Am
namespace Go.Proofs.Ytkbgndebfcjojaa.Am
set_option linter.unusedSimpArgs false
set_option linter.unusedVariables false
open Go Go.Proofs
attribute [local irreducible] wpA
attribute [-simp] splice

noncomputable def spTableTakes : Spec := sp2 avTb avAc (fun t a => rdTb t ∧ okAc a) fun _ _ => .v (.bool true)
set_option maxHeartbeats 32000000 in
theorem tableTakes_ok : CallOk Try.prog 3 spTableTakes := by
  refine ok_3 (Env.put_ok [] (Env.put_ok [] (Env.put_ok [] (Env.put_ok [] (Env.put_ok [] (Env.put_ok [] (Env.put_ok [] (Env.put_ok [] (Env.put_ok [] (Env.put_ok [] (Env.none_ok _) alive_ok) few_ok) theirs8_ok) takeT_ok) takeTR_ok) rightT_ok) rightTR_ok) ours8_ok) same8_ok) outs_ok) spTableTakes (wb_sp2 ?_)
  rintro ⟨v, m, b, l⟩ ⟨⟨nv, nf, nq⟩, k, w, s⟩ ⟨hrd, hnf, hnq, hw⟩
  have hbl := hrd.2.1.1
  have hll := hrd.2.2.1
  simp only at hbl hll hnf hw
  have hnf2 : (nf : Int) < 256 := by omega
  have hw2 : (w : Int) < 256 := by omega
  simp only [avTb, avAc]
  unfold ac_3
  cases hf : fewT ⟨v, m, b, l⟩
  · repeat' with_reducible first
    | refine stp ?_ | refine seg_both ?_ ?_ | refine seg_case (fun x h => ?_) (fun h => ?_) | refine seg_gate (fun h => ?_) (fun h => ?_) | refine seg_need ?_ ?_ | refine cond_v (fun h => ?_) (fun h => ?_)
    | refine seg_eval (by simp -dsimp -implicitDefEqProofs [spAlive, hbl, hll, spFew, hf]; rfl) ?_
    all_goals first
      | omega
      | exact ⟨hbl, hll⟩
      | exact post_fin rfl rfl ⟨[], [], rfl, rfl, rfl, rfl⟩
      | trace_state
  · have hbT := rd_few hrd hf
    have hok := bT_ok hbT (by omega)
    by_cases hs : 1100 < s.size
    · have c1 : decide (1100 < s.size) = true := by simp [hs]
      have c1' : decide ((1100 : Int) < (s.size : Int)) = true := by rw [decide_eq_true_eq]; omega
      repeat' with_reducible first
      | refine stp ?_ | refine seg_both ?_ ?_ | refine seg_case (fun x h => ?_) (fun h => ?_) | refine seg_gate (fun h => ?_) (fun h => ?_) | refine seg_need ?_ ?_ | refine cond_v (fun h => ?_) (fun h => ?_)
      | refine seg_eval (by simp -dsimp -implicitDefEqProofs [spAlive, hbl, hll, spFew, hf, c1, c1']; rfl) ?_
      all_goals first
        | omega
        | exact ⟨hbl, hll⟩
        | exact post_fin rfl rfl ⟨[], [], rfl, rfl, rfl, rfl⟩
        | trace_state
    · have c1 : decide (1100 < s.size) = false := by simp; omega
      have c1' : decide ((1100 : Int) < (s.size : Int)) = false := by rw [decide_eq_false_iff_not]; omega
      have hT := bT_ok (take_b hbT ⟨nv, nf, nq⟩ k w s hnf) (by omega)
      have hO := take_o ⟨v, m, b, l⟩ ⟨nv, nf, nq⟩ k w s
      obtain ⟨r, hr⟩ : ∃ r, takeT ⟨v, m, b, l⟩ ⟨nv, nf, nq⟩ k w s = r := ⟨_, rfl⟩
      rw [hr] at hT hO
      obtain ⟨⟨rv, rm, rb, ros⟩, ro, rs, ri, rx⟩ := r
      simp only at hT hO
      have hrb := hT.2.1.1
      simp only at hrb
      have hO2 : ro.length ≤ 1000001 := by omega
      have hss : same (⟨rv, rm, rb, ros⟩ : Tb) ⟨rv, rm, rb, ros⟩ = true := same_self _
      have hoo : same ro ro = true := same_self _
      have hbb : ((rs == rs) : Bool) = true := by rw [beq_bytes]; simp
      repeat' with_reducible first
      | refine stm ?_ | refine seg_both ?_ ?_ | refine seg_case (fun x h => ?_) (fun h => ?_) | refine seg_gate (fun h => ?_) (fun h => ?_) | refine seg_need ?_ ?_ | refine cond_v (fun h => ?_) (fun h => ?_)
      | refine seg_eval (by simp -dsimp -implicitDefEqProofs [spAlive, hbl, hll, spFew, hf, c1, c1']; rfl) ?_
      refine wp_drawsR (fun ts mm => ts = [(2, .fptr (.agg (tc v (m : Nat) b (.fsl 7 (l.map avOp)))) 0), (3, .fptr (.agg [.v (.int .i64 nv), .v (.int .u8 (nf : Nat)), .v (.int .i64 nq), .v (.int .i64 k), .v (.int .u8 (w : Nat)), .v (.string s)]) 0), (5, .ptr 0 0 0),
          (6, .fsl 2 (ro.map avOu)), (7, .v (.string rs)), (8, .v (.bool ri)), (9, .v (.int .i64 rx))] ∧ mm = [.var (tc rv (rm : Nat) rb (.fsl 7 (ros.map avOp)))]) ?_ ?_
      · intro W hW
        repeat' with_reducible first
        | refine stp ?_ | refine seg_both ?_ ?_ | refine seg_case (fun x h => ?_) (fun h => ?_) | refine seg_gate (fun h => ?_) (fun h => ?_) | refine seg_need ?_ ?_ | refine cond_v (fun h => ?_) (fun h => ?_)
        | refine seg_eval (by simp -dsimp -implicitDefEqProofs [hbl, zV_length, spConvT, hok, avTb, spTakeT, hnf, hw2, hr, avTt, hrb, Int.toNat_natCast]; rfl) ?_
        all_goals first
          | omega
          | exact hok
          | (refine hW _ _ ⟨[], [2], ?_, ?_, ?_, ?_⟩ <;> (simp; done))
          | (refine hW _ _ ⟨[], [0], ?_, ?_, ?_, ?_⟩ <;> (simp; done))
          | trace_state
      · rintro ts mm ⟨rfl, rfl⟩
        repeat' with_reducible first
        | refine stm ?_ | refine seg_both ?_ ?_ | refine seg_case (fun x h => ?_) (fun h => ?_) | refine seg_gate (fun h => ?_) (fun h => ?_) | refine seg_need ?_ ?_ | refine cond_v (fun h => ?_) (fun h => ?_)
        | refine seg_eval (by simp -dsimp -implicitDefEqProofs [hbl, hrb, zV_length, hok, avTb, spTakeTR, hnf, hw2, hr, avTr, Int.toNat_natCast]; rfl) ?_
        refine wp_drawsR (fun ts mm => ts = [(4, .v (.bool true))] ∧ mm = []) ?_ ?_
        · intro W hW
          have hrr : (rightT ⟨v, m, b, l⟩ == rightT ⟨v, m, b, l⟩) = true := by simp
          have hx := take_x ⟨v, m, b, l⟩ ⟨nv, nf, nq⟩ k w s
          rw [hr] at hx
          simp only at hx
          have hxw : IntKind.wrap .i64 rx = rx := IntWalk.i64_in _ (by omega)
          repeat' with_reducible first
          | refine stp ?_ | refine seg_both ?_ ?_ | refine seg_case (fun x h => ?_) (fun h => ?_) | refine seg_gate (fun h => ?_) (fun h => ?_) | refine seg_need ?_ ?_ | refine cond_v (fun h => ?_) (fun h => ?_)
          | refine seg_eval (by simp -dsimp -implicitDefEqProofs [hbl, hrb, zV_length, spConvT, spRightT, hok, avTb, hrr, hT, spSame8, hss, spOuts, avOus, hO2, hoo, hbb, hxw]; rfl) ?_
          all_goals first
            | omega
            | exact hok
            | exact hT
            | (refine hW _ _ ⟨[], [], ?_, ?_, ?_, ?_⟩ <;> (simp; done))
            | trace_state
        · rintro ts mm ⟨rfl, rfl⟩
          repeat' with_reducible first
          | refine stp ?_ | refine seg_both ?_ ?_ | refine seg_case (fun x h => ?_) (fun h => ?_) | refine seg_gate (fun h => ?_) (fun h => ?_) | refine seg_need ?_ ?_ | refine cond_v (fun h => ?_) (fun h => ?_)
          | refine seg_eval (by simp -dsimp -implicitDefEqProofs; rfl) ?_
          all_goals first
            | exact post_fin rfl rfl ⟨[], [], rfl, rfl, rfl, rfl⟩
            | trace_state
end Go.Proofs.Ytkbgndebfcjojaa.Am
