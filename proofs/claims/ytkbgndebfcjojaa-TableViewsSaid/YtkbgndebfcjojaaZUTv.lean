/-
  What is of another view, or of no member, changes nothing.
-/
import Derived.Test.YtkbgndebfcjojaaZT14
namespace Go.Proofs.Ytkbgndebfcjojaa.Am
set_option linter.unusedSimpArgs false
set_option linter.unusedVariables false
open Go Go.Proofs
set_option maxRecDepth 100000


/-- chantry/chantrylaw08.TableViews -/
def ac_9 : ACode :=
 (.seq
  (.region false [] [⟨some 2, .box (.t 0), none, [0]⟩, ⟨some 3, .box (.t 1), none, [1]⟩, ⟨some 4, .mov (.c (.bool false)), none, []⟩])
 (.seal_ 3
  (.seal_ 2
   (.seq
    (.seq
     (.region false [] [⟨some 12, .call 10 [], none, []⟩, ⟨some 13, .un .not (.t 12), none, [12]⟩])
    (.cond (.t 13)
      (.drop [2, 3, 13]
       (.seq
        (.region false [] [⟨some 4, .mov (.c (.bool false)), none, []⟩])
       .ret))
      (.drop [13]
       .skip)))
   (.seq
    (.seq
     (.region false [] [⟨some 14, .ld true 19 (.t 2), none, []⟩, ⟨some 15, .call 11 [.t 14], none, [14]⟩, ⟨some 16, .un .not (.t 15), none, [15]⟩, ⟨some 17, .mov (.t 16), none, [16]⟩, ⟨some 18, .fad 5 (.t 3), some (17, false), []⟩, ⟨some 19, .ld false 1 (.t 18), some (17, false), [18]⟩, ⟨some 20, .len true (.t 19), some (17, false), [19]⟩, ⟨some 21, .bin false .gtr (.t 20) (.c (.int .i64 1100)), some (17, false), [20]⟩, ⟨some 22, .pick (.t 17) (.c (.bool true)) (.t 21), none, [17, 21]⟩, ⟨some 23, .mov (.t 22), none, [22]⟩, ⟨some 24, .ld true 19 (.t 2), some (23, false), []⟩, ⟨some 25, .call 16 [.t 24], some (23, false), [24]⟩, ⟨some 26, .un .not (.t 25), some (23, false), [25]⟩, ⟨some 27, .pick (.t 23) (.c (.bool true)) (.t 26), none, [23, 26]⟩])
    (.cond (.t 27)
      (.drop [2, 3, 27]
       (.seq
        (.region false [] [⟨some 4, .mov (.c (.bool true)), none, []⟩])
       .ret))
      (.drop [27]
       .skip)))
   (.seq
    (.draws (.tak 0 ⟨some 29, .ld true 19 (.t 2), none, []⟩ (.tak 2 ⟨some 31, .fad 0 (.t 3), none, []⟩ (.tak 3 ⟨some 32, .ld true 3 (.t 31), none, []⟩ (.tak 4 ⟨some 33, .fad 3 (.t 3), none, []⟩ (.tak 5 ⟨some 34, .ld false 1 (.t 33), none, []⟩ (.tak 6 ⟨some 35, .fad 4 (.t 3), none, []⟩ (.tak 7 ⟨some 36, .ld false 1 (.t 35), none, []⟩ (.tak 8 ⟨some 37, .fad 5 (.t 3), none, []⟩ (.tak 9 ⟨some 38, .ld false 1 (.t 37), none, []⟩ (.alt 1 ⟨some 30, .call 13 [.t 29], none, []⟩ (.alt 10 ⟨some 39, .call 12 [.t 30, .t 32, .t 34, .t 36, .t 38], none, []⟩ (.tak 11 ⟨some 28, .mov (.t 39), none, []⟩ (.tak 12 ⟨some 40, .ext 0 (.t 28), none, []⟩ (.tak 13 ⟨some 41, .ext 1 (.t 28), none, []⟩ (.tak 14 ⟨some 42, .ext 2 (.t 28), none, []⟩ (.tak 15 ⟨some 43, .ext 3 (.t 28), none, []⟩ (.tak 16 ⟨some 44, .ext 4 (.t 28), none, []⟩ (.alt 17 ⟨some 5, .alloc [.int .i64 0, .int .u16 0, .int .u16 0, .int .u16 0, .int .u16 0, .int .u16 0, .int .u16 0, .int .u16 0, .int .u16 0, .int .u16 0, .int .u16 0, .int .u16 0, .int .u16 0, .int .u16 0, .int .u16 0, .int .u16 0, .int .u16 0, .int .u16 0, .slice none 0 0], none, []⟩ (.alt 18 ⟨none, .st 19 (.t 5) (.t 40), none, []⟩ (.tak 19 ⟨some 6, .mov (.t 41), none, []⟩ (.tak 20 ⟨some 7, .mov (.t 42), none, []⟩ (.tak 21 ⟨some 8, .mov (.t 43), none, []⟩ (.tak 22 ⟨some 9, .mov (.t 44), none, []⟩ .done)))) .stop) .stop))))))) (.alt 17 ⟨some 5, .alloc [.int .i64 0, .int .u16 0, .int .u16 0, .int .u16 0, .int .u16 0, .int .u16 0, .int .u16 0, .int .u16 0, .int .u16 0, .int .u16 0, .int .u16 0, .int .u16 0, .int .u16 0, .int .u16 0, .int .u16 0, .int .u16 0, .int .u16 0, .int .u16 0, .slice none 0 0], none, []⟩ (.alt 10 ⟨some 39, .call 12 [.t 30, .t 32, .t 34, .t 36, .t 38], none, []⟩ (.tak 11 ⟨some 28, .mov (.t 39), none, []⟩ (.tak 12 ⟨some 40, .ext 0 (.t 28), none, []⟩ (.tak 13 ⟨some 41, .ext 1 (.t 28), none, []⟩ (.tak 14 ⟨some 42, .ext 2 (.t 28), none, []⟩ (.tak 15 ⟨some 43, .ext 3 (.t 28), none, []⟩ (.tak 16 ⟨some 44, .ext 4 (.t 28), none, []⟩ (.alt 18 ⟨none, .st 19 (.t 5) (.t 40), none, []⟩ (.tak 19 ⟨some 6, .mov (.t 41), none, []⟩ (.tak 20 ⟨some 7, .mov (.t 42), none, []⟩ (.tak 21 ⟨some 8, .mov (.t 43), none, []⟩ (.tak 22 ⟨some 9, .mov (.t 44), none, []⟩ .done)))) .stop))))))) .stop) .stop)) (.alt 17 ⟨some 5, .alloc [.int .i64 0, .int .u16 0, .int .u16 0, .int .u16 0, .int .u16 0, .int .u16 0, .int .u16 0, .int .u16 0, .int .u16 0, .int .u16 0, .int .u16 0, .int .u16 0, .int .u16 0, .int .u16 0, .int .u16 0, .int .u16 0, .int .u16 0, .int .u16 0, .slice none 0 0], none, []⟩ (.alt 1 ⟨some 30, .call 13 [.t 29], none, []⟩ (.alt 10 ⟨some 39, .call 12 [.t 30, .t 32, .t 34, .t 36, .t 38], none, []⟩ (.tak 11 ⟨some 28, .mov (.t 39), none, []⟩ (.tak 12 ⟨some 40, .ext 0 (.t 28), none, []⟩ (.tak 13 ⟨some 41, .ext 1 (.t 28), none, []⟩ (.tak 14 ⟨some 42, .ext 2 (.t 28), none, []⟩ (.tak 15 ⟨some 43, .ext 3 (.t 28), none, []⟩ (.tak 16 ⟨some 44, .ext 4 (.t 28), none, []⟩ (.alt 18 ⟨none, .st 19 (.t 5) (.t 40), none, []⟩ (.tak 19 ⟨some 6, .mov (.t 41), none, []⟩ (.tak 20 ⟨some 7, .mov (.t 42), none, []⟩ (.tak 21 ⟨some 8, .mov (.t 43), none, []⟩ (.tak 22 ⟨some 9, .mov (.t 44), none, []⟩ .done)))) .stop))))))) .stop) .stop) .stop))))))))))) [[], [0], [], [2], [], [4], [], [6], [], [8], [1, 3, 5, 7, 9, 1], [10], [11], [11], [11], [11], [11], [], [17, 12, 10, 0, 1, 2, 3, 4, 5, 6, 7, 8, 9, 10, 11, 12, 17], [13, 18, 0, 1, 2, 3, 4, 5, 6, 7, 8, 9, 10, 11, 12, 13, 17, 18], [14, 19, 0, 1, 2, 3, 4, 5, 6, 7, 8, 9, 10, 11, 12, 13, 14, 17, 18, 19], [15, 20, 0, 1, 2, 3, 4, 5, 6, 7, 8, 9, 10, 11, 12, 13, 14, 15, 17, 18, 19, 20], [16, 21, 0, 1, 2, 3, 4, 5, 6, 7, 8, 9, 10, 11, 12, 13, 14, 15, 16, 17, 18, 19, 20, 21]] [⟨some 29, .ld true 19 (.t 2), none, []⟩, ⟨some 30, .call 13 [.t 29], none, []⟩, ⟨some 31, .fad 0 (.t 3), none, []⟩, ⟨some 32, .ld true 3 (.t 31), none, []⟩, ⟨some 33, .fad 3 (.t 3), none, []⟩, ⟨some 34, .ld false 1 (.t 33), none, []⟩, ⟨some 35, .fad 4 (.t 3), none, []⟩, ⟨some 36, .ld false 1 (.t 35), none, []⟩, ⟨some 37, .fad 5 (.t 3), none, []⟩, ⟨some 38, .ld false 1 (.t 37), none, []⟩, ⟨some 39, .call 12 [.t 30, .t 32, .t 34, .t 36, .t 38], none, []⟩, ⟨some 28, .mov (.t 39), none, []⟩, ⟨some 40, .ext 0 (.t 28), none, []⟩, ⟨some 41, .ext 1 (.t 28), none, []⟩, ⟨some 42, .ext 2 (.t 28), none, []⟩, ⟨some 43, .ext 3 (.t 28), none, []⟩, ⟨some 44, .ext 4 (.t 28), none, []⟩, ⟨some 5, .alloc [.int .i64 0, .int .u16 0, .int .u16 0, .int .u16 0, .int .u16 0, .int .u16 0, .int .u16 0, .int .u16 0, .int .u16 0, .int .u16 0, .int .u16 0, .int .u16 0, .int .u16 0, .int .u16 0, .int .u16 0, .int .u16 0, .int .u16 0, .int .u16 0, .slice none 0 0], none, []⟩, ⟨none, .st 19 (.t 5) (.t 40), none, []⟩, ⟨some 6, .mov (.t 41), none, []⟩, ⟨some 7, .mov (.t 42), none, []⟩, ⟨some 8, .mov (.t 43), none, []⟩, ⟨some 9, .mov (.t 44), none, []⟩])
   (.drop [7, 28, 29, 30, 31, 32, 33, 34, 35, 36, 37, 38, 39, 40, 41, 42, 43, 44]
    (.pack [2, 3, 5, 6, 8, 9]
     (.seq
      (.region false [] [⟨some 45, .fad 0 (.t 3), none, []⟩, ⟨some 46, .fad 0 (.t 45), none, [45]⟩, ⟨some 47, .ld false 1 (.t 46), none, [46]⟩, ⟨some 48, .fad 0 (.t 2), none, []⟩, ⟨some 49, .ld false 1 (.t 48), none, [48]⟩, ⟨some 50, .bin false .neq (.t 47) (.t 49), none, [47, 49]⟩, ⟨some 10, .mov (.t 50), none, [50]⟩])
     (.seq
      (.region false [] [⟨some 51, .fad 0 (.t 3), none, []⟩, ⟨some 52, .fad 1 (.t 51), none, [51]⟩, ⟨some 53, .ld false 1 (.t 52), none, [52]⟩, ⟨some 54, .bin false .gtr (.t 53) (.c (.int .u8 15)), none, [53]⟩, ⟨some 55, .mov (.t 54), none, [54]⟩, ⟨some 56, .fad 1 (.t 2), some (55, false), []⟩, ⟨some 57, .ld false 1 (.t 56), some (55, false), [56]⟩, ⟨some 58, .fad 0 (.t 3), some (55, false), [3]⟩, ⟨some 59, .fad 1 (.t 58), some (55, false), [58]⟩, ⟨some 60, .ld false 1 (.t 59), some (55, false), [59]⟩, ⟨some 61, .bin false .shr (.t 57) (.t 60), some (55, false), [57, 60]⟩, ⟨some 62, .bin false .rem (.t 61) (.c (.int .u16 2)), some (55, false), [61]⟩, ⟨some 63, .bin false .eql (.t 62) (.c (.int .u16 0)), some (55, false), [62]⟩, ⟨some 64, .pick (.t 55) (.c (.bool true)) (.t 63), none, [55, 63]⟩, ⟨some 11, .mov (.t 64), none, [64]⟩])
     (.seq
      (.seq
       (.region false [] [⟨some 65, .mov (.t 10), none, []⟩, ⟨some 66, .mov (.t 65), none, [65]⟩, ⟨some 67, .mov (.t 9), some (66, true), []⟩, ⟨some 68, .bin false .neq (.t 67) (.c (.int .i64 11)), some (66, true), [67]⟩, ⟨some 69, .pick (.t 66) (.t 68) (.c (.bool false)), none, [66, 68]⟩, ⟨some 70, .mov (.t 69), none, [69]⟩, ⟨some 71, .mov (.t 10), some (70, false), [10]⟩, ⟨some 72, .un .not (.t 71), some (70, false), [71]⟩, ⟨some 73, .mov (.t 72), some (70, false), [72]⟩, ⟨some 74, .mov (.t 11), some (73, true), [11]⟩, ⟨some 75, .pick (.t 73) (.t 74) (.c (.bool false)), some (70, false), [73, 74]⟩, ⟨some 76, .mov (.t 75), some (70, false), [75]⟩, ⟨some 77, .mov (.t 9), some (76, true), []⟩, ⟨some 78, .bin false .neq (.t 77) (.c (.int .i64 10)), some (76, true), [77]⟩, ⟨some 79, .pick (.t 76) (.t 78) (.c (.bool false)), some (70, false), [76, 78]⟩, ⟨some 80, .pick (.t 70) (.c (.bool true)) (.t 79), none, [70, 79]⟩])
      (.cond (.t 80)
        (.drop [2, 5, 6, 8, 9, 80]
         (.seq
          (.region false [] [⟨some 4, .mov (.c (.bool false)), none, []⟩])
         .ret))
        (.drop [80]
         .skip)))
     (.seq
      (.draws (.tak 0 ⟨some 81, .mov (.t 9), none, []⟩ (.tak 1 ⟨some 82, .bin false .eql (.t 81) (.c (.int .i64 0)), none, []⟩ (.tak 2 ⟨some 83, .mov (.t 82), none, []⟩ (.tak 5 ⟨some 86, .ld true 19 (.t 2), some (83, false), []⟩ (.alt 3 ⟨some 84, .ld true 19 (.t 5), some (83, false), []⟩ (.alt 4 ⟨some 85, .call 18 [.t 84], some (83, false), []⟩ (.alt 6 ⟨some 87, .call 17 [.t 85, .t 86], some (83, false), []⟩ (.tak 7 ⟨some 88, .mov (.t 87), some (83, false), []⟩ (.tak 8 ⟨some 89, .mov (.t 6), some (88, true), []⟩ (.tak 9 ⟨some 90, .len false (.t 89), some (88, true), []⟩ (.tak 10 ⟨some 91, .bin false .eql (.t 90) (.c (.int .i64 0)), some (88, true), []⟩ (.tak 11 ⟨some 92, .pick (.t 88) (.t 91) (.c (.bool false)), some (83, false), []⟩ (.tak 12 ⟨some 93, .mov (.t 92), some (83, false), []⟩ (.tak 13 ⟨some 94, .mov (.t 8), some (93, true), []⟩ (.tak 14 ⟨some 95, .un .not (.t 94), some (93, true), []⟩ (.tak 15 ⟨some 96, .pick (.t 93) (.t 95) (.c (.bool false)), some (83, false), []⟩ (.tak 16 ⟨some 97, .pick (.t 83) (.c (.bool true)) (.t 96), none, []⟩ (.tak 17 ⟨some 4, .mov (.t 97), none, []⟩ .done))))))))))) .stop) .stop) .stop))))) [[], [0], [1], [2], [3, 2, 2], [2], [4, 5, 4, 2], [6, 6, 2], [7], [8, 7], [9, 7], [7, 10, 2], [11, 7, 2], [12], [13, 12], [12, 14, 2], [2, 15], [16, 12, 0, 1, 2, 3, 4, 5, 6, 7, 8, 9, 10, 11, 12, 13, 14, 15, 16]] [⟨some 81, .mov (.t 9), none, []⟩, ⟨some 82, .bin false .eql (.t 81) (.c (.int .i64 0)), none, []⟩, ⟨some 83, .mov (.t 82), none, []⟩, ⟨some 84, .ld true 19 (.t 5), some (83, false), []⟩, ⟨some 85, .call 18 [.t 84], some (83, false), []⟩, ⟨some 86, .ld true 19 (.t 2), some (83, false), []⟩, ⟨some 87, .call 17 [.t 85, .t 86], some (83, false), []⟩, ⟨some 88, .mov (.t 87), some (83, false), []⟩, ⟨some 89, .mov (.t 6), some (88, true), []⟩, ⟨some 90, .len false (.t 89), some (88, true), []⟩, ⟨some 91, .bin false .eql (.t 90) (.c (.int .i64 0)), some (88, true), []⟩, ⟨some 92, .pick (.t 88) (.t 91) (.c (.bool false)), some (83, false), []⟩, ⟨some 93, .mov (.t 92), some (83, false), []⟩, ⟨some 94, .mov (.t 8), some (93, true), []⟩, ⟨some 95, .un .not (.t 94), some (93, true), []⟩, ⟨some 96, .pick (.t 93) (.t 95) (.c (.bool false)), some (83, false), []⟩, ⟨some 97, .pick (.t 83) (.c (.bool true)) (.t 96), none, []⟩, ⟨some 4, .mov (.t 97), none, []⟩])
     (.drop [2, 5, 6, 8, 9, 81, 82, 83, 84, 85, 86, 87, 88, 89, 90, 91, 92, 93, 94, 95, 96, 97]
      (.pack [4]
       .ret))))))))))))))
def rs_9 : List ARes := [.tmp 4]
theorem g_9 : Good Try.prog 9 ac_9 rs_9 := ⟨Try.f9, Try.f9.body.getD .skip, by kernel_rfl, by kernel_rfl, by kernel_rfl, ⟨by kernel_rfl, by kernel_rfl⟩, by kernel_rfl, by kernel_rfl⟩
theorem ok_9 {Γ : Env} (hΓ : EnvOk Try.prog Γ) (sp : Spec) (h : WB Γ ac_9 rs_9 sp) : CallOk Try.prog 9 sp := g_9.ok hΓ mix_ok sp h

end Go.Proofs.Ytkbgndebfcjojaa.Am
namespace Go.Proofs.Ytkbgndebfcjojaa.Am
set_option linter.unusedSimpArgs false
set_option linter.unusedVariables false
open Go Go.Proofs
attribute [local irreducible] wpA
attribute [-simp] splice

theorem may_view {t : Tb} {n : Nm} (hr : rightT t = true) (h : n.v ≠ t.v) : mayT t n = 11 := by simp [mayT, hr, h]
theorem may_memb {t : Tb} {n : Nm} (hr : rightT t = true) (h : n.v = t.v) (h2 : hasS t.m n.f = false) : mayT t n = 10 := by simp [mayT, hr, h, h2]
theorem take_may {t : Tb} {n : Nm} (k : Int) (w : Nat) (s : ByteArray) (h : mayT t n ≠ 0) : takeT t n k w s = failT t (mayT t n) := by simp [takeT, h]
theorem shr16 {m f : Nat} (h : f ≤ 15) : ((Int.fdiv (m : Int) (2 ^ (min f 16))).tmod 2 == 0) = !hasS m f := by
  rw [Nat.min_eq_left (by omega), Int.fdiv_eq_ediv_of_nonneg _ (by exact Int.le_of_lt (Int.pow_pos (by decide)))]
  exact shr_has
theorem has15 {m f : Nat} (hm : m < 65536) (h : 15 < f) : hasS m f = false := by
  cases e : hasS m f
  · rfl
  · have := has_lt hm e; omega
noncomputable def spTableViews : Spec := sp2 avTb avAc (fun t a => rdTb t ∧ okAc a) fun _ _ => .v (.bool true)
set_option maxHeartbeats 32000000 in
theorem tableViews_ok : CallOk Try.prog 9 spTableViews := by
  refine ok_9 (Env.put_ok [] (Env.put_ok [] (Env.put_ok [] (Env.put_ok [] (Env.put_ok [] (Env.put_ok [] (Env.put_ok [] (Env.none_ok _) alive_ok) few_ok) theirs8_ok) takeT_ok) rightTR_ok) ours8_ok) same8_ok) spTableViews (wb_sp2 ?_)
  rintro ⟨v, m, b, l⟩ ⟨⟨nv, nf, nq⟩, k, w, s⟩ ⟨hrd, hnf, hnq, hw⟩
  have hbl := hrd.2.1.1
  have hll := hrd.2.2.1
  simp only at hbl hll hnf hw
  have hnf2 : (nf : Int) < 256 := by omega
  have hw2 : (w : Int) < 256 := by omega
  simp only [avTb, avAc]
  unfold ac_9
  cases hf : fewT ⟨v, m, b, l⟩
  · repeat' with_reducible first
    | refine stp ?_ | refine seg_both ?_ ?_ | refine seg_case (fun x h => ?_) (fun h => ?_) | refine seg_gate (fun h => ?_) (fun h => ?_) | refine seg_need ?_ ?_ | refine cond_v (fun h => ?_) (fun h => ?_)
    | refine seg_eval (by simp -dsimp -implicitDefEqProofs [spAlive, hbl, hll, spFew, hf]; rfl) ?_
    all_goals first
      | omega
      | exact ⟨hbl, hll⟩
      | exact post_fin rfl rfl ⟨[], [], rfl, rfl, rfl, rfl⟩
      | trace_state
  · have hbT := rd_few hrd hf
    have hok := bT_ok hbT (by omega)
    by_cases hs : 1100 < s.size
    · have c1 : decide (1100 < s.size) = true := by simp [hs]
      have c1' : decide ((1100 : Int) < (s.size : Int)) = true := by rw [decide_eq_true_eq]; omega
      repeat' with_reducible first
      | refine stp ?_ | refine seg_both ?_ ?_ | refine seg_case (fun x h => ?_) (fun h => ?_) | refine seg_gate (fun h => ?_) (fun h => ?_) | refine seg_need ?_ ?_ | refine cond_v (fun h => ?_) (fun h => ?_)
      | refine seg_eval (by simp -dsimp -implicitDefEqProofs [spAlive, hbl, hll, spFew, hf, c1, c1']; rfl) ?_
      all_goals first
        | omega
        | exact ⟨hbl, hll⟩
        | exact post_fin rfl rfl ⟨[], [], rfl, rfl, rfl, rfl⟩
        | trace_state
    · have c1 : decide (1100 < s.size) = false := by simp; omega
      have c1' : decide ((1100 : Int) < (s.size : Int)) = false := by rw [decide_eq_false_iff_not]; omega
      cases hR : rightT ⟨v, m, b, l⟩
      · repeat' with_reducible first
        | refine stp ?_ | refine seg_both ?_ ?_ | refine seg_case (fun x h => ?_) (fun h => ?_) | refine seg_gate (fun h => ?_) (fun h => ?_) | refine seg_need ?_ ?_ | refine cond_v (fun h => ?_) (fun h => ?_)
        | refine seg_eval (by simp -dsimp -implicitDefEqProofs [spAlive, hbl, hll, spFew, hf, c1, c1', spRightT, avTb, hok, hR]; rfl) ?_
        all_goals first
          | omega
          | exact hok
          | exact ⟨hbl, hll⟩
          | exact post_fin rfl rfl ⟨[], [], rfl, rfl, rfl, rfl⟩
          | trace_state
      · obtain ⟨r, hr⟩ : ∃ r, takeT ⟨v, m, b, l⟩ ⟨nv, nf, nq⟩ k w s = r := ⟨_, rfl⟩
        have hT := bT_ok (take_b hbT ⟨nv, nf, nq⟩ k w s hnf) (by omega)
        have hO := take_o ⟨v, m, b, l⟩ ⟨nv, nf, nq⟩ k w s
        have hm := hrd.1
        simp only at hm
        have hV : nv ≠ v → r = failT ⟨v, m, b, l⟩ 11 := fun h => by
          have e := may_view (t := ⟨v, m, b, l⟩) (n := ⟨nv, nf, nq⟩) hR h
          rw [← hr, take_may k w s (by rw [e]; decide), e]
        have hM : nv = v → hasS m nf = false → r = failT ⟨v, m, b, l⟩ 10 := fun h h2 => by
          have e := may_memb (t := ⟨v, m, b, l⟩) (n := ⟨nv, nf, nq⟩) hR h h2
          rw [← hr, take_may k w s (by rw [e]; decide), e]
        have hW : r.x ≠ 0 → r = failT ⟨v, m, b, l⟩ r.x := fun h => by
          rcases take_ways ⟨v, m, b, l⟩ ⟨nv, nf, nq⟩ k w s with ⟨_, e⟩ | ⟨e, _⟩
          · rw [hr] at e; exact e
          · rw [hr] at e; exact absurd e h
        rw [hr] at hT hO
        obtain ⟨⟨rv, rm, rb, ros⟩, ro, rs, ri, rx⟩ := r
        simp only [failT, Tt.mk.injEq, Tb.mk.injEq] at hT hO hV hM hW
        have hrb := hT.2.1.1
        simp only at hrb
        repeat' with_reducible first
        | refine stm ?_ | refine seg_both ?_ ?_ | refine seg_case (fun x h => ?_) (fun h => ?_) | refine seg_gate (fun h => ?_) (fun h => ?_) | refine seg_need ?_ ?_ | refine cond_v (fun h => ?_) (fun h => ?_)
        | refine seg_eval (by simp -dsimp -implicitDefEqProofs [spAlive, hbl, hll, spFew, hf, c1, c1', spRightT, avTb, hok, hR]; rfl) ?_
        all_goals try first
          | omega
          | exact hok
          | exact ⟨hbl, hll⟩
        refine wp_drawsR (fun ts mm => ts = [(2, .fptr (.agg (tc v (m : Nat) b (.fsl 7 (l.map avOp)))) 0), (3, .fptr (.agg [.v (.int .i64 nv), .v (.int .u8 (nf : Nat)), .v (.int .i64 nq), .v (.int .i64 k), .v (.int .u8 (w : Nat)), .v (.string s)]) 0), (5, .ptr 0 0 0),
            (6, .fsl 2 (ro.map avOu)), (8, .v (.bool ri)), (9, .v (.int .i64 rx))] ∧ mm = [.var (tc rv (rm : Nat) rb (.fsl 7 (ros.map avOp)))]) ?_ ?_
        · intro W hW
          repeat' with_reducible first
          | refine stp ?_ | refine seg_both ?_ ?_ | refine seg_case (fun x h => ?_) (fun h => ?_) | refine seg_gate (fun h => ?_) (fun h => ?_) | refine seg_need ?_ ?_ | refine cond_v (fun h => ?_) (fun h => ?_)
          | refine seg_eval (by simp -dsimp -implicitDefEqProofs [hbl, zV_length, spConvT, hok, avTb, spTakeT, hnf, hw2, hr, avTt, hrb, Int.toNat_natCast]; rfl) ?_
          all_goals first
            | omega
            | exact hok
            | (refine hW _ _ ⟨[], [2], ?_, ?_, ?_, ?_⟩ <;> (simp; done))
            | (refine hW _ _ ⟨[], [0], ?_, ?_, ?_, ?_⟩ <;> (simp; done))
            | trace_state
        · rintro ts mm ⟨rfl, rfl⟩
          by_cases q1 : nv = v
          · subst q1
            have d1 : (nv != nv) = false := by simp
            cases q2 : hasS m nf
            · obtain ⟨⟨rfl, rfl, rfl, rfl⟩, rfl, rfl, rfl, rfl⟩ := hM rfl q2
              have hss : same (⟨rv, rm, rb, ros⟩ : Tb) ⟨rv, rm, rb, ros⟩ = true := same_self _
              by_cases q3 : 15 < nf
              · have d3 : decide ((15 : Int) < (nf : Int)) = true := by rw [decide_eq_true_eq]; omega
                have d3' : decide (15 < nf) = true := by rw [decide_eq_true_eq]; omega
                repeat' with_reducible first
                | refine stm ?_ | refine seg_both ?_ ?_ | refine seg_case (fun x h => ?_) (fun h => ?_) | refine seg_gate (fun h => ?_) (fun h => ?_) | refine seg_need ?_ ?_ | refine cond_v (fun h => ?_) (fun h => ?_)
                | refine seg_eval (by simp -dsimp -implicitDefEqProofs [hbl, d1, d3, d3']; rfl) ?_
                refine wp_drawsR (fun ts mm => ts = [(4, .v (.bool true))] ∧ mm = []) ?_ ?_
                · intro W hW
                  repeat' with_reducible first
                  | refine stp ?_ | refine seg_both ?_ ?_ | refine seg_case (fun x h => ?_) (fun h => ?_) | refine seg_gate (fun h => ?_) (fun h => ?_) | refine seg_need ?_ ?_ | refine cond_v (fun h => ?_) (fun h => ?_)
                  | refine seg_eval (by simp -dsimp -implicitDefEqProofs [hbl, spConvT, hok, avTb, spSame8, hss]; rfl) ?_
                  all_goals first
                    | omega
                    | exact hok
                    | (refine hW _ _ ⟨[], [], ?_, ?_, ?_, ?_⟩ <;> (simp; done))
                    | trace_state
                · rintro ts mm ⟨rfl, rfl⟩
                  repeat' with_reducible first
                  | refine stp ?_ | refine seg_both ?_ ?_ | refine seg_case (fun x h => ?_) (fun h => ?_) | refine seg_gate (fun h => ?_) (fun h => ?_) | refine seg_need ?_ ?_ | refine cond_v (fun h => ?_) (fun h => ?_)
                  | refine seg_eval (by simp -dsimp -implicitDefEqProofs; rfl) ?_
                  all_goals first
                    | exact post_fin rfl rfl ⟨[], [], rfl, rfl, rfl, rfl⟩
                    | trace_state
              · have d3 : decide ((15 : Int) < (nf : Int)) = false := by rw [decide_eq_false_iff_not]; omega
                have d3' : decide (15 < nf) = false := by rw [decide_eq_false_iff_not]; omega
                have d4 : ((Int.fdiv (rm : Int) (2 ^ (min nf 16))).tmod 2 == 0) = true := by rw [shr16 (by omega), q2]; rfl
                repeat' with_reducible first
                | refine stm ?_ | refine seg_both ?_ ?_ | refine seg_case (fun x h => ?_) (fun h => ?_) | refine seg_gate (fun h => ?_) (fun h => ?_) | refine seg_need ?_ ?_ | refine cond_v (fun h => ?_) (fun h => ?_)
                | refine seg_eval (by simp -dsimp -implicitDefEqProofs [hbl, d1, d3, d3', d4, Int.toNat_natCast]; rfl) ?_
                refine wp_drawsR (fun ts mm => ts = [(4, .v (.bool true))] ∧ mm = []) ?_ ?_
                · intro W hW
                  repeat' with_reducible first
                  | refine stp ?_ | refine seg_both ?_ ?_ | refine seg_case (fun x h => ?_) (fun h => ?_) | refine seg_gate (fun h => ?_) (fun h => ?_) | refine seg_need ?_ ?_ | refine cond_v (fun h => ?_) (fun h => ?_)
                  | refine seg_eval (by simp -dsimp -implicitDefEqProofs [hbl, spConvT, hok, avTb, spSame8, hss]; rfl) ?_
                  all_goals first
                    | omega
                    | exact hok
                    | (refine hW _ _ ⟨[], [], ?_, ?_, ?_, ?_⟩ <;> (simp; done))
                    | trace_state
                · rintro ts mm ⟨rfl, rfl⟩
                  repeat' with_reducible first
                  | refine stp ?_ | refine seg_both ?_ ?_ | refine seg_case (fun x h => ?_) (fun h => ?_) | refine seg_gate (fun h => ?_) (fun h => ?_) | refine seg_need ?_ ?_ | refine cond_v (fun h => ?_) (fun h => ?_)
                  | refine seg_eval (by simp -dsimp -implicitDefEqProofs; rfl) ?_
                  all_goals first
                    | exact post_fin rfl rfl ⟨[], [], rfl, rfl, rfl, rfl⟩
                    | trace_state
            · have q3 : nf ≤ 15 := by have := has_lt hm q2; omega
              have d3 : decide ((15 : Int) < (nf : Int)) = false := by rw [decide_eq_false_iff_not]; omega
              have d3' : decide (15 < nf) = false := by rw [decide_eq_false_iff_not]; omega
              have d4 : ((Int.fdiv (m : Int) (2 ^ (min nf 16))).tmod 2 == 0) = false := by rw [shr16 (by omega), q2]; rfl
              by_cases q5 : rx = 0
              · subst q5
                repeat' with_reducible first
                | refine stm ?_ | refine seg_both ?_ ?_ | refine seg_case (fun x h => ?_) (fun h => ?_) | refine seg_gate (fun h => ?_) (fun h => ?_) | refine seg_need ?_ ?_ | refine cond_v (fun h => ?_) (fun h => ?_)
                | refine seg_eval (by simp -dsimp -implicitDefEqProofs [hbl, d1, d3, d3', d4, Int.toNat_natCast]; rfl) ?_
                refine wp_drawsR (fun ts mm => ts = [(4, .v (.bool true))] ∧ mm = []) ?_ ?_
                · intro W hW
                  repeat' with_reducible first
                  | refine stp ?_ | refine seg_both ?_ ?_ | refine seg_case (fun x h => ?_) (fun h => ?_) | refine seg_gate (fun h => ?_) (fun h => ?_) | refine seg_need ?_ ?_ | refine cond_v (fun h => ?_) (fun h => ?_)
                  | refine seg_eval (by simp -dsimp -implicitDefEqProofs [hbl, spConvT, hok, avTb]; rfl) ?_
                  all_goals first
                    | omega
                    | exact hok
                    | (refine hW _ _ ⟨[], [], ?_, ?_, ?_, ?_⟩ <;> (simp; done))
                    | trace_state
                · rintro ts mm ⟨rfl, rfl⟩
                  repeat' with_reducible first
                  | refine stp ?_ | refine seg_both ?_ ?_ | refine seg_case (fun x h => ?_) (fun h => ?_) | refine seg_gate (fun h => ?_) (fun h => ?_) | refine seg_need ?_ ?_ | refine cond_v (fun h => ?_) (fun h => ?_)
                  | refine seg_eval (by simp -dsimp -implicitDefEqProofs; rfl) ?_
                  all_goals first
                    | exact post_fin rfl rfl ⟨[], [], rfl, rfl, rfl, rfl⟩
                    | trace_state
              · obtain ⟨⟨rfl, rfl, rfl, rfl⟩, rfl, rfl, rfl, _⟩ := hW q5
                have hss : same (⟨rv, rm, rb, ros⟩ : Tb) ⟨rv, rm, rb, ros⟩ = true := same_self _
                have d5 : (rx == 0) = false := by simp [q5]
                repeat' with_reducible first
                | refine stm ?_ | refine seg_both ?_ ?_ | refine seg_case (fun x h => ?_) (fun h => ?_) | refine seg_gate (fun h => ?_) (fun h => ?_) | refine seg_need ?_ ?_ | refine cond_v (fun h => ?_) (fun h => ?_)
                | refine seg_eval (by simp -dsimp -implicitDefEqProofs [hbl, d1, d3, d3', d4, d5, Int.toNat_natCast]; rfl) ?_
                refine wp_drawsR (fun ts mm => ts = [(4, .v (.bool true))] ∧ mm = []) ?_ ?_
                · intro W hW
                  repeat' with_reducible first
                  | refine stp ?_ | refine seg_both ?_ ?_ | refine seg_case (fun x h => ?_) (fun h => ?_) | refine seg_gate (fun h => ?_) (fun h => ?_) | refine seg_need ?_ ?_ | refine cond_v (fun h => ?_) (fun h => ?_)
                  | refine seg_eval (by simp -dsimp -implicitDefEqProofs [hbl, spConvT, hok, avTb, spSame8, hss, d5]; rfl) ?_
                  all_goals first
                    | omega
                    | exact hok
                    | (refine hW _ _ ⟨[], [], ?_, ?_, ?_, ?_⟩ <;> (simp; done))
                    | trace_state
                · rintro ts mm ⟨rfl, rfl⟩
                  repeat' with_reducible first
                  | refine stp ?_ | refine seg_both ?_ ?_ | refine seg_case (fun x h => ?_) (fun h => ?_) | refine seg_gate (fun h => ?_) (fun h => ?_) | refine seg_need ?_ ?_ | refine cond_v (fun h => ?_) (fun h => ?_)
                  | refine seg_eval (by simp -dsimp -implicitDefEqProofs; rfl) ?_
                  all_goals first
                    | exact post_fin rfl rfl ⟨[], [], rfl, rfl, rfl, rfl⟩
                    | trace_state
          · obtain ⟨⟨rfl, rfl, rfl, rfl⟩, rfl, rfl, rfl, rfl⟩ := hV q1
            have hss : same (⟨rv, rm, rb, ros⟩ : Tb) ⟨rv, rm, rb, ros⟩ = true := same_self _
            have d1 : (nv != rv) = true := by simp [q1]
            by_cases q3 : 15 < nf
            · have d3 : decide ((15 : Int) < (nf : Int)) = true := by rw [decide_eq_true_eq]; omega
              have d3' : decide (15 < nf) = true := by rw [decide_eq_true_eq]; omega
              repeat' with_reducible first
              | refine stm ?_ | refine seg_both ?_ ?_ | refine seg_case (fun x h => ?_) (fun h => ?_) | refine seg_gate (fun h => ?_) (fun h => ?_) | refine seg_need ?_ ?_ | refine cond_v (fun h => ?_) (fun h => ?_)
              | refine seg_eval (by simp -dsimp -implicitDefEqProofs [hbl, d1, d3, d3', Int.toNat_natCast]; rfl) ?_
              refine wp_drawsR (fun ts mm => ts = [(4, .v (.bool true))] ∧ mm = []) ?_ ?_
              · intro W hW
                repeat' with_reducible first
                | refine stp ?_ | refine seg_both ?_ ?_ | refine seg_case (fun x h => ?_) (fun h => ?_) | refine seg_gate (fun h => ?_) (fun h => ?_) | refine seg_need ?_ ?_ | refine cond_v (fun h => ?_) (fun h => ?_)
                | refine seg_eval (by simp -dsimp -implicitDefEqProofs [hbl, spConvT, hok, avTb, spSame8, hss]; rfl) ?_
                all_goals first
                  | omega
                  | exact hok
                  | (refine hW _ _ ⟨[], [], ?_, ?_, ?_, ?_⟩ <;> (simp; done))
                  | trace_state
              · rintro ts mm ⟨rfl, rfl⟩
                repeat' with_reducible first
                | refine stp ?_ | refine seg_both ?_ ?_ | refine seg_case (fun x h => ?_) (fun h => ?_) | refine seg_gate (fun h => ?_) (fun h => ?_) | refine seg_need ?_ ?_ | refine cond_v (fun h => ?_) (fun h => ?_)
                | refine seg_eval (by simp -dsimp -implicitDefEqProofs; rfl) ?_
                all_goals first
                  | exact post_fin rfl rfl ⟨[], [], rfl, rfl, rfl, rfl⟩
                  | trace_state
            · have d3 : decide ((15 : Int) < (nf : Int)) = false := by rw [decide_eq_false_iff_not]; omega
              have d3' : decide (15 < nf) = false := by rw [decide_eq_false_iff_not]; omega
              cases q2 : hasS rm nf
              · have d4 : ((Int.fdiv (rm : Int) (2 ^ (min nf 16))).tmod 2 == 0) = true := by rw [shr16 (by omega), q2]; rfl
                repeat' with_reducible first
                | refine stm ?_ | refine seg_both ?_ ?_ | refine seg_case (fun x h => ?_) (fun h => ?_) | refine seg_gate (fun h => ?_) (fun h => ?_) | refine seg_need ?_ ?_ | refine cond_v (fun h => ?_) (fun h => ?_)
                | refine seg_eval (by simp -dsimp -implicitDefEqProofs [hbl, d1, d3, d3', d4, Int.toNat_natCast]; rfl) ?_
                refine wp_drawsR (fun ts mm => ts = [(4, .v (.bool true))] ∧ mm = []) ?_ ?_
                · intro W hW
                  repeat' with_reducible first
                  | refine stp ?_ | refine seg_both ?_ ?_ | refine seg_case (fun x h => ?_) (fun h => ?_) | refine seg_gate (fun h => ?_) (fun h => ?_) | refine seg_need ?_ ?_ | refine cond_v (fun h => ?_) (fun h => ?_)
                  | refine seg_eval (by simp -dsimp -implicitDefEqProofs [hbl, spConvT, hok, avTb, spSame8, hss]; rfl) ?_
                  all_goals first
                    | omega
                    | exact hok
                    | (refine hW _ _ ⟨[], [], ?_, ?_, ?_, ?_⟩ <;> (simp; done))
                    | trace_state
                · rintro ts mm ⟨rfl, rfl⟩
                  repeat' with_reducible first
                  | refine stp ?_ | refine seg_both ?_ ?_ | refine seg_case (fun x h => ?_) (fun h => ?_) | refine seg_gate (fun h => ?_) (fun h => ?_) | refine seg_need ?_ ?_ | refine cond_v (fun h => ?_) (fun h => ?_)
                  | refine seg_eval (by simp -dsimp -implicitDefEqProofs; rfl) ?_
                  all_goals first
                    | exact post_fin rfl rfl ⟨[], [], rfl, rfl, rfl, rfl⟩
                    | trace_state
              · have d4 : ((Int.fdiv (rm : Int) (2 ^ (min nf 16))).tmod 2 == 0) = false := by rw [shr16 (by omega), q2]; rfl
                repeat' with_reducible first
                | refine stm ?_ | refine seg_both ?_ ?_ | refine seg_case (fun x h => ?_) (fun h => ?_) | refine seg_gate (fun h => ?_) (fun h => ?_) | refine seg_need ?_ ?_ | refine cond_v (fun h => ?_) (fun h => ?_)
                | refine seg_eval (by simp -dsimp -implicitDefEqProofs [hbl, d1, d3, d3', d4, Int.toNat_natCast]; rfl) ?_
                refine wp_drawsR (fun ts mm => ts = [(4, .v (.bool true))] ∧ mm = []) ?_ ?_
                · intro W hW
                  repeat' with_reducible first
                  | refine stp ?_ | refine seg_both ?_ ?_ | refine seg_case (fun x h => ?_) (fun h => ?_) | refine seg_gate (fun h => ?_) (fun h => ?_) | refine seg_need ?_ ?_ | refine cond_v (fun h => ?_) (fun h => ?_)
                  | refine seg_eval (by simp -dsimp -implicitDefEqProofs [hbl, spConvT, hok, avTb, spSame8, hss]; rfl) ?_
                  all_goals first
                    | omega
                    | exact hok
                    | (refine hW _ _ ⟨[], [], ?_, ?_, ?_, ?_⟩ <;> (simp; done))
                    | trace_state
                · rintro ts mm ⟨rfl, rfl⟩
                  repeat' with_reducible first
                  | refine stp ?_ | refine seg_both ?_ ?_ | refine seg_case (fun x h => ?_) (fun h => ?_) | refine seg_gate (fun h => ?_) (fun h => ?_) | refine seg_need ?_ ?_ | refine cond_v (fun h => ?_) (fun h => ?_)
                  | refine seg_eval (by simp -dsimp -implicitDefEqProofs; rfl) ?_
                  all_goals first
                    | exact post_fin rfl rfl ⟨[], [], rfl, rfl, rfl, rfl⟩
                    | trace_state
end Go.Proofs.Ytkbgndebfcjojaa.Am
