/-
  Bases never fall; what is below one is refused as old, what is too far ahead as too much.
-/
import Derived.Test.YtkbgndebfcjojaaZTL
namespace Go.Proofs.Ytkbgndebfcjojaa.Am
set_option linter.unusedSimpArgs false
set_option linter.unusedVariables false
open Go Go.Proofs
set_option maxRecDepth 100000


/-- chantry/chantrylaw08.TableBase -/
def ac_7 : ACode :=
 (.seq
  (.region false [] [⟨some 5, .box (.t 2), none, [2]⟩, ⟨some 6, .mov (.c (.bool false)), none, []⟩])
 (.seq
  (.seq
   (.region false [] [⟨some 22, .call 10 [], none, []⟩, ⟨some 23, .un .not (.t 22), none, [22]⟩])
  (.cond (.t 23)
    (.drop [0, 1, 5, 23]
     (.seq
      (.region false [] [⟨some 6, .mov (.c (.bool false)), none, []⟩])
     .ret))
    (.drop [23]
     .skip)))
 (.seq
  (.region false [] [⟨some 24, .mov (.t 0), none, []⟩, ⟨some 25, .bld [.int .i64 0, .int .u16 0, .int .u16 0, .int .u16 0, .int .u16 0, .int .u16 0, .int .u16 0, .int .u16 0, .int .u16 0, .int .u16 0, .int .u16 0, .int .u16 0, .int .u16 0, .int .u16 0, .int .u16 0, .int .u16 0, .int .u16 0, .int .u16 0, .slice none 0 0] [(1, 1, .t 24)], none, [24]⟩, ⟨some 7, .alloc [.int .i64 0, .int .u16 0, .int .u16 0, .int .u16 0, .int .u16 0, .int .u16 0, .int .u16 0, .int .u16 0, .int .u16 0, .int .u16 0, .int .u16 0, .int .u16 0, .int .u16 0, .int .u16 0, .int .u16 0, .int .u16 0, .int .u16 0, .int .u16 0, .slice none 0 0], none, []⟩, ⟨none, .st 19 (.t 7) (.t 25), none, [25]⟩])
 (.seq
  (.seq
   (.region false [] [⟨some 8, .mov (.c (.int .i64 0)), none, []⟩])
  (.block 0
   (.loop [0, 1, 5, 7, 8]
    (.seq
     (.seq
      (.region false [] [⟨some 26, .mov (.t 8), none, []⟩, ⟨some 27, .mov (.t 1), none, []⟩, ⟨some 28, .len false (.t 27), none, [27]⟩, ⟨some 29, .bin false .lss (.t 26) (.t 28), none, [26, 28]⟩, ⟨some 30, .mov (.t 29), none, [29]⟩, ⟨some 31, .mov (.t 8), some (30, true), []⟩, ⟨some 32, .bin false .lss (.t 31) (.c (.int .i64 80)), some (30, true), [31]⟩, ⟨some 33, .pick (.t 30) (.t 32) (.c (.bool false)), none, [30, 32]⟩])
     (.cond (.t 33)
       (.drop [33]
        .skip)
       (.drop [1, 8, 33]
        (.exit 0))))
    (.seq
     (.block 1
      (.seq
       (.region false [] [⟨some 36, .mov (.t 1), none, []⟩, ⟨some 37, .mov (.t 8), none, []⟩, ⟨some 38, .iax 6 (.t 36) (.t 37), none, [36, 37]⟩, ⟨some 39, .ld true 6 (.t 38), none, [38]⟩, ⟨some 9, .alloc [.int .i64 0, .int .u8 0, .int .i64 0, .int .i64 0, .int .u8 0, .string ⟨#[]⟩], none, []⟩, ⟨none, .st 6 (.t 9) (.t 39), none, [39]⟩])
      (.seal_ 9
       (.seq
        (.seq
         (.region false [] [⟨some 40, .fad 5 (.t 9), none, []⟩, ⟨some 41, .ld false 1 (.t 40), none, [40]⟩, ⟨some 42, .len true (.t 41), none, [41]⟩, ⟨some 43, .bin false .gtr (.t 42) (.c (.int .i64 1100)), none, [42]⟩])
        (.cond (.t 43)
          (.drop [9, 43]
           (.exit 1))
          (.drop [43]
           .skip)))
       (.seq
        (.region false [] [⟨some 45, .ld true 19 (.t 7), none, []⟩, ⟨some 46, .fad 0 (.t 9), none, []⟩, ⟨some 47, .ld true 3 (.t 46), none, [46]⟩, ⟨some 48, .fad 3 (.t 9), none, []⟩, ⟨some 49, .ld false 1 (.t 48), none, [48]⟩, ⟨some 50, .fad 4 (.t 9), none, []⟩, ⟨some 51, .ld false 1 (.t 50), none, [50]⟩, ⟨some 52, .fad 5 (.t 9), none, [9]⟩, ⟨some 53, .ld false 1 (.t 52), none, [52]⟩, ⟨some 54, .call 12 [.t 45, .t 47, .t 49, .t 51, .t 53], none, [45, 47, 49, 51, 53]⟩, ⟨some 44, .mov (.t 54), none, [54]⟩, ⟨some 55, .ext 0 (.t 44), none, []⟩, ⟨some 56, .ext 1 (.t 44), none, []⟩, ⟨some 57, .ext 2 (.t 44), none, []⟩, ⟨some 58, .ext 3 (.t 44), none, []⟩, ⟨some 59, .ext 4 (.t 44), none, [44]⟩, ⟨some 10, .alloc [.int .i64 0, .int .u16 0, .int .u16 0, .int .u16 0, .int .u16 0, .int .u16 0, .int .u16 0, .int .u16 0, .int .u16 0, .int .u16 0, .int .u16 0, .int .u16 0, .int .u16 0, .int .u16 0, .int .u16 0, .int .u16 0, .int .u16 0, .int .u16 0, .slice none 0 0], none, []⟩, ⟨none, .st 19 (.t 10) (.t 55), none, [55]⟩, ⟨some 11, .mov (.t 56), none, [56]⟩, ⟨some 12, .mov (.t 57), none, [11, 57]⟩, ⟨some 13, .mov (.t 58), none, [12, 58]⟩, ⟨some 14, .mov (.t 59), none, [13, 59]⟩])
       (.seal_ 10
        (.seq
         (.seq
          (.region false [] [⟨some 60, .mov (.c (.int .i64 0)), none, []⟩])
         (.block 2
          (.loop [0, 1, 5, 7, 8, 10, 60]
           (.seq
            (.region false [] [⟨some 61, .bin false .lss (.t 60) (.c (.int .i64 16)), none, []⟩])
           (.seq
            (.cond (.t 61)
              (.drop [61]
               .skip)
              (.drop [60, 61]
               (.exit 2)))
           (.seq
            (.block 3
             (.seq
              (.region false [] [⟨some 62, .mov (.t 60), none, []⟩, ⟨some 15, .mov (.t 62), none, [62]⟩])
             (.seq
              (.draws (.tak 0 ⟨some 63, .mov (.t 15), none, []⟩ (.tak 1 ⟨some 64, .fad 2 (.t 10), none, []⟩ (.tak 2 ⟨some 65, .iaa 16 1 (.t 64) (.t 63), none, []⟩ (.tak 3 ⟨some 66, .ld false 1 (.t 65), none, []⟩ (.tak 4 ⟨some 67, .mov (.t 15), none, []⟩ (.tak 5 ⟨some 68, .fad 2 (.t 7), none, []⟩ (.tak 6 ⟨some 69, .iaa 16 1 (.t 68) (.t 67), none, []⟩ (.alt 7 ⟨some 70, .ld false 1 (.t 69), none, []⟩ (.tak 8 ⟨some 71, .bin false .lss (.t 66) (.t 70), none, []⟩ (.tak 9 ⟨some 72, .mov (.t 71), none, []⟩ (.tak 10 ⟨some 73, .mov (.t 15), some (72, false), []⟩ (.tak 11 ⟨some 74, .fad 2 (.t 10), some (72, false), []⟩ (.tak 12 ⟨some 75, .iaa 16 1 (.t 74) (.t 73), some (72, false), []⟩ (.tak 13 ⟨some 76, .ld false 1 (.t 75), some (72, false), []⟩ (.tak 14 ⟨some 77, .mov (.t 15), some (72, false), []⟩ (.tak 15 ⟨some 78, .fad 2 (.t 7), some (72, false), []⟩ (.tak 16 ⟨some 79, .iaa 16 1 (.t 78) (.t 77), some (72, false), []⟩ (.alt 17 ⟨some 80, .ld false 1 (.t 79), some (72, false), []⟩ (.tak 18 ⟨some 81, .bin false .add (.t 80) (.c (.int .u16 8)), some (72, false), []⟩ (.tak 19 ⟨some 82, .bin false .gtr (.t 76) (.t 81), some (72, false), []⟩ (.tak 20 ⟨some 83, .pick (.t 72) (.c (.bool true)) (.t 82), none, []⟩ .done))) .stop)))))))))) .stop)))))))) [[], [], [1, 0], [2], [], [], [5, 4], [6], [3, 7], [8], [9], [9], [11, 10, 9], [12, 9], [9], [9], [15, 14, 9], [16, 9], [17, 9], [13, 18, 9], [9, 19]] [⟨some 63, .mov (.t 15), none, []⟩, ⟨some 64, .fad 2 (.t 10), none, []⟩, ⟨some 65, .iaa 16 1 (.t 64) (.t 63), none, []⟩, ⟨some 66, .ld false 1 (.t 65), none, []⟩, ⟨some 67, .mov (.t 15), none, []⟩, ⟨some 68, .fad 2 (.t 7), none, []⟩, ⟨some 69, .iaa 16 1 (.t 68) (.t 67), none, []⟩, ⟨some 70, .ld false 1 (.t 69), none, []⟩, ⟨some 71, .bin false .lss (.t 66) (.t 70), none, []⟩, ⟨some 72, .mov (.t 71), none, []⟩, ⟨some 73, .mov (.t 15), some (72, false), []⟩, ⟨some 74, .fad 2 (.t 10), some (72, false), []⟩, ⟨some 75, .iaa 16 1 (.t 74) (.t 73), some (72, false), []⟩, ⟨some 76, .ld false 1 (.t 75), some (72, false), []⟩, ⟨some 77, .mov (.t 15), some (72, false), []⟩, ⟨some 78, .fad 2 (.t 7), some (72, false), []⟩, ⟨some 79, .iaa 16 1 (.t 78) (.t 77), some (72, false), []⟩, ⟨some 80, .ld false 1 (.t 79), some (72, false), []⟩, ⟨some 81, .bin false .add (.t 80) (.c (.int .u16 8)), some (72, false), []⟩, ⟨some 82, .bin false .gtr (.t 76) (.t 81), some (72, false), []⟩, ⟨some 83, .pick (.t 72) (.c (.bool true)) (.t 82), none, []⟩])
             (.drop [15, 63, 64, 65, 66, 67, 68, 69, 70, 71, 72, 73, 74, 75, 76, 77, 78, 79, 80, 81, 82]
              (.pack [0, 1, 5, 7, 8, 10, 60, 83]
               (.cond (.t 83)
                 (.drop [0, 1, 5, 7, 8, 10, 60, 83]
                  (.seq
                   (.region false [] [⟨some 6, .mov (.c (.bool false)), none, []⟩])
                  .ret))
                 (.drop [83]
                  .skip)))))))
           (.region false [] [⟨some 84, .bin false .add (.t 60) (.c (.int .i64 1)), none, [60]⟩, ⟨some 60, .mov (.t 84), none, [84]⟩])))))))
        (.region false [] [⟨some 85, .ld true 19 (.t 10), none, [10]⟩, ⟨none, .st 19 (.t 7) (.t 85), none, [85]⟩]))))))))
    (.region false [] [⟨some 34, .mov (.t 8), none, [8]⟩, ⟨some 35, .bin false .add (.t 34) (.c (.int .i64 1)), none, [34]⟩, ⟨some 8, .mov (.t 35), none, [35]⟩]))))))
 (.seq
  (.region false [] [⟨some 86, .fad 0 (.t 5), none, []⟩, ⟨none, .st 1 (.t 86) (.c (.int .i64 0)), none, [86]⟩])
 (.seq
  (.seq
   (.region false [] [⟨some 87, .fad 1 (.t 5), none, []⟩, ⟨some 88, .ld false 1 (.t 87), none, [87]⟩, ⟨some 89, .bin false .gtr (.t 88) (.c (.int .u8 15)), none, [88]⟩, ⟨some 90, .mov (.t 89), none, [89]⟩, ⟨some 91, .mov (.t 0), some (90, false), [0]⟩, ⟨some 92, .fad 1 (.t 5), some (90, false), []⟩, ⟨some 93, .ld false 1 (.t 92), some (90, false), [92]⟩, ⟨some 94, .bin false .shr (.t 91) (.t 93), some (90, false), [91, 93]⟩, ⟨some 95, .bin false .rem (.t 94) (.c (.int .u16 2)), some (90, false), [94]⟩, ⟨some 96, .bin false .eql (.t 95) (.c (.int .u16 0)), some (90, false), [95]⟩, ⟨some 97, .pick (.t 90) (.c (.bool true)) (.t 96), none, [90, 96]⟩, ⟨some 98, .mov (.t 97), none, [97]⟩, ⟨some 99, .fad 2 (.t 5), some (98, false), []⟩, ⟨some 100, .ld false 1 (.t 99), some (98, false), [99]⟩, ⟨some 101, .bin false .lss (.t 100) (.c (.int .i64 0)), some (98, false), [100]⟩, ⟨some 102, .pick (.t 98) (.c (.bool true)) (.t 101), none, [98, 101]⟩, ⟨some 103, .mov (.t 102), none, [102]⟩, ⟨some 104, .fad 2 (.t 5), some (103, false), []⟩, ⟨some 105, .ld false 1 (.t 104), some (103, false), [104]⟩, ⟨some 106, .bin false .geq (.t 105) (.c (.int .i64 1000)), some (103, false), [105]⟩, ⟨some 107, .pick (.t 103) (.c (.bool true)) (.t 106), none, [103, 106]⟩])
  (.cond (.t 107)
    (.drop [5, 7, 107]
     (.seq
      (.region false [] [⟨some 6, .mov (.c (.bool true)), none, []⟩])
     .ret))
    (.drop [107]
     .skip)))
 (.seq
  (.region false [] [⟨some 109, .ld true 19 (.t 7), none, []⟩, ⟨some 110, .ld true 3 (.t 5), none, []⟩, ⟨some 111, .fad 1 (.t 5), none, []⟩, ⟨some 112, .ld false 1 (.t 111), none, [111]⟩, ⟨some 113, .call 12 [.t 109, .t 110, .c (.int .i64 3), .t 112, .c (.string ⟨#[120]⟩)], none, [109, 110, 112]⟩, ⟨some 108, .mov (.t 113), none, [113]⟩, ⟨some 114, .ext 0 (.t 108), none, []⟩, ⟨some 115, .ext 1 (.t 108), none, []⟩, ⟨some 116, .ext 2 (.t 108), none, []⟩, ⟨some 117, .ext 3 (.t 108), none, []⟩, ⟨some 118, .ext 4 (.t 108), none, [108]⟩, ⟨some 16, .alloc [.int .i64 0, .int .u16 0, .int .u16 0, .int .u16 0, .int .u16 0, .int .u16 0, .int .u16 0, .int .u16 0, .int .u16 0, .int .u16 0, .int .u16 0, .int .u16 0, .int .u16 0, .int .u16 0, .int .u16 0, .int .u16 0, .int .u16 0, .int .u16 0, .slice none 0 0], none, []⟩, ⟨none, .st 19 (.t 16) (.t 114), none, [16, 114]⟩, ⟨some 17, .mov (.t 115), none, [115]⟩, ⟨some 18, .mov (.t 116), none, [17, 116]⟩, ⟨some 19, .mov (.t 117), none, [18, 117]⟩, ⟨some 20, .mov (.t 118), none, [19, 118]⟩])
 (.seal_ 16
  (.seq
   (.region false [] [⟨some 119, .fad 1 (.t 5), none, []⟩, ⟨some 120, .ld false 1 (.t 119), none, [119]⟩, ⟨some 121, .fad 2 (.t 7), none, [7]⟩, ⟨some 122, .iaa 16 1 (.t 121) (.t 120), none, [120, 121]⟩, ⟨some 123, .ld false 1 (.t 122), none, [122]⟩, ⟨some 124, .cvt .i64 (.t 123), none, [123]⟩, ⟨some 21, .mov (.t 124), none, [124]⟩])
  (.seq
   (.region false [] [⟨some 125, .fad 2 (.t 5), none, []⟩, ⟨some 126, .ld false 1 (.t 125), none, [125]⟩, ⟨some 127, .mov (.t 21), none, []⟩, ⟨some 128, .bin false .geq (.t 126) (.t 127), none, [126, 127]⟩, ⟨some 129, .mov (.t 128), none, [128]⟩, ⟨some 130, .mov (.t 20), some (129, false), []⟩, ⟨some 131, .bin false .eql (.t 130) (.c (.int .i64 6)), some (129, false), [130]⟩, ⟨some 132, .pick (.t 129) (.c (.bool true)) (.t 131), none, [129, 131]⟩, ⟨some 133, .mov (.t 132), none, [132]⟩, ⟨some 134, .fad 2 (.t 5), some (133, true), [5]⟩, ⟨some 135, .ld false 1 (.t 134), some (133, true), [134]⟩, ⟨some 136, .mov (.t 21), some (133, true), [21]⟩, ⟨some 137, .bin false .add (.t 136) (.c (.int .i64 8)), some (133, true), [136]⟩, ⟨some 138, .bin false .lss (.t 135) (.t 137), some (133, true), [135, 137]⟩, ⟨some 139, .mov (.t 138), some (133, true), [138]⟩, ⟨some 140, .mov (.t 20), some (139, false), [20]⟩, ⟨some 141, .bin false .eql (.t 140) (.c (.int .i64 7)), some (139, false), [140]⟩, ⟨some 142, .pick (.t 139) (.c (.bool true)) (.t 141), some (133, true), [139, 141]⟩, ⟨some 143, .pick (.t 133) (.t 142) (.c (.bool false)), none, [133, 142]⟩, ⟨some 6, .mov (.t 143), none, [143]⟩])
  .ret))))))))))
def rs_7 : List ARes := [.tmp 6]
theorem g_7 : Good Try.prog 7 ac_7 rs_7 := ⟨Try.f7, Try.f7.body.getD .skip, by kernel_rfl, by kernel_rfl, by kernel_rfl, ⟨by kernel_rfl, by kernel_rfl⟩, by kernel_rfl, by kernel_rfl⟩
theorem ok_7 {Γ : Env} (hΓ : EnvOk Try.prog Γ) (sp : Spec) (h : WB Γ ac_7 rs_7 sp) : CallOk Try.prog 7 sp := g_7.ok hΓ mix_ok sp h

end Go.Proofs.Ytkbgndebfcjojaa.Am
namespace Go.Proofs.Ytkbgndebfcjojaa.Am
set_option linter.unusedSimpArgs false
set_option linter.unusedVariables false
open Go Go.Proofs
attribute [local irreducible] wpA
attribute [-simp] splice fix1

theorem may_old {t : Tb} {n : Nm} (hr : rightT t = true) (h : n.v = t.v) (h2 : hasS t.m n.f = true) (h3 : 0 ≤ n.q) (h4 : n.q < 1000) :
    (n.q < (baseT t.b n.f : Int) → mayT t n = 6) ∧ ((baseT t.b n.f : Int) + 8 ≤ n.q → mayT t n = 7) := by
  have e : ¬ (n.q < 0 ∨ 1000 ≤ n.q) := by omega
  constructor
  · intro h5; simp [mayT, hr, h, h2, e, h5]
  · intro h5
    have e2 : ¬ (n.q < (baseT t.b n.f : Int)) := by omega
    simp [mayT, hr, h, h2, e, h5, e2]
theorem take_may' {t : Tb} {n : Nm} (k : Int) (w : Nat) (s : ByteArray) (h : mayT t n ≠ 0) : takeT t n k w s = failT t (mayT t n) := by simp [takeT, h]
theorem shr16' {m f : Nat} (h : f ≤ 15) : ((Int.fdiv (m : Int) (2 ^ (min f 16))).tmod 2 == 0) = !hasS m f := by
  rw [Nat.min_eq_left (by omega), Int.fdiv_eq_ediv_of_nonneg _ (by exact Int.le_of_lt (Int.pow_pos (by decide)))]
  exact shr_has
noncomputable def spTableBase : Spec := sp3 (avI .u16) avAcs avNm (fun m l n => (0 ≤ m ∧ m < 65536) ∧ ((∀ a ∈ l, okAc a) ∧ l.length ≤ 9223372036854775807) ∧ n.f < 256 ∧ i64r n.q) fun _ _ _ => .v (.bool true)
set_option maxHeartbeats 32000000 in
theorem tableBase_ok : CallOk Try.prog 7 spTableBase := by
  refine ok_7 (Env.put_ok [] (Env.put_ok [] (Env.none_ok _) alive_ok) (CallOk.fixD fxTb takeT_ok)) spTableBase (wb_sp3 ?_)
  rintro m0 l ⟨zv, zf, zq⟩ ⟨⟨hm0, hm1⟩, ⟨hl, hll⟩, hzf, hzq⟩
  obtain ⟨m, rfl⟩ : ∃ m : Nat, m0 = (m : Int) := ⟨m0.toNat, by omega⟩
  have hm : m < 65536 := by omega
  simp only at hzf hzq
  simp only [avI, avAcs, avNm]
  unfold ac_7
  repeat' with_reducible first
  | refine stp ?_ | refine seg_both ?_ ?_ | refine seg_case (fun x h => ?_) (fun h => ?_) | refine seg_gate (fun h => ?_) (fun h => ?_) | refine seg_need ?_ ?_ | refine cond_v (fun h => ?_) (fun h => ?_)
  | refine seg_eval (by simp -dsimp -implicitDefEqProofs [spAlive, zV_length]; rfl) ?_
  refine wp_loopR (fun ts mm => ∃ (t : Tb) (x : AV), bT 80 t ∧ rightT t = true ∧ TX t.os x ∧ t.v = 0 ∧ t.m = m ∧
      ts = [(0, .v (.int .u16 (m : Nat))), (5, .ptr 0 0 0), (7, .ptr 1 0 0)] ∧ mm = [.var [.v (.int .i64 zv), .v (.int .u8 (zf : Nat)), .v (.int .i64 zq)], .var (tc t.v (t.m : Nat) t.b x)])
    (fun j ts mm => ∃ (i : Nat) (t : Tb) (x : AV), i + j = 80 ∧ bT i t ∧ rightT t = true ∧ TX t.os x ∧ t.v = 0 ∧ t.m = m ∧
      ts = [(0, .v (.int .u16 (m : Nat))), (1, .fsl 6 (l.map avAc)), (5, .ptr 0 0 0), (7, .ptr 1 0 0), (8, .v (.int .i64 i))] ∧ mm = [.var [.v (.int .i64 zv), .v (.int .u8 (zf : Nat)), .v (.int .i64 zq)], .var (tc t.v (t.m : Nat) t.b x)]) 80 ?_ ?_ ?_
  · exact ⟨[], [0, 1], by simp [zV_length], by simp, 0, ⟨0, m, zV, []⟩, _, rfl, bT_zero hm, right_zT m, .inr ⟨rfl, rfl⟩, rfl, rfl, by simp, by simp [zV_length]⟩
  · rintro W hW j ts mm ⟨i, ⟨v, tm, b, os⟩, x, hij, hbT, hR, hx, hv0, htm, rfl, rfl⟩
    have hbl := hbT.2.1.1
    simp only at hbl hx hv0 htm
    subst hv0 htm
    have x1 := hx.facts
    by_cases q1 : i < l.length
    · have d1 : decide ((i : Int) < (l.length : Int)) = true := by rw [decide_eq_true_eq]; omega
      have d1' : decide (i < l.length) = true := by simp [q1]
      by_cases q2 : i < 80
      · have d2 : decide ((i : Int) < 80) = true := by rw [decide_eq_true_eq]; omega
        have d2' : decide (i < 80) = true := by simp [q2]
        have h64 : IntKind.wrap .i64 ((i : Int) + 1) = ((i + 1 : Nat) : Int) := by rw [IntWalk.i64_in _ (by omega)]; rfl
        obtain ⟨a, ha⟩ : ∃ a, l[i]? = some a := ⟨_, List.getElem?_eq_getElem q1⟩
        obtain ⟨hnf, hnq, hw⟩ := hl a (List.mem_of_getElem? ha)
        obtain ⟨⟨nv, nf, nq⟩, k, w, s⟩ := a
        simp only at hnf hnq hw
        have hnf2 : (nf : Int) < 256 := by omega
        have hw2 : (w : Int) < 256 := by omega
        by_cases hs : 1100 < s.size
        · have c1 : decide (1100 < s.size) = true := by simp [hs]
          have c1' : decide ((1100 : Int) < (s.size : Int)) = true := by rw [decide_eq_true_eq]; omega
          repeat' with_reducible first
          | refine stm ?_ | refine seg_both ?_ ?_ | refine seg_case (fun x h => ?_) (fun h => ?_) | refine seg_gate (fun h => ?_) (fun h => ?_) | refine seg_need ?_ ?_ | refine cond_v (fun h => ?_) (fun h => ?_)
          | refine seg_eval (by simp -dsimp -implicitDefEqProofs [avAc, d1, d1', d2, d2', ha, c1, c1', h64]; rfl) ?_
          all_goals first
            | omega
            | exact ⟨j - 1, by omega, [], [0, 1], by simp [x1, hbl], by simp, i + 1, ⟨0, tm, b, os⟩, x, by omega, bT_up hbT (Nat.le_succ i), hR, hx, rfl, rfl, by simp, by simp [x1]⟩
            | trace_state
        · have c1 : decide (1100 < s.size) = false := by simp; omega
          have c1' : decide ((1100 : Int) < (s.size : Int)) = false := by rw [decide_eq_false_iff_not]; omega
          have hok := bT_ok hbT (by omega)
          have hB := take_b hbT ⟨nv, nf, nq⟩ k w s hnf
          have hT := bT_ok hB (by omega)
          have hR2 := take_right (n := ⟨nv, nf, nq⟩) (k := k) (w := w) (s := s) hbT.1 hbT.2.1 hR
          have hbs := fun u => take_base (n := ⟨nv, nf, nq⟩) (k := k) (w := w) (s := s) hbT.1 hbT.2.1 u
          have hap := take_apart (n := ⟨nv, nf, nq⟩) (k := k) (w := w) (s := s) hbT.1 hbT.2.1
          have hok1 := hbT.2.1
          obtain ⟨r, hr⟩ : ∃ r, takeT ⟨0, tm, b, os⟩ ⟨nv, nf, nq⟩ k w s = r := ⟨_, rfl⟩
          rw [hr] at hB hT hR2 hbs hap
          obtain ⟨⟨rv, rm, rb, ros⟩, ro, rs, ri, rx⟩ := r
          have hok2 := hB.2.1
          simp only at hB hT hR2 hbs hap hok1 hok2
          obtain ⟨rfl, rfl, _⟩ := hap
          have hrb := hok2.1
          repeat' with_reducible first
          | refine stm ?_ | refine seg_both ?_ ?_ | refine seg_case (fun x h => ?_) (fun h => ?_) | refine seg_gate (fun h => ?_) (fun h => ?_) | refine seg_need ?_ ?_ | refine cond_v (fun h => ?_) (fun h => ?_)
          | refine seg_eval (by simp -dsimp -implicitDefEqProofs [avAc, d1, d1', d2, d2', ha, c1, c1', x1, hbl, hrb, zV_length, spTakeT, hok, hnf, hw2, hr, avTt, avTb, Int.toNat_natCast, fxTb]; rfl) ?_
          all_goals try first
            | omega
            | exact hok
          refine wp_loop' (fun j' ts mm => ∃ u : Nat, u + j' = 16 ∧
            ts = [(0, .v (.int .u16 (rm : Nat))), (1, .fsl 6 (l.map avAc)), (5, .ptr 0 0 0), (7, .ptr 1 0 0), (8, .v (.int .i64 i)), (10, .fptr (.agg (tc 0 (rm : Nat) rb (.fsl 7 (ros.map avOp)))) 0), (60, .v (.int .i64 u))] ∧
            mm = [.var [.v (.int .i64 zv), .v (.int .u8 (zf : Nat)), .v (.int .i64 zq)], .var (tc 0 (rm : Nat) b x)]) 16 ?_ ?_
          · exact ⟨[], [0, 1], by simp [hbl, hrb, x1], by simp, 0, rfl, by simp, by simp [x1]⟩
          · rintro j' ts mm ⟨u, hu, rfl, rfl⟩
            by_cases q3 : u < 16
            · have d3 : decide ((u : Int) < 16) = true := by rw [decide_eq_true_eq]; omega
              have d3' : decide (u < 16) = true := by simp [q3]
              have d3i : (u : Int) < 16 := by omega
              have e18 : 2 + u ≤ 18 := by omega
              have h64u : IntKind.wrap .i64 ((u : Int) + 1) = ((u + 1 : Nat) : Int) := by rw [IntWalk.i64_in _ (by omega)]; rfl
              obtain ⟨hba, hbn⟩ := base_at hok1 q3
              obtain ⟨hba2, hbn2⟩ := base_at hok2 q3
              have hat := tc_at (v := 0) (m := (rm : Int)) (x := x) hba
              have hat2 := tc_at (v := 0) (m := (rm : Int)) (x := .fsl 7 (ros.map avOp)) hba2
              have hb1 := hbs u
              have hle := (right_base hR q3).1
              simp only at hle
              have e1 : decide (((baseT rb u : Nat) : Int) < ((baseT b u : Nat) : Int)) = false := by rw [decide_eq_false_iff_not]; omega
              have e1' : decide (baseT rb u < baseT b u) = false := by rw [decide_eq_false_iff_not]; omega
              have e2 : IntKind.wrap .u16 (((baseT b u : Nat) : Int) + 8) = ((baseT b u + 8 : Nat) : Int) := by rw [IntWalk.u16_in _ (by omega)]; rfl
              have e3 : decide (((baseT b u + 8 : Nat) : Int) < ((baseT rb u : Nat) : Int)) = false := by rw [decide_eq_false_iff_not]; omega
              have e3' : decide (baseT b u + 8 < baseT rb u) = false := by rw [decide_eq_false_iff_not]; omega
              have e3'' : decide (((baseT b u : Nat) : Int) + 8 < ((baseT rb u : Nat) : Int)) = false := by rw [decide_eq_false_iff_not]; omega
              repeat' with_reducible first
              | refine stm ?_ | refine seg_both ?_ ?_ | refine seg_case (fun x h => ?_) (fun h => ?_) | refine seg_gate (fun h => ?_) (fun h => ?_) | refine seg_need ?_ ?_ | refine cond_v (fun h => ?_) (fun h => ?_)
              | refine seg_eval (by simp -dsimp -implicitDefEqProofs [d3, d3', d3i, hbl, hrb, x1]; rfl) ?_
              all_goals try omega
              refine wp_drawsR (fun ts mm => ts = [(0, .v (.int .u16 (rm : Nat))), (1, .fsl 6 (l.map avAc)), (5, .ptr 0 0 0), (7, .ptr 1 0 0), (8, .v (.int .i64 i)), (10, .fptr (.agg (tc 0 (rm : Nat) rb (.fsl 7 (ros.map avOp)))) 0), (60, .v (.int .i64 u)), (83, .v (.bool false))] ∧
                mm = [.var [.v (.int .i64 zv), .v (.int .u8 (zf : Nat)), .v (.int .i64 zq)], .var (tc 0 (rm : Nat) b x)]) ?_ ?_
              · intro W hW
                repeat' with_reducible first
                | refine stp ?_ | refine seg_both ?_ ?_ | refine seg_case (fun x h => ?_) (fun h => ?_) | refine seg_gate (fun h => ?_) (fun h => ?_) | refine seg_need ?_ ?_ | refine cond_v (fun h => ?_) (fun h => ?_)
                | refine seg_eval (by simp -dsimp -implicitDefEqProofs [d3i, q3, e18, hbl, hrb, x1, hat, hat2, e1, e1', e2, e3, e3', e3'', Int.toNat_natCast]; rfl) ?_
                all_goals first
                  | omega
                  | (refine hW _ _ ⟨[], [0, 1], ?_, ?_, ?_, ?_⟩ <;> (simp [hbl, hrb, x1]; done))
                  | trace_state
              · rintro ts mm ⟨rfl, rfl⟩
                repeat' with_reducible first
                | refine stp ?_ | refine seg_both ?_ ?_ | refine seg_case (fun x h => ?_) (fun h => ?_) | refine seg_gate (fun h => ?_) (fun h => ?_) | refine seg_need ?_ ?_ | refine cond_v (fun h => ?_) (fun h => ?_)
                | refine seg_eval (by simp -dsimp -implicitDefEqProofs [h64u]; rfl) ?_
                all_goals first
                  | omega
                  | exact ⟨j' - 1, by omega, [], [0, 1], by simp [hbl, hrb, x1], by simp, u + 1, by omega, by simp, by simp [x1]⟩
                  | trace_state
            · have d3 : decide ((u : Int) < 16) = false := by rw [decide_eq_false_iff_not]; omega
              have d3' : decide (u < 16) = false := by simp [q3]
              repeat' with_reducible first
              | refine stp ?_ | refine seg_both ?_ ?_ | refine seg_case (fun x h => ?_) (fun h => ?_) | refine seg_gate (fun h => ?_) (fun h => ?_) | refine seg_need ?_ ?_ | refine cond_v (fun h => ?_) (fun h => ?_)
              | refine seg_eval (by simp -dsimp -implicitDefEqProofs [hbl, x1, d3, d3', h64, hbl, hrb]; rfl) ?_
              all_goals first
                | omega
                | exact ⟨j - 1, by omega, [], [0, 1], by simp [hbl, hrb], by simp, i + 1, ⟨0, rm, rb, ros⟩, _, by omega, hB, hR2, .inl rfl, rfl, rfl, by simp, by simp⟩
                | trace_state
      · have d2 : decide ((i : Int) < 80) = false := by rw [decide_eq_false_iff_not]; omega
        have d2' : decide (i < 80) = false := by simp [q2]
        repeat' with_reducible first
        | refine stp ?_ | refine seg_both ?_ ?_ | refine seg_case (fun x h => ?_) (fun h => ?_) | refine seg_gate (fun h => ?_) (fun h => ?_) | refine seg_need ?_ ?_ | refine cond_v (fun h => ?_) (fun h => ?_)
        | refine seg_eval (by simp -dsimp -implicitDefEqProofs [hbl, x1, d1, d1', d2, d2']; rfl) ?_
        all_goals first
          | omega
          | exact hW _ _ ⟨⟨0, tm, b, os⟩, x, bT_up hbT (by omega), hR, hx, rfl, rfl, rfl, rfl⟩
          | trace_state
    · have d1 : decide ((i : Int) < (l.length : Int)) = false := by rw [decide_eq_false_iff_not]; omega
      have d1' : decide (i < l.length) = false := by simp [q1]
      repeat' with_reducible first
      | refine stp ?_ | refine seg_both ?_ ?_ | refine seg_case (fun x h => ?_) (fun h => ?_) | refine seg_gate (fun h => ?_) (fun h => ?_) | refine seg_need ?_ ?_ | refine cond_v (fun h => ?_) (fun h => ?_)
      | refine seg_eval (by simp -dsimp -implicitDefEqProofs [hbl, x1, d1, d1']; rfl) ?_
      all_goals first
        | omega
        | exact hW _ _ ⟨⟨0, tm, b, os⟩, x, bT_up hbT (by omega), hR, hx, rfl, rfl, rfl, rfl⟩
        | trace_state
  · rintro ts mm ⟨⟨v, tm, b, os⟩, x, hbT, hR, hx, hv0, htm, rfl, rfl⟩
    have hbl := hbT.2.1.1
    simp only at hbl hx hv0 htm
    subst hv0 htm
    have x1 := hx.facts
    have hzf2 : (zf : Int) < 256 := by omega
    by_cases q3 : 15 < zf
    · have d3 : decide ((15 : Int) < (zf : Int)) = true := by rw [decide_eq_true_eq]; omega
      have d3' : decide (15 < zf) = true := by rw [decide_eq_true_eq]; omega
      repeat' with_reducible first
      | refine stp ?_ | refine seg_both ?_ ?_ | refine seg_case (fun x h => ?_) (fun h => ?_) | refine seg_gate (fun h => ?_) (fun h => ?_) | refine seg_need ?_ ?_ | refine cond_v (fun h => ?_) (fun h => ?_)
      | refine seg_eval (by simp -dsimp -implicitDefEqProofs [hbl, x1, d3, d3']; rfl) ?_
      all_goals first
        | omega
        | exact post_fin rfl rfl ⟨[], [], rfl, rfl, rfl, rfl⟩
        | trace_state
    have d3 : decide ((15 : Int) < (zf : Int)) = false := by rw [decide_eq_false_iff_not]; omega
    have d3' : decide (15 < zf) = false := by rw [decide_eq_false_iff_not]; omega
    cases q4 : hasS tm zf
    · have d4 : ((Int.fdiv (tm : Int) (2 ^ (min zf 16))).tmod 2 == 0) = true := by rw [shr16' (by omega), q4]; rfl
      repeat' with_reducible first
      | refine stp ?_ | refine seg_both ?_ ?_ | refine seg_case (fun x h => ?_) (fun h => ?_) | refine seg_gate (fun h => ?_) (fun h => ?_) | refine seg_need ?_ ?_ | refine cond_v (fun h => ?_) (fun h => ?_)
      | refine seg_eval (by simp -dsimp -implicitDefEqProofs [hbl, x1, d3, d3', d4, Int.toNat_natCast]; rfl) ?_
      all_goals first
        | omega
        | exact post_fin rfl rfl ⟨[], [], rfl, rfl, rfl, rfl⟩
        | trace_state
    have d4 : ((Int.fdiv (tm : Int) (2 ^ (min zf 16))).tmod 2 == 0) = false := by rw [shr16' (by omega), q4]; rfl
    by_cases q5 : zq < 0
    · have d5 : decide (zq < 0) = true := by simp [q5]
      repeat' with_reducible first
      | refine stp ?_ | refine seg_both ?_ ?_ | refine seg_case (fun x h => ?_) (fun h => ?_) | refine seg_gate (fun h => ?_) (fun h => ?_) | refine seg_need ?_ ?_ | refine cond_v (fun h => ?_) (fun h => ?_)
      | refine seg_eval (by simp -dsimp -implicitDefEqProofs [hbl, x1, d3, d3', d4, d5, Int.toNat_natCast]; rfl) ?_
      all_goals first
        | omega
        | exact post_fin rfl rfl ⟨[], [], rfl, rfl, rfl, rfl⟩
        | trace_state
    have d5 : decide (zq < 0) = false := by simp [q5]
    by_cases q6 : 1000 ≤ zq
    · have d6 : decide (1000 ≤ zq) = true := by simp [q6]
      repeat' with_reducible first
      | refine stp ?_ | refine seg_both ?_ ?_ | refine seg_case (fun x h => ?_) (fun h => ?_) | refine seg_gate (fun h => ?_) (fun h => ?_) | refine seg_need ?_ ?_ | refine cond_v (fun h => ?_) (fun h => ?_)
      | refine seg_eval (by simp -dsimp -implicitDefEqProofs [hbl, x1, d3, d3', d4, d5, d6, Int.toNat_natCast]; rfl) ?_
      all_goals first
        | omega
        | exact post_fin rfl rfl ⟨[], [], rfl, rfl, rfl, rfl⟩
        | trace_state
    have d6 : decide (1000 ≤ zq) = false := by simp [q6]
    have hok := bT_ok hbT (by omega)
    have hok1 := hbT.2.1
    simp only at hok1
    obtain ⟨hba, hbn⟩ := base_at hok1 (f := zf) (by omega)
    have hat := tc_at (v := 0) (m := (tm : Int)) (x := x) hba
    have hle := (right_base hR (i := zf) (by omega)).1
    simp only at hle
    have hmy := may_old (t := ⟨0, tm, b, os⟩) (n := ⟨0, zf, zq⟩) hR rfl q4 (by simp only; omega) (by simp only; omega)
    simp only at hmy
    have hV : zq < (baseT b zf : Int) → (takeT ⟨0, tm, b, os⟩ ⟨0, zf, zq⟩ 3 zf ⟨#[120]⟩).x = 6 := fun h => by rw [take_may' _ _ _ (by rw [hmy.1 h]; decide), hmy.1 h]; rfl
    have hU : (baseT b zf : Int) + 8 ≤ zq → (takeT ⟨0, tm, b, os⟩ ⟨0, zf, zq⟩ 3 zf ⟨#[120]⟩).x = 7 := fun h => by rw [take_may' _ _ _ (by rw [hmy.2 h]; decide), hmy.2 h]; rfl
    have hB := take_b hbT ⟨0, zf, zq⟩ 3 zf ⟨#[120]⟩ hzf
    obtain ⟨r, hr⟩ : ∃ r, takeT ⟨0, tm, b, os⟩ ⟨0, zf, zq⟩ 3 zf ⟨#[120]⟩ = r := ⟨_, rfl⟩
    rw [hr] at hV hU hB
    obtain ⟨⟨rv, rm, rb, ros⟩, ro, rs, ri, rx⟩ := r
    simp only at hV hU hB
    have hrb := hB.2.1.1
    simp only at hrb
    have hz15 : (zf : Int) < 16 := by omega
    have z15 : zf < 16 := by omega
    have z18 : 2 + zf ≤ 18 := by omega
    have g1 : IntKind.wrap .i64 ((baseT b zf : Nat) : Int) = ((baseT b zf : Nat) : Int) := IntWalk.i64_in _ (by omega)
    have g2 : IntKind.wrap .i64 (((baseT b zf : Nat) : Int) + 8) = ((baseT b zf : Nat) : Int) + 8 := IntWalk.i64_in _ (by omega)
    by_cases q7 : zq < (baseT b zf : Int)
    · have hx6 := hV q7
      subst hx6
      have d7 : decide ((baseT b zf : Int) ≤ zq) = false := by rw [decide_eq_false_iff_not]; omega
      have d8 : decide (zq < (baseT b zf : Int) + 8) = true := by rw [decide_eq_true_eq]; omega
      repeat' with_reducible first
      | refine stp ?_ | refine seg_both ?_ ?_ | refine seg_case (fun x h => ?_) (fun h => ?_) | refine seg_gate (fun h => ?_) (fun h => ?_) | refine seg_need ?_ ?_ | refine cond_v (fun h => ?_) (fun h => ?_)
      | refine seg_eval (by simp -dsimp -implicitDefEqProofs [hbl, x1, d3, d3', d4, d5, d6, hzf2, hz15, z15, z18, hrb, zV_length, spTakeT, hok, hzf, hr, avTt, avTb, Int.toNat_natCast, fxTb, hat, g1, g2, d7, d8]; rfl) ?_
      all_goals first
        | omega
        | exact hok
        | exact post_fin rfl rfl ⟨[], [], rfl, rfl, rfl, rfl⟩
        | trace_state
    · have d7 : decide ((baseT b zf : Int) ≤ zq) = true := by rw [decide_eq_true_eq]; omega
      by_cases q8 : zq < (baseT b zf : Int) + 8
      · have d8 : decide (zq < (baseT b zf : Int) + 8) = true := by rw [decide_eq_true_eq]; omega
        repeat' with_reducible first
        | refine stp ?_ | refine seg_both ?_ ?_ | refine seg_case (fun x h => ?_) (fun h => ?_) | refine seg_gate (fun h => ?_) (fun h => ?_) | refine seg_need ?_ ?_ | refine cond_v (fun h => ?_) (fun h => ?_)
        | refine seg_eval (by simp -dsimp -implicitDefEqProofs [hbl, x1, d3, d3', d4, d5, d6, hzf2, hz15, z15, z18, hrb, zV_length, spTakeT, hok, hzf, hr, avTt, avTb, Int.toNat_natCast, fxTb, hat, g1, g2, d7, d8]; rfl) ?_
        all_goals first
          | omega
          | exact hok
          | exact post_fin rfl rfl ⟨[], [], rfl, rfl, rfl, rfl⟩
          | trace_state
      · have hx7 := hU (by omega)
        subst hx7
        have d8 : decide (zq < (baseT b zf : Int) + 8) = false := by rw [decide_eq_false_iff_not]; omega
        repeat' with_reducible first
        | refine stp ?_ | refine seg_both ?_ ?_ | refine seg_case (fun x h => ?_) (fun h => ?_) | refine seg_gate (fun h => ?_) (fun h => ?_) | refine seg_need ?_ ?_ | refine cond_v (fun h => ?_) (fun h => ?_)
        | refine seg_eval (by simp -dsimp -implicitDefEqProofs [hbl, x1, d3, d3', d4, d5, d6, hzf2, hz15, z15, z18, hrb, zV_length, spTakeT, hok, hzf, hr, avTt, avTb, Int.toNat_natCast, fxTb, hat, g1, g2, d7, d8]; rfl) ?_
        all_goals first
          | omega
          | exact hok
          | exact post_fin rfl rfl ⟨[], [], rfl, rfl, rfl, rfl⟩
          | trace_state
end Go.Proofs.Ytkbgndebfcjojaa.Am
