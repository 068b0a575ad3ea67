/-
  No name is delivered twice; of one member few are open; a base tells how many were delivered without a gap.
-/
import Derived.Test.YtkbgndebfcjojaaZTL
namespace Go.Proofs.Ytkbgndebfcjojaa.Am
set_option linter.unusedSimpArgs false
set_option linter.unusedVariables false
open Go Go.Proofs
set_option maxRecDepth 100000


/-- chantry/chantrylaw08.TableOnce -/
def ac_5 : ACode :=
 (.seq
  (.region false [] [⟨some 4, .mov (.c (.bool false)), none, []⟩])
 (.seq
  (.seq
   (.region false [] [⟨some 21, .call 10 [], none, []⟩, ⟨some 22, .un .not (.t 21), none, [21]⟩])
  (.cond (.t 22)
    (.drop [0, 1, 22]
     (.seq
      (.region false [] [⟨some 4, .mov (.c (.bool false)), none, []⟩])
     .ret))
    (.drop [22]
     .skip)))
 (.seq
  (.region false [] [⟨some 23, .mov (.t 0), none, [0]⟩, ⟨some 24, .bld [.int .i64 0, .int .u16 0, .int .u16 0, .int .u16 0, .int .u16 0, .int .u16 0, .int .u16 0, .int .u16 0, .int .u16 0, .int .u16 0, .int .u16 0, .int .u16 0, .int .u16 0, .int .u16 0, .int .u16 0, .int .u16 0, .int .u16 0, .int .u16 0, .slice none 0 0] [(1, 1, .t 23)], none, [23]⟩, ⟨some 5, .alloc [.int .i64 0, .int .u16 0, .int .u16 0, .int .u16 0, .int .u16 0, .int .u16 0, .int .u16 0, .int .u16 0, .int .u16 0, .int .u16 0, .int .u16 0, .int .u16 0, .int .u16 0, .int .u16 0, .int .u16 0, .int .u16 0, .int .u16 0, .int .u16 0, .slice none 0 0], none, []⟩, ⟨none, .st 19 (.t 5) (.t 24), none, [24]⟩])
 (.seq
  (.region false [] [⟨some 6, .mov (.c (.slice none 0 0)), none, []⟩])
 (.seq
  (.seq
   (.region false [] [⟨some 7, .mov (.c (.int .i64 0)), none, []⟩])
  (.block 0
   (.loop [1, 5, 6, 7]
    (.seq
     (.seq
      (.region false [] [⟨some 25, .mov (.t 7), none, []⟩, ⟨some 26, .mov (.t 1), none, []⟩, ⟨some 27, .len false (.t 26), none, [26]⟩, ⟨some 28, .bin false .lss (.t 25) (.t 27), none, [25, 27]⟩, ⟨some 29, .mov (.t 28), none, [28]⟩, ⟨some 30, .mov (.t 7), some (29, true), []⟩, ⟨some 31, .bin false .lss (.t 30) (.c (.int .i64 80)), some (29, true), [30]⟩, ⟨some 32, .pick (.t 29) (.t 31) (.c (.bool false)), none, [29, 31]⟩])
     (.cond (.t 32)
       (.drop [32]
        .skip)
       (.drop [1, 7, 32]
        (.exit 0))))
    (.seq
     (.block 1
      (.seq
       (.region false [] [⟨some 35, .mov (.t 1), none, []⟩, ⟨some 36, .mov (.t 7), none, []⟩, ⟨some 37, .iax 6 (.t 35) (.t 36), none, [35, 36]⟩, ⟨some 38, .ld true 6 (.t 37), none, [37]⟩, ⟨some 8, .alloc [.int .i64 0, .int .u8 0, .int .i64 0, .int .i64 0, .int .u8 0, .string ⟨#[]⟩], none, []⟩, ⟨none, .st 6 (.t 8) (.t 38), none, [38]⟩])
      (.seal_ 8
       (.seq
        (.seq
         (.region false [] [⟨some 39, .fad 5 (.t 8), none, []⟩, ⟨some 40, .ld false 1 (.t 39), none, [39]⟩, ⟨some 41, .len true (.t 40), none, [40]⟩, ⟨some 42, .bin false .gtr (.t 41) (.c (.int .i64 1100)), none, [41]⟩])
        (.cond (.t 42)
          (.drop [8, 42]
           (.exit 1))
          (.drop [42]
           .skip)))
       (.seq
        (.region false [] [⟨some 44, .ld true 19 (.t 5), none, []⟩, ⟨some 45, .fad 0 (.t 8), none, []⟩, ⟨some 46, .ld true 3 (.t 45), none, [45]⟩, ⟨some 47, .fad 3 (.t 8), none, []⟩, ⟨some 48, .ld false 1 (.t 47), none, [47]⟩, ⟨some 49, .fad 4 (.t 8), none, []⟩, ⟨some 50, .ld false 1 (.t 49), none, [49]⟩, ⟨some 51, .fad 5 (.t 8), none, []⟩, ⟨some 52, .ld false 1 (.t 51), none, [51]⟩, ⟨some 53, .call 12 [.t 44, .t 46, .t 48, .t 50, .t 52], none, [44, 46, 48, 50, 52]⟩, ⟨some 43, .mov (.t 53), none, [53]⟩, ⟨some 54, .ext 0 (.t 43), none, []⟩, ⟨some 55, .ext 1 (.t 43), none, []⟩, ⟨some 56, .ext 2 (.t 43), none, []⟩, ⟨some 57, .ext 3 (.t 43), none, []⟩, ⟨some 58, .ext 4 (.t 43), none, [43]⟩, ⟨some 9, .alloc [.int .i64 0, .int .u16 0, .int .u16 0, .int .u16 0, .int .u16 0, .int .u16 0, .int .u16 0, .int .u16 0, .int .u16 0, .int .u16 0, .int .u16 0, .int .u16 0, .int .u16 0, .int .u16 0, .int .u16 0, .int .u16 0, .int .u16 0, .int .u16 0, .slice none 0 0], none, []⟩, ⟨none, .st 19 (.t 9) (.t 54), none, [54]⟩, ⟨some 10, .mov (.t 55), none, [55]⟩, ⟨some 11, .mov (.t 56), none, [10, 56]⟩, ⟨some 12, .mov (.t 57), none, [11, 57]⟩, ⟨some 13, .mov (.t 58), none, [58]⟩])
       (.seal_ 9
        (.seq
         (.seq
          (.draws (.tak 0 ⟨some 59, .mov (.t 13), none, []⟩ (.tak 1 ⟨some 60, .bin false .neq (.t 59) (.c (.int .i64 0)), none, []⟩ (.tak 2 ⟨some 61, .mov (.t 60), none, []⟩ (.tak 3 ⟨some 62, .mov (.t 12), some (61, true), []⟩ (.tak 4 ⟨some 63, .mov (.t 62), some (61, true), []⟩ (.tak 5 ⟨some 64, .ld true 19 (.t 9), some (63, false), []⟩ (.alt 6 ⟨some 65, .call 18 [.t 64], some (63, false), []⟩ (.alt 7 ⟨some 66, .ld true 19 (.t 5), some (63, false), []⟩ (.alt 8 ⟨some 67, .call 18 [.t 66], some (63, false), []⟩ (.alt 9 ⟨some 68, .call 17 [.t 65, .t 67], some (63, false), []⟩ (.tak 10 ⟨some 69, .un .not (.t 68), some (63, false), []⟩ (.tak 11 ⟨some 70, .pick (.t 63) (.c (.bool true)) (.t 69), some (61, true), []⟩ (.tak 12 ⟨some 71, .pick (.t 61) (.t 70) (.c (.bool false)), none, []⟩ .done))) .stop) .stop) .stop) (.alt 7 ⟨some 66, .ld true 19 (.t 5), some (63, false), []⟩ (.alt 6 ⟨some 65, .call 18 [.t 64], some (63, false), []⟩ (.alt 8 ⟨some 67, .call 18 [.t 66], some (63, false), []⟩ (.alt 9 ⟨some 68, .call 17 [.t 65, .t 67], some (63, false), []⟩ (.tak 10 ⟨some 69, .un .not (.t 68), some (63, false), []⟩ (.tak 11 ⟨some 70, .pick (.t 63) (.c (.bool true)) (.t 69), some (61, true), []⟩ (.tak 12 ⟨some 71, .pick (.t 61) (.t 70) (.c (.bool false)), none, []⟩ .done))) .stop) .stop) .stop) .stop)))))))) [[], [0], [1], [2], [3, 2, 2], [4], [5, 4, 4], [4], [7, 6, 4], [6, 8, 8, 4], [9, 4], [4, 10, 2], [2, 11]] [⟨some 59, .mov (.t 13), none, []⟩, ⟨some 60, .bin false .neq (.t 59) (.c (.int .i64 0)), none, []⟩, ⟨some 61, .mov (.t 60), none, []⟩, ⟨some 62, .mov (.t 12), some (61, true), []⟩, ⟨some 63, .mov (.t 62), some (61, true), []⟩, ⟨some 64, .ld true 19 (.t 9), some (63, false), []⟩, ⟨some 65, .call 18 [.t 64], some (63, false), []⟩, ⟨some 66, .ld true 19 (.t 5), some (63, false), []⟩, ⟨some 67, .call 18 [.t 66], some (63, false), []⟩, ⟨some 68, .call 17 [.t 65, .t 67], some (63, false), []⟩, ⟨some 69, .un .not (.t 68), some (63, false), []⟩, ⟨some 70, .pick (.t 63) (.c (.bool true)) (.t 69), some (61, true), []⟩, ⟨some 71, .pick (.t 61) (.t 70) (.c (.bool false)), none, []⟩])
         (.drop [13, 59, 60, 61, 62, 63, 64, 65, 66, 67, 68, 69, 70]
          (.pack [1, 5, 6, 7, 8, 9, 12, 71]
           (.cond (.t 71)
             (.drop [1, 5, 6, 7, 8, 9, 12, 71]
              (.seq
               (.region false [] [⟨some 4, .mov (.c (.bool false)), none, []⟩])
              .ret))
             (.drop [71]
              .skip)))))
        (.seq
         (.region false [] [⟨some 72, .ld true 19 (.t 9), none, [9]⟩, ⟨none, .st 19 (.t 5) (.t 72), none, [72]⟩])
        (.seq
         (.seq
          (.region false [] [⟨some 73, .mov (.t 12), none, [12]⟩])
         (.cond (.t 73)
           (.drop [73]
            (.seq
             (.seq
              (.region false [] [⟨some 74, .mov (.t 6), none, []⟩, ⟨some 75, .len false (.t 74), none, []⟩, ⟨some 76, .mov (.c (.int .i64 0)), none, []⟩])
             (.block 2
              (.loop [1, 5, 6, 7, 8, 74, 75, 76]
               (.seq
                (.region false [] [⟨some 77, .bin false .lss (.t 76) (.t 75), none, []⟩])
               (.seq
                (.cond (.t 77)
                  (.drop [77]
                   .skip)
                  (.drop [74, 75, 76, 77]
                   (.exit 2)))
               (.seq
                (.block 3
                 (.seq
                  (.region false [] [⟨some 78, .iax 3 (.t 74) (.t 76), none, []⟩, ⟨some 79, .ld true 3 (.t 78), none, [78]⟩, ⟨some 15, .alloc [.int .i64 0, .int .u8 0, .int .i64 0], none, []⟩, ⟨none, .st 3 (.t 15) (.t 79), none, [79]⟩])
                 (.seal_ 15
                  (.seq
                   (.region false [] [⟨some 80, .ld true 3 (.t 15), none, [15]⟩, ⟨some 81, .fad 0 (.t 8), none, []⟩, ⟨some 82, .ld true 3 (.t 81), none, [81]⟩, ⟨some 83, .eqs false [.i, .i, .i] (.t 80) (.t 82), none, [80, 82]⟩])
                  (.cond (.t 83)
                    (.drop [1, 5, 6, 7, 8, 74, 75, 76, 83]
                     (.seq
                      (.region false [] [⟨some 4, .mov (.c (.bool false)), none, []⟩])
                     .ret))
                    (.drop [83]
                     .skip))))))
               (.region false [] [⟨some 84, .bin false .add (.t 76) (.c (.int .i64 1)), none, [76]⟩, ⟨some 76, .mov (.t 84), none, [84]⟩])))))))
            (.region false [] [⟨some 85, .mov (.t 6), none, [6]⟩, ⟨some 86, .fad 0 (.t 8), none, [8]⟩, ⟨some 87, .ld true 3 (.t 86), none, [86]⟩, ⟨some 88, .bsl 30 3 [.t 87], none, [87]⟩, ⟨some 89, .app 30 3 24 (.t 85) (.t 88), none, [85, 88]⟩, ⟨some 6, .mov (.t 89), none, [89]⟩])))
           (.drop [8, 73]
            .skip)))
        (.seq
         (.region false [] [⟨some 16, .alloc [.int .i64 0, .int .i64 0, .int .i64 0, .int .i64 0, .int .i64 0, .int .i64 0, .int .i64 0, .int .i64 0, .int .i64 0, .int .i64 0, .int .i64 0, .int .i64 0, .int .i64 0, .int .i64 0, .int .i64 0, .int .i64 0], none, []⟩])
        (.seq
         (.region false [] [⟨some 90, .fad 18 (.t 5), none, []⟩, ⟨some 91, .ld false 1 (.t 90), none, [90]⟩, ⟨some 92, .len false (.t 91), none, []⟩, ⟨some 93, .mov (.c (.int .i64 0)), none, []⟩])
        (.block 4
         (.loop [1, 5, 6, 7, 16, 91, 92, 93]
          (.seq
           (.region false [] [⟨some 94, .bin false .lss (.t 93) (.t 92), none, []⟩])
          (.seq
           (.cond (.t 94)
             (.drop [94]
              .skip)
             (.drop [16, 91, 92, 93, 94]
              (.exit 4)))
          (.seq
           (.block 5
            (.seq
             (.region false [] [⟨some 95, .iax 7 (.t 91) (.t 93), none, []⟩, ⟨some 96, .ld true 7 (.t 95), none, [95]⟩, ⟨some 18, .alloc [.int .u8 0, .int .i64 0, .bool false, .bool false, .bool false, .slice none 0 0, .slice none 0 0], none, []⟩, ⟨none, .st 7 (.t 18) (.t 96), none, [96]⟩])
            (.seal_ 18
             (.seq
              (.region false [] [⟨some 97, .fad 0 (.t 18), none, []⟩, ⟨some 98, .ld false 1 (.t 97), none, [97]⟩, ⟨some 99, .bin false .rem (.t 98) (.c (.int .u8 16)), none, [98]⟩, ⟨some 100, .iaa 16 1 (.t 16) (.t 99), none, []⟩, ⟨some 101, .ld false 1 (.t 100), none, [100]⟩, ⟨some 102, .bin false .add (.t 101) (.c (.int .i64 1)), none, [101]⟩, ⟨some 103, .iaa 16 1 (.t 16) (.t 99), none, [99]⟩, ⟨none, .st 1 (.t 103) (.t 102), none, [102, 103]⟩])
             (.seq
              (.region false [] [⟨some 104, .fad 0 (.t 18), none, [18]⟩, ⟨some 105, .ld false 1 (.t 104), none, [104]⟩, ⟨some 106, .bin false .rem (.t 105) (.c (.int .u8 16)), none, [105]⟩, ⟨some 107, .iaa 16 1 (.t 16) (.t 106), none, [106]⟩, ⟨some 108, .ld false 1 (.t 107), none, [107]⟩, ⟨some 109, .bin false .gtr (.t 108) (.c (.int .i64 8)), none, [108]⟩])
             (.cond (.t 109)
               (.drop [1, 5, 6, 7, 16, 91, 92, 93, 109]
                (.seq
                 (.region false [] [⟨some 4, .mov (.c (.bool false)), none, []⟩])
                .ret))
               (.drop [109]
                .skip)))))))
          (.region false [] [⟨some 110, .bin false .add (.t 93) (.c (.int .i64 1)), none, [93]⟩, ⟨some 93, .mov (.t 110), none, [110]⟩])))))))))))))))))
    (.region false [] [⟨some 33, .mov (.t 7), none, [7]⟩, ⟨some 34, .bin false .add (.t 33) (.c (.int .i64 1)), none, [33]⟩, ⟨some 7, .mov (.t 34), none, [34]⟩]))))))
 (.seq
  (.seq
   (.region false [] [⟨some 111, .mov (.c (.int .u8 0)), none, []⟩])
  (.block 6
   (.loop [5, 6, 111]
    (.seq
     (.region false [] [⟨some 112, .bin false .lss (.t 111) (.c (.int .u8 16)), none, []⟩])
    (.seq
     (.cond (.t 112)
       (.drop [112]
        .skip)
       (.drop [5, 6, 111, 112]
        (.exit 6)))
    (.seq
     (.block 7
      (.seq
       (.region false [] [⟨some 113, .mov (.t 111), none, []⟩, ⟨some 19, .mov (.t 113), none, [113]⟩])
      (.seq
       (.region false [] [⟨some 20, .mov (.c (.int .i64 0)), none, []⟩])
      (.seq
       (.block 8
        (.loop [5, 6, 19, 20, 111]
         (.seq
          (.seq
           (.region false [] [⟨some 114, .mov (.t 20), none, []⟩, ⟨some 115, .bin false .lss (.t 114) (.c (.int .i64 1000)), none, [114]⟩, ⟨some 116, .mov (.t 115), none, [115]⟩, ⟨some 117, .mov (.t 6), some (116, true), []⟩, ⟨some 118, .mov (.t 19), some (116, true), []⟩, ⟨some 119, .mov (.t 20), some (116, true), []⟩, ⟨some 120, .bld [.int .i64 0, .int .u8 0, .int .i64 0] [(1, 1, .t 118), (2, 1, .t 119)], some (116, true), [118, 119]⟩, ⟨some 121, .call 20 [.t 117, .t 120], some (116, true), [117, 120]⟩, ⟨some 122, .pick (.t 116) (.t 121) (.c (.bool false)), none, [116, 121]⟩])
          (.cond (.t 122)
            (.drop [122]
             .skip)
            (.drop [122]
             (.exit 8))))
         (.block 9
          (.region false [] [⟨some 123, .mov (.t 20), none, [20]⟩, ⟨some 124, .bin false .add (.t 123) (.c (.int .i64 1)), none, [123]⟩, ⟨some 20, .mov (.t 124), none, [124]⟩])))))
      (.seq
       (.region false [] [⟨some 125, .mov (.t 20), none, [20]⟩, ⟨some 126, .mov (.t 19), none, [19]⟩, ⟨some 127, .fad 2 (.t 5), none, []⟩, ⟨some 128, .iaa 16 1 (.t 127) (.t 126), none, [126, 127]⟩, ⟨some 129, .ld false 1 (.t 128), none, [128]⟩, ⟨some 130, .cvt .i64 (.t 129), none, [129]⟩, ⟨some 131, .bin false .neq (.t 125) (.t 130), none, [125, 130]⟩])
      (.cond (.t 131)
        (.drop [5, 6, 111, 131]
         (.seq
          (.region false [] [⟨some 4, .mov (.c (.bool false)), none, []⟩])
         .ret))
        (.drop [131]
         .skip)))))))
    (.region false [] [⟨some 132, .bin false .add (.t 111) (.c (.int .u8 1)), none, [111]⟩, ⟨some 111, .mov (.t 132), none, [132]⟩])))))))
 (.seq
  (.region false [] [⟨some 4, .mov (.c (.bool true)), none, []⟩])
 .ret)))))))
def rs_5 : List ARes := [.tmp 4]
theorem g_5 : Good Try.prog 5 ac_5 rs_5 := ⟨Try.f5, Try.f5.body.getD .skip, by kernel_rfl, by kernel_rfl, by kernel_rfl, ⟨by kernel_rfl, by kernel_rfl⟩, by kernel_rfl, by kernel_rfl⟩
theorem ok_5 {Γ : Env} (hΓ : EnvOk Try.prog Γ) (sp : Spec) (h : WB Γ ac_5 rs_5 sp) : CallOk Try.prog 5 sp := g_5.ok hΓ mix_ok sp h

end Go.Proofs.Ytkbgndebfcjojaa.Am
namespace Go.Proofs.Ytkbgndebfcjojaa.Am
set_option linter.unusedSimpArgs false
set_option linter.unusedVariables false
open Go Go.Proofs
attribute [local irreducible] wpA
attribute [-simp] splice fix1

theorem fix1_ops (l : List Op) : fix1 7 (.fsl 7 (l.map avOp)) = .fsl 7 (l.map avOp) := by cases l <;> simp [fix1]

/-! ### Sixteen counts -/
def vi (l : List Nat) : List AV := l.map fun (n : Nat) => AV.v (.int .i64 n)
theorem vi_cons (n : Nat) (l : List Nat) : vi (n :: l) = .v (.int .i64 n) :: vi l := rfl
theorem vi_length (l : List Nat) : (vi l).length = l.length := by simp [vi]
theorem vi_one (l : List Nat) : (vi l).all AV.one = true := by simp [vi, AV.one, Value.oneCell']
theorem vi_bare : ∀ l : List Nat, AV.isBareAll (vi l) = true
  | [] => rfl
  | n :: l => by rw [vi_cons]; simp [AV.isBareAll, AV.isBare, vi_bare l]
theorem vi_frz (m : List Blk) : ∀ l : List Nat, AV.frzAll m (vi l) = vi l
  | [] => rfl
  | n :: l => by rw [vi_cons]; simp [AV.frzAll, AV.frz, vi_frz m l]
theorem vi_res (m : List Blk) : ∀ l : List Nat, AV.resAll m (vi l) = vi l
  | [] => rfl
  | n :: l => by rw [vi_cons]; simp [AV.resAll, AV.res, vi_res m l]
theorem vi_mapId (f : Nat → Nat) : ∀ l : List Nat, AV.mapIdAll f (vi l) = vi l
  | [] => rfl
  | n :: l => by rw [vi_cons]; simp [AV.mapIdAll, AV.mapId, vi_mapId f l]
theorem vi_ids : ∀ l : List Nat, AV.idsAll (vi l) = []
  | [] => rfl
  | n :: l => by rw [vi_cons]; simp [AV.idsAll, AV.ids, vi_ids l]
theorem vi_slices : ∀ l : List Nat, AV.slicesAll (vi l) = []
  | [] => rfl
  | n :: l => by rw [vi_cons]; simp [AV.slicesAll, AV.slices, vi_slices l]
theorem vi_at {l : List Nat} {i n : Nat} (h : l[i]? = some n) : ((vi l).drop i).take 1 = [.v (.int .i64 (n : Nat))] := take_drop_one (by simp [vi, h])
theorem vi_put (l : List Nat) (i n : Nat) (h : i < l.length) : splice (vi l) i [.v (.int .i64 (n : Nat))] = vi (l.set i n) := by
  unfold splice vi
  rw [List.map_set, List.set_eq_take_append_cons_drop, if_pos (by simpa using h)]
  simp
def zI : List Nat := List.replicate 16 0
theorem lit16i : [AV.v (.int .i64 0), AV.v (.int .i64 0), AV.v (.int .i64 0), AV.v (.int .i64 0), AV.v (.int .i64 0), AV.v (.int .i64 0), AV.v (.int .i64 0), AV.v (.int .i64 0), AV.v (.int .i64 0), AV.v (.int .i64 0), AV.v (.int .i64 0), AV.v (.int .i64 0), AV.v (.int .i64 0), AV.v (.int .i64 0), AV.v (.int .i64 0), AV.v (.int .i64 0)] = vi zI := rfl
attribute [simp] vi_length vi_one vi_bare vi_frz vi_res vi_mapId vi_ids vi_slices
attribute [simp high] lit16i
def cntV (l : List Op) : List Nat := (List.range 16).map fun f => (l.filter fun o => o.f == f).length
theorem cntV_length (l : List Op) : (cntV l).length = 16 := by simp [cntV]
theorem cntV_at (l : List Op) {f : Nat} (h : f < 16) : (cntV l)[f]? = some (l.filter fun o => o.f == f).length := by simp [cntV, h]
theorem cntV_more {l : List Op} {i : Nat} {x : Op} (hx : l[i]? = some x) (hf : x.f < 16) : cntV (l.take (i + 1)) = (cntV (l.take i)).set x.f (((l.take i).filter fun o => o.f == x.f).length + 1) := by
  rw [take_more hx]
  apply List.ext_getElem?
  intro k
  by_cases hk : k < 16
  · rw [cntV_at _ hk]
    by_cases e : x.f = k
    · subst e
      rw [List.getElem?_set_self (by rw [cntV_length]; exact hf)]
      simp [List.filter_append]
    · rw [List.getElem?_set_ne e, cntV_at _ hk]
      simp [List.filter_append, e]
  · rw [List.getElem?_eq_none (by rw [cntV_length]; omega), List.getElem?_eq_none (by rw [List.length_set, cntV_length]; omega)]

/-! ### The law -/
def BD (D : List Nm) (B : Blk) : Prop := B = .arr 30 3 (D.map avNm) ∨ B = .frz (.fsl 3 (D.map avNm))
/-- The names that were delivered. -/
structure Told (t : Tb) (D : List Nm) : Prop where
  ok : ∀ n ∈ D, n.v = 0 ∧ 0 ≤ n.q
  is : ∀ f q, 0 ≤ q → (⟨0, f, q⟩ ∈ D ↔ Dlv t f q)
theorem told_zero (m : Nat) : Told ⟨0, m, zV, []⟩ [] := ⟨by simp, fun f q h => by
  simp only [List.not_mem_nil, Dlv, base_zV, false_and, exists_false, or_false, false_iff]; simp; omega⟩
theorem told_no {t : Tb} {D : List Nm} {n : Nm} {k : Int} {w : Nat} {s : ByteArray} (hm : t.m < 65536) (hb : okV t.b) (h : Told t D) (hi : (takeT t n k w s).i = false) : Told (takeT t n k w s).t D := by
  rcases take_ways t n k w s with ⟨_, e⟩ | ⟨hx, _⟩
  · rw [e]; exact h
  · refine ⟨h.ok, fun f q h0 => ?_⟩
    rw [h.is f q h0, (take_dlv hm hb hx).2 f q h0, hi]
    simp
theorem told_yes {t : Tb} {D : List Nm} {n : Nm} {k : Int} {w : Nat} {s : ByteArray} (hm : t.m < 65536) (hb : okV t.b) (h : Told t D) (hv : t.v = 0) (hi : (takeT t n k w s).i = true) : Told (takeT t n k w s).t (D ++ [n]) ∧ n ∉ D := by
  rcases take_ways t n k w s with ⟨_, e⟩ | ⟨hx, hy, _⟩
  · rw [e] at hi; cases hi
  · obtain ⟨_, h1, _, h2, _⟩ := may_zero hy
    have hD := take_dlv hm hb hx
    obtain ⟨nv, nf, nq⟩ := n
    simp only at h1 h2
    rw [hv] at h1
    subst h1
    refine ⟨⟨fun n hn => ?_, fun f q h0 => ?_⟩, fun hn => hD.1 hi ((h.is nf nq h2).1 hn)⟩
    · rcases List.mem_append.1 hn with hn | hn
      · exact h.ok n hn
      · rw [List.mem_singleton.1 hn]; exact ⟨rfl, h2⟩
    · rw [hD.2 f q h0, ← h.is f q h0, hi]
      simp
noncomputable def spTableOnce : Spec := sp2 (avI .u16) avAcs (fun m l => (0 ≤ m ∧ m < 65536) ∧ (∀ a ∈ l, okAc a) ∧ l.length ≤ 9223372036854775807) fun _ _ => .v (.bool true)
set_option maxHeartbeats 32000000 in
theorem tableOnce_ok : CallOk Try.prog 5 spTableOnce := by
  refine ok_5 (Env.put_ok [] (Env.put_ok [] (Env.put_ok [] (Env.put_ok [] (Env.put_ok [] (Env.none_ok _) alive_ok) (CallOk.fixD fxTb takeT_ok)) (CallOk.fixD fxTb ours8_ok)) same8_ok) (CallOk.borrow (g_20).enters told_ok)) spTableOnce (wb_sp2 ?_)
  intro m0 l ⟨⟨hm0, hm1⟩, hl, hll⟩
  obtain ⟨m, rfl⟩ : ∃ m : Nat, m0 = (m : Int) := ⟨m0.toNat, by omega⟩
  have hm : m < 65536 := by omega
  simp only [avI, avAcs]
  unfold ac_5
  repeat' with_reducible first
  | refine stp ?_ | refine seg_both ?_ ?_ | refine seg_case (fun x h => ?_) (fun h => ?_) | refine seg_gate (fun h => ?_) (fun h => ?_) | refine seg_need ?_ ?_ | refine cond_v (fun h => ?_) (fun h => ?_)
  | refine seg_eval (by simp -dsimp -implicitDefEqProofs [spAlive, zV_length]; rfl) ?_
  refine wp_loopR (fun ts mm => ∃ (t : Tb) (x : AV) (D : List Nm), bT 80 t ∧ rightT t = true ∧ TX t.os x ∧ t.v = 0 ∧ D.length ≤ 80 ∧ Told t D ∧
      ts = [(5, .ptr 0 0 0), (6, .osl 1)] ∧ mm = [.var (tc t.v (t.m : Nat) t.b x), .arr 30 3 (D.map avNm)])
    (fun j ts mm => ∃ (i : Nat) (t : Tb) (x : AV) (D : List Nm), i + j = 80 ∧ bT i t ∧ rightT t = true ∧ TX t.os x ∧ t.v = 0 ∧ D.length ≤ i ∧ Told t D ∧
      ts = [(1, .fsl 6 (l.map avAc)), (5, .ptr 0 0 0), (6, .osl 1), (7, .v (.int .i64 i))] ∧ mm = [.var (tc t.v (t.m : Nat) t.b x), .arr 30 3 (D.map avNm)]) 80 ?_ ?_ ?_
  · exact ⟨[(6, 30, 3)], [0, 1], by simp [zV_length], by simp, 0, ⟨0, m, zV, []⟩, _, [], rfl, bT_zero hm, right_zT m, .inr ⟨rfl, rfl⟩, rfl, by simp, told_zero m, by simp, by simp [zV_length]⟩
  · rintro W hW j ts mm ⟨i, ⟨v, tm, b, os⟩, x, D, hij, hbT, hR, hx, hv0, hDl, hD, rfl, rfl⟩
    have hbl := hbT.2.1.1
    simp only at hbl hx hv0
    subst hv0
    have x1 := hx.facts
    by_cases q1 : i < l.length
    · have d1 : decide ((i : Int) < (l.length : Int)) = true := by rw [decide_eq_true_eq]; omega
      have d1' : decide (i < l.length) = true := by simp [q1]
      by_cases q2 : i < 80
      · have d2 : decide ((i : Int) < 80) = true := by rw [decide_eq_true_eq]; omega
        have d2' : decide (i < 80) = true := by simp [q2]
        have h64 : IntKind.wrap .i64 ((i : Int) + 1) = ((i + 1 : Nat) : Int) := by rw [IntWalk.i64_in _ (by omega)]; rfl
        obtain ⟨a, ha⟩ : ∃ a, l[i]? = some a := ⟨_, List.getElem?_eq_getElem q1⟩
        obtain ⟨hnf, hnq, hw⟩ := hl a (List.mem_of_getElem? ha)
        obtain ⟨⟨nv, nf, nq⟩, k, w, s⟩ := a
        simp only at hnf hnq hw
        have hnf2 : (nf : Int) < 256 := by omega
        have hw2 : (w : Int) < 256 := by omega
        by_cases hs : 1100 < s.size
        · have c1 : decide (1100 < s.size) = true := by simp [hs]
          have c1' : decide ((1100 : Int) < (s.size : Int)) = true := by rw [decide_eq_true_eq]; omega
          repeat' with_reducible first
          | refine stm ?_ | refine seg_both ?_ ?_ | refine seg_case (fun x h => ?_) (fun h => ?_) | refine seg_gate (fun h => ?_) (fun h => ?_) | refine seg_need ?_ ?_ | refine cond_v (fun h => ?_) (fun h => ?_)
          | refine seg_eval (by simp -dsimp -implicitDefEqProofs [avAc, d1, d1', d2, d2', ha, c1, c1', h64]; rfl) ?_
          all_goals first
            | omega
            | exact ⟨j - 1, by omega, [], [0, 1], by simp [x1, hbl], by simp, i + 1, ⟨0, tm, b, os⟩, x, D, by omega, bT_up hbT (Nat.le_succ i), hR, hx, rfl, by omega, hD, by simp, by simp [x1]⟩
            | trace_state
        · have c1 : decide (1100 < s.size) = false := by simp; omega
          have c1' : decide ((1100 : Int) < (s.size : Int)) = false := by rw [decide_eq_false_iff_not]; omega
          have hok := bT_ok hbT (by omega)
          have hB := take_b hbT ⟨nv, nf, nq⟩ k w s hnf
          have hT := bT_ok hB (by omega)
          have hR2 := take_right (n := ⟨nv, nf, nq⟩) (k := k) (w := w) (s := s) hbT.1 hbT.2.1 hR
          have hap := (take_apart (n := ⟨nv, nf, nq⟩) (k := k) (w := w) (s := s) hbT.1 hbT.2.1).1
          have hno := told_no (n := ⟨nv, nf, nq⟩) (k := k) (w := w) (s := s) hbT.1 hbT.2.1 hD
          have hyes := told_yes (n := ⟨nv, nf, nq⟩) (k := k) (w := w) (s := s) hbT.1 hbT.2.1 hD rfl
          have hways : (takeT ⟨0, tm, b, os⟩ ⟨nv, nf, nq⟩ k w s).x ≠ 0 → takeT ⟨0, tm, b, os⟩ ⟨nv, nf, nq⟩ k w s = failT ⟨0, tm, b, os⟩ (takeT ⟨0, tm, b, os⟩ ⟨nv, nf, nq⟩ k w s).x := fun h => by
            rcases take_ways ⟨0, tm, b, os⟩ ⟨nv, nf, nq⟩ k w s with ⟨_, e⟩ | ⟨e, _⟩
            · exact e
            · exact absurd e h
          obtain ⟨r, hr⟩ : ∃ r, takeT ⟨0, tm, b, os⟩ ⟨nv, nf, nq⟩ k w s = r := ⟨_, rfl⟩
          rw [hr] at hB hT hR2 hap hno hyes hways
          obtain ⟨⟨rv, rm, rb, ros⟩, ro, rs, ri, rx⟩ := r
          simp only at hB hT hR2 hap hno hyes hways
          subst hap
          have hrb := hT.2.1.1
          simp only at hrb
          repeat' with_reducible first
          | refine stm ?_ | refine seg_both ?_ ?_ | refine seg_case (fun x h => ?_) (fun h => ?_) | refine seg_gate (fun h => ?_) (fun h => ?_) | refine seg_need ?_ ?_ | refine cond_v (fun h => ?_) (fun h => ?_)
          | refine seg_eval (by simp -dsimp -implicitDefEqProofs [avAc, d1, d1', d2, d2', ha, c1, c1', x1, hbl, hrb, zV_length, spTakeT, hok, hnf, hw2, hr, avTt, avTb, Int.toNat_natCast, fxTb]; rfl) ?_
          all_goals try first
            | omega
            | exact hok
          refine wp_drawsRS (fun ts mm => ts = [(1, .fsl 6 (l.map avAc)), (5, .ptr 0 0 0), (6, .osl 1), (7, .v (.int .i64 i)), (8, .fptr (.agg [.v (.int .i64 nv), .v (.int .u8 (nf : Nat)), .v (.int .i64 nq), .v (.int .i64 k), .v (.int .u8 (w : Nat)), .v (.string s)]) 0),
              (9, .fptr (.agg (tc 0 (rm : Nat) rb (.fsl 7 (ros.map avOp)))) 0), (12, .v (.bool ri)), (71, .v (.bool false))] ∧ mm = [.var (tc 0 (tm : Nat) b x), .arr 30 3 (D.map avNm)]) ?_ ?_
          · intro W hW
            by_cases q5 : rx = 0
            · subst q5
              repeat' with_reducible first
              | refine stp ?_ | refine seg_both ?_ ?_ | refine seg_case (fun x h => ?_) (fun h => ?_) | refine seg_gate (fun h => ?_) (fun h => ?_) | refine seg_need ?_ ?_ | refine cond_v (fun h => ?_) (fun h => ?_)
              | refine seg_eval (by simp -dsimp -implicitDefEqProofs [hrb, hbl, x1]; rfl) ?_
              all_goals first
                | omega
                | (refine hW _ _ ⟨[], [0, 1], ?_, ?_, ?_, ?_⟩ <;> (simp [hrb, hbl, x1]; done))
                | trace_state
            · have e := hways q5
              simp only [failT, Tt.mk.injEq, Tb.mk.injEq, true_and, and_true] at e
              obtain ⟨⟨rfl, rfl, rfl⟩, rfl, rfl, rfl⟩ := e
              have hss : same (⟨0, rm, rb, ros⟩ : Tb) ⟨0, rm, rb, ros⟩ = true := same_self _
              have d5 : (rx == 0) = false := by simp [q5]
              have d5' : (rx != 0) = true := by simp [q5]
              repeat' with_reducible first
              | refine stp ?_ | refine seg_both ?_ ?_ | refine seg_case (fun x h => ?_) (fun h => ?_) | refine seg_gate (fun h => ?_) (fun h => ?_) | refine seg_need ?_ ?_ | refine cond_v (fun h => ?_) (fun h => ?_)
              | refine seg_eval (by simp -dsimp -implicitDefEqProofs [hrb, x1, d5, d5', spConvT, avTb, hT, fxTb, fix1_ops, spSame8, hss]; rfl) ?_
              all_goals first
                | omega
                | exact hT
                | (refine hW _ _ ⟨[], [0, 1], ?_, ?_, ?_, ?_⟩ <;> (simp [hrb, x1]; done))
                | trace_state
          · rintro ts mm ⟨rfl, rfl⟩
            have hz0 : cntV [] = zI := by decide
            have hright := right_all hR2
            simp only at hright
            cases ri
            case false =>
              have hD' := hno rfl
              repeat' with_reducible first
              | refine stm ?_ | refine seg_both ?_ ?_ | refine seg_case (fun x h => ?_) (fun h => ?_) | refine seg_gate (fun h => ?_) (fun h => ?_) | refine seg_need ?_ ?_ | refine cond_v (fun h => ?_) (fun h => ?_)
              | refine seg_eval (by simp -dsimp -implicitDefEqProofs [hrb, hbl, x1]; rfl) ?_
              all_goals try omega
              refine wp_loop' (fun j' ts mm => ∃ u : Nat, u + j' = ros.length ∧ ts = [(1, .fsl 6 (l.map avAc)), (5, .ptr 0 0 0), (6, .osl 1), (7, .v (.int .i64 i)), (16, .ptr 2 0 0),
                  (91, .fsl 7 (ros.map avOp)), (92, .v (.int .i64 ros.length)), (93, .v (.int .i64 u))] ∧
                  mm = [.var (tc 0 (rm : Nat) rb (.fsl 7 (ros.map avOp))), .arr 30 3 (D.map avNm), .var (vi (cntV (ros.take u)))]) ros.length ?_ ?_
              · first
                | exact ⟨[], [0, 1, 2], by simp [hrb], by simp, 0, by omega, by simp, by simp [avNm, hz0]⟩
                | exact ⟨[], [0, 1, 3], by simp [hrb], by simp, 0, by omega, by simp, by simp [avNm, hz0]⟩
                | exact ⟨[], [0, 1, 4], by simp [hrb], by simp, 0, by omega, by simp, by simp [avNm, hz0]⟩
                | trace_state
              · rintro j' ts mm ⟨u, hu, rfl, rfl⟩
                by_cases q7 : u < ros.length
                · have d7 : decide ((u : Int) < (ros.length : Int)) = true := by rw [decide_eq_true_eq]; omega
                  have d7' : decide (u < ros.length) = true := by simp [q7]
                  have h64u : IntKind.wrap .i64 ((u : Int) + 1) = ((u + 1 : Nat) : Int) := by rw [IntWalk.i64_in _ (by have := hT.2.2.1; simp only at this; omega)]; rfl
                  obtain ⟨y, hy⟩ : ∃ y, ros[u]? = some y := ⟨_, List.getElem?_eq_getElem q7⟩
                  have hyf := has_lt hT.1 (rightO_iff.1 (hright y (List.mem_of_getElem? hy))).1
                  have hc1 := cntV_at (ros.take u) hyf
                  have hc2 := cntV_more hy hyf
                  have hc3 := few_open hT.1 hR2 y.f (u + 1)
                  have hc4 := cntV_at (ros.take (u + 1)) hyf
                  have hcl := cntV_length (ros.take u)
                  have hcl2 := cntV_length (ros.take (u + 1))
                  simp only at hc3
                  obtain ⟨n, hn⟩ : ∃ n, ((ros.take u).filter fun o => o.f == y.f).length = n := ⟨_, rfl⟩
                  obtain ⟨n', hn'⟩ : ∃ n', ((ros.take (u + 1)).filter fun o => o.f == y.f).length = n' := ⟨_, rfl⟩
                  rw [hn] at hc1 hc2
                  rw [hn'] at hc3 hc4
                  have hnn : n' = n + 1 := by
                    have := hc4
                    rw [hc2, List.getElem?_set_self (by rw [hcl]; exact hyf)] at this
                    exact (Option.some.inj this).symm
                  rw [← hnn] at hc2
                  obtain ⟨C, hC⟩ : ∃ C, cntV (ros.take u) = C := ⟨_, rfl⟩
                  obtain ⟨C', hC'⟩ : ∃ C', cntV (ros.take (u + 1)) = C' := ⟨_, rfl⟩
                  rw [hC] at hc1 hc2 hcl
                  rw [hC'] at hc2 hc4 hcl2
                  obtain ⟨yf, yq, ⟨ye, yr, yd, yes, yrs⟩⟩ := y
                  simp only at hyf hc1 hc2 hc4
                  have g1 : IntKind.wrap .i64 ((n : Int) + 1) = (n' : Int) := by rw [IntWalk.i64_in _ (by omega)]; omega
                  have g2 := vi_at hc1
                  have g3 := vi_at hc4
                  have g4 : splice (vi C) yf [.v (.int .i64 (n' : Nat))] = vi C' := by rw [hc2]; exact vi_put C yf n' (by omega)
                  have g5 : decide ((8 : Int) < (n' : Int)) = false := by rw [decide_eq_false_iff_not]; omega
                  have g5' : decide (8 < n') = false := by rw [decide_eq_false_iff_not]; omega
                  have hyi : (yf : Int) < 16 := by omega
                  have hmod : Int.tmod (yf : Int) 16 = (yf : Int) := by rw [Int.tmod_eq_emod_of_nonneg (Int.natCast_nonneg _)]; omega
                  have hy15 : yf ≤ 15 := by omega
                  clear hc1 hc2 hc4 hn hn'
                  repeat' with_reducible first
                  | refine stp ?_ | refine seg_both ?_ ?_ | refine seg_case (fun x h => ?_) (fun h => ?_) | refine seg_gate (fun h => ?_) (fun h => ?_) | refine seg_need ?_ ?_ | refine cond_v (fun h => ?_) (fun h => ?_)
                  | refine seg_eval (by simp -dsimp -implicitDefEqProofs [avOp, cOp, d7, d7', hy, hrb, hC, hcl, hcl2, hmod, hyi, hyf, hy15, g1, g2, g3, g4, g5, g5', h64u, Int.toNat_natCast]; rfl) ?_
                  all_goals first
                    | omega
                    | exact ⟨j' - 1, by omega, [], [0, 1, 2], by simp [hrb, hcl2], by simp, u + 1, by omega, by simp [avOp, cOp], by simp [avOp, cOp, hC']⟩
                    | trace_state
                · have d7 : decide ((u : Int) < (ros.length : Int)) = false := by rw [decide_eq_false_iff_not]; omega
                  have d7' : decide (u < ros.length) = false := by simp [q7]
                  repeat' with_reducible first
                  | refine stp ?_ | refine seg_both ?_ ?_ | refine seg_case (fun x h => ?_) (fun h => ?_) | refine seg_gate (fun h => ?_) (fun h => ?_) | refine seg_need ?_ ?_ | refine cond_v (fun h => ?_) (fun h => ?_)
                  | refine seg_eval (by simp -dsimp -implicitDefEqProofs [d7, d7', h64, hrb]; rfl) ?_
                  all_goals first
                    | omega
                    | exact ⟨j - 1, by omega, [], [0, 1], by simp [hrb], by simp, i + 1, ⟨0, rm, rb, ros⟩, _, D, by omega, hB, hR2, .inl rfl, rfl, by first | omega | (simp; omega), hD', by simp, by simp⟩
                    | trace_state
            case true =>
              obtain ⟨hD', hnD⟩ := hyes rfl
              repeat' with_reducible first
              | refine stm ?_ | refine seg_both ?_ ?_ | refine seg_case (fun x h => ?_) (fun h => ?_) | refine seg_gate (fun h => ?_) (fun h => ?_) | refine seg_need ?_ ?_ | refine cond_v (fun h => ?_) (fun h => ?_)
              | refine seg_eval (by simp -dsimp -implicitDefEqProofs [hrb, hbl, x1]; rfl) ?_
              all_goals try omega
              refine wp_loopR (fun ts mm => ts = [(1, .fsl 6 (l.map avAc)), (5, .ptr 0 0 0), (6, .osl 1), (7, .v (.int .i64 i)), (8, .fptr (.agg [.v (.int .i64 nv), .v (.int .u8 (nf : Nat)), .v (.int .i64 nq), .v (.int .i64 k), .v (.int .u8 (w : Nat)), .v (.string s)]) 0)] ∧
                  mm = [.var (tc 0 (rm : Nat) rb (.fsl 7 (ros.map avOp))), .arr 30 3 (D.map avNm)])
                (fun j' ts mm => ∃ u : Nat, u + j' = D.length ∧ ts = [(1, .fsl 6 (l.map avAc)), (5, .ptr 0 0 0), (6, .osl 1), (7, .v (.int .i64 i)), (8, .fptr (.agg [.v (.int .i64 nv), .v (.int .u8 (nf : Nat)), .v (.int .i64 nq), .v (.int .i64 k), .v (.int .u8 (w : Nat)), .v (.string s)]) 0),
                  (74, .osl 1), (75, .v (.int .i64 D.length)), (76, .v (.int .i64 u))] ∧ mm = [.var (tc 0 (rm : Nat) rb (.fsl 7 (ros.map avOp))), .arr 30 3 (D.map avNm)]) D.length ?_ ?_ ?_
              · exact ⟨[], [0, 1], by simp [hrb], by simp, 0, by omega, by simp, by simp⟩
              · rintro W hW j' ts mm ⟨u, hu, rfl, rfl⟩
                by_cases q7 : u < D.length
                · have d7 : decide ((u : Int) < (D.length : Int)) = true := by rw [decide_eq_true_eq]; omega
                  have d7' : decide (u < D.length) = true := by simp [q7]
                  have h64u : IntKind.wrap .i64 ((u : Int) + 1) = ((u + 1 : Nat) : Int) := by rw [IntWalk.i64_in _ (by omega)]; rfl
                  obtain ⟨y, hy⟩ : ∃ y, D[u]? = some y := ⟨_, List.getElem?_eq_getElem q7⟩
                  have heq := nm_eq (x := y) (y := ⟨nv, nf, nq⟩)
                  rw [same_no (fun e : y = ⟨nv, nf, nq⟩ => hnD (by rw [← e]; exact List.mem_of_getElem? hy))] at heq
                  obtain ⟨yv, yf, yq⟩ := y
                  simp only at heq
                  have heq2 := heq
                  rw [int_nat] at heq2
                  repeat' with_reducible first
                  | refine stp ?_ | refine seg_both ?_ ?_ | refine seg_case (fun x h => ?_) (fun h => ?_) | refine seg_gate (fun h => ?_) (fun h => ?_) | refine seg_need ?_ ?_ | refine cond_v (fun h => ?_) (fun h => ?_)
                  | refine seg_eval (by simp -dsimp -implicitDefEqProofs [avNm, d7, d7', hy, eqCells_iii, heq, heq2, h64u, hrb]; rfl) ?_
                  all_goals first
                    | omega
                    | exact ⟨j' - 1, by omega, [], [0, 1], by simp [hrb], by simp, u + 1, by omega, by simp [avNm], by simp [avNm]⟩
                    | trace_state
                · have d7 : decide ((u : Int) < (D.length : Int)) = false := by rw [decide_eq_false_iff_not]; omega
                  have d7' : decide (u < D.length) = false := by simp [q7]
                  repeat' with_reducible first
                  | refine stp ?_ | refine seg_both ?_ ?_ | refine seg_case (fun x h => ?_) (fun h => ?_) | refine seg_gate (fun h => ?_) (fun h => ?_) | refine seg_need ?_ ?_ | refine cond_v (fun h => ?_) (fun h => ?_)
                  | refine seg_eval (by simp -dsimp -implicitDefEqProofs [d7, d7', hrb]; rfl) ?_
                  all_goals first
                    | omega
                    | exact hW _ _ ⟨rfl, rfl⟩
                    | trace_state
              rintro ts mm ⟨rfl, rfl⟩
              have hDl2 : D.length ≤ 80 := by omega
              have hDl3 : D.length + 1 ≤ 81 := by omega
              have hDs : (D.map avNm).all AV.shaped = true := map_shaped fun y _ => by simp [avNm, AV.shaped, AV.one, Value.oneCell']
              repeat' with_reducible first
              | refine stm ?_ | refine seg_both ?_ ?_ | refine seg_case (fun x h => ?_) (fun h => ?_) | refine seg_gate (fun h => ?_) (fun h => ?_) | refine seg_need ?_ ?_ | refine cond_v (fun h => ?_) (fun h => ?_)
              | refine seg_eval (by simp -dsimp -implicitDefEqProofs [hrb, hDl2, hDl3, hDs]; rfl) ?_
              all_goals try omega
              refine wp_loop' (fun j' ts mm => ∃ u : Nat, u + j' = ros.length ∧ ts = [(1, .fsl 6 (l.map avAc)), (5, .ptr 0 0 0), (6, .osl 1), (7, .v (.int .i64 i)), (16, .ptr 2 0 0),
                  (91, .fsl 7 (ros.map avOp)), (92, .v (.int .i64 ros.length)), (93, .v (.int .i64 u))] ∧
                  mm = [.var (tc 0 (rm : Nat) rb (.fsl 7 (ros.map avOp))), .arr 30 3 ((D ++ [(⟨nv, nf, nq⟩ : Nm)]).map avNm), .var (vi (cntV (ros.take u)))]) ros.length ?_ ?_
              · first
                | exact ⟨[], [0, 3, 4], by simp [hrb], by simp, 0, by omega, by simp, by simp [avNm, hz0]⟩
                | exact ⟨[], [0, 2, 3], by simp [hrb], by simp, 0, by omega, by simp, by simp [avNm, hz0]⟩
                | exact ⟨[], [0, 4, 5], by simp [hrb], by simp, 0, by omega, by simp, by simp [avNm, hz0]⟩
                | exact ⟨[], [0, 3, 5], by simp [hrb], by simp, 0, by omega, by simp, by simp [avNm, hz0]⟩
                | exact ⟨[], [0, 4, 6], by simp [hrb], by simp, 0, by omega, by simp, by simp [avNm, hz0]⟩
                | exact ⟨[], [0, 5, 6], by simp [hrb], by simp, 0, by omega, by simp, by simp [avNm, hz0]⟩
                | trace_state
              · rintro j' ts mm ⟨u, hu, rfl, rfl⟩
                by_cases q7 : u < ros.length
                · have d7 : decide ((u : Int) < (ros.length : Int)) = true := by rw [decide_eq_true_eq]; omega
                  have d7' : decide (u < ros.length) = true := by simp [q7]
                  have h64u : IntKind.wrap .i64 ((u : Int) + 1) = ((u + 1 : Nat) : Int) := by rw [IntWalk.i64_in _ (by have := hT.2.2.1; simp only at this; omega)]; rfl
                  obtain ⟨y, hy⟩ : ∃ y, ros[u]? = some y := ⟨_, List.getElem?_eq_getElem q7⟩
                  have hyf := has_lt hT.1 (rightO_iff.1 (hright y (List.mem_of_getElem? hy))).1
                  have hc1 := cntV_at (ros.take u) hyf
                  have hc2 := cntV_more hy hyf
                  have hc3 := few_open hT.1 hR2 y.f (u + 1)
                  have hc4 := cntV_at (ros.take (u + 1)) hyf
                  have hcl := cntV_length (ros.take u)
                  have hcl2 := cntV_length (ros.take (u + 1))
                  simp only at hc3
                  obtain ⟨n, hn⟩ : ∃ n, ((ros.take u).filter fun o => o.f == y.f).length = n := ⟨_, rfl⟩
                  obtain ⟨n', hn'⟩ : ∃ n', ((ros.take (u + 1)).filter fun o => o.f == y.f).length = n' := ⟨_, rfl⟩
                  rw [hn] at hc1 hc2
                  rw [hn'] at hc3 hc4
                  have hnn : n' = n + 1 := by
                    have := hc4
                    rw [hc2, List.getElem?_set_self (by rw [hcl]; exact hyf)] at this
                    exact (Option.some.inj this).symm
                  rw [← hnn] at hc2
                  obtain ⟨C, hC⟩ : ∃ C, cntV (ros.take u) = C := ⟨_, rfl⟩
                  obtain ⟨C', hC'⟩ : ∃ C', cntV (ros.take (u + 1)) = C' := ⟨_, rfl⟩
                  rw [hC] at hc1 hc2 hcl
                  rw [hC'] at hc2 hc4 hcl2
                  obtain ⟨yf, yq, ⟨ye, yr, yd, yes, yrs⟩⟩ := y
                  simp only at hyf hc1 hc2 hc4
                  have g1 : IntKind.wrap .i64 ((n : Int) + 1) = (n' : Int) := by rw [IntWalk.i64_in _ (by omega)]; omega
                  have g2 := vi_at hc1
                  have g3 := vi_at hc4
                  have g4 : splice (vi C) yf [.v (.int .i64 (n' : Nat))] = vi C' := by rw [hc2]; exact vi_put C yf n' (by omega)
                  have g5 : decide ((8 : Int) < (n' : Int)) = false := by rw [decide_eq_false_iff_not]; omega
                  have g5' : decide (8 < n') = false := by rw [decide_eq_false_iff_not]; omega
                  have hyi : (yf : Int) < 16 := by omega
                  have hmod : Int.tmod (yf : Int) 16 = (yf : Int) := by rw [Int.tmod_eq_emod_of_nonneg (Int.natCast_nonneg _)]; omega
                  have hy15 : yf ≤ 15 := by omega
                  clear hc1 hc2 hc4 hn hn'
                  repeat' with_reducible first
                  | refine stp ?_ | refine seg_both ?_ ?_ | refine seg_case (fun x h => ?_) (fun h => ?_) | refine seg_gate (fun h => ?_) (fun h => ?_) | refine seg_need ?_ ?_ | refine cond_v (fun h => ?_) (fun h => ?_)
                  | refine seg_eval (by simp -dsimp -implicitDefEqProofs [avOp, cOp, d7, d7', hy, hrb, hC, hcl, hcl2, hmod, hyi, hyf, hy15, g1, g2, g3, g4, g5, g5', h64u, Int.toNat_natCast]; rfl) ?_
                  all_goals first
                    | omega
                    | exact ⟨j' - 1, by omega, [], [0, 1, 2], by simp [hrb, hcl2], by simp, u + 1, by omega, by simp [avOp, cOp], by simp [avOp, cOp, hC']⟩
                    | trace_state
                · have d7 : decide ((u : Int) < (ros.length : Int)) = false := by rw [decide_eq_false_iff_not]; omega
                  have d7' : decide (u < ros.length) = false := by simp [q7]
                  repeat' with_reducible first
                  | refine stp ?_ | refine seg_both ?_ ?_ | refine seg_case (fun x h => ?_) (fun h => ?_) | refine seg_gate (fun h => ?_) (fun h => ?_) | refine seg_need ?_ ?_ | refine cond_v (fun h => ?_) (fun h => ?_)
                  | refine seg_eval (by simp -dsimp -implicitDefEqProofs [d7, d7', h64, hrb]; rfl) ?_
                  all_goals first
                    | omega
                    | exact ⟨j - 1, by omega, [], [0, 1], by simp [hrb], by simp, i + 1, ⟨0, rm, rb, ros⟩, _, (D ++ [(⟨nv, nf, nq⟩ : Nm)]), by omega, hB, hR2, .inl rfl, rfl, by first | omega | (simp; omega), hD', by simp, by simp⟩
                    | trace_state
      · have d2 : decide ((i : Int) < 80) = false := by rw [decide_eq_false_iff_not]; omega
        have d2' : decide (i < 80) = false := by simp [q2]
        repeat' with_reducible first
        | refine stp ?_ | refine seg_both ?_ ?_ | refine seg_case (fun x h => ?_) (fun h => ?_) | refine seg_gate (fun h => ?_) (fun h => ?_) | refine seg_need ?_ ?_ | refine cond_v (fun h => ?_) (fun h => ?_)
        | refine seg_eval (by simp -dsimp -implicitDefEqProofs [hbl, x1, d1, d1', d2, d2']; rfl) ?_
        all_goals first
          | omega
          | exact hW _ _ ⟨⟨0, tm, b, os⟩, x, D, bT_up hbT (by omega), hR, hx, rfl, by omega, hD, rfl, rfl⟩
          | trace_state
    · have d1 : decide ((i : Int) < (l.length : Int)) = false := by rw [decide_eq_false_iff_not]; omega
      have d1' : decide (i < l.length) = false := by simp [q1]
      repeat' with_reducible first
      | refine stp ?_ | refine seg_both ?_ ?_ | refine seg_case (fun x h => ?_) (fun h => ?_) | refine seg_gate (fun h => ?_) (fun h => ?_) | refine seg_need ?_ ?_ | refine cond_v (fun h => ?_) (fun h => ?_)
      | refine seg_eval (by simp -dsimp -implicitDefEqProofs [hbl, x1, d1, d1']; rfl) ?_
      all_goals first
        | omega
        | exact hW _ _ ⟨⟨0, tm, b, os⟩, x, D, bT_up hbT (by omega), hR, hx, rfl, by omega, hD, rfl, rfl⟩
        | trace_state
  · rintro ts mm ⟨⟨v, tm, b, os⟩, x, D, hbT, hR, hx, hv0, hDl, hD, rfl, rfl⟩
    have hbl := hbT.2.1.1
    have hok1 := hbT.2.1
    simp only at hbl hx hv0 hok1
    subst hv0
    have x1 := hx.facts
    have hDl2 : D.length ≤ 1000001 := by omega
    repeat' with_reducible first
    | refine stp ?_ | refine seg_both ?_ ?_ | refine seg_case (fun x h => ?_) (fun h => ?_) | refine seg_gate (fun h => ?_) (fun h => ?_) | refine seg_need ?_ ?_ | refine cond_v (fun h => ?_) (fun h => ?_)
    | refine seg_eval (by simp -dsimp -implicitDefEqProofs [hbl, x1]; rfl) ?_
    refine wp_loop' (fun j ts mm => ∃ (f : Nat) (Bk : Blk), f + j = 16 ∧ BD D Bk ∧ ts = [(5, .ptr 0 0 0), (6, .osl 1), (111, .v (.int .u8 (f : Nat)))] ∧ mm = [.var (tc 0 (tm : Nat) b x), Bk]) 16 ?_ ?_
    · exact ⟨[], [0, 1], by simp [hbl, x1], by simp, 0, _, rfl, .inl rfl, by simp, by simp [x1]⟩
    · rintro j ts mm ⟨f, Bk, hf, hBk, rfl, rfl⟩
      by_cases q3 : f < 16
      · have d3 : decide ((f : Int) < 16) = true := by rw [decide_eq_true_eq]; omega
        have d3' : decide (f < 16) = true := by simp [q3]
        have h16i : (f : Int) < 16 := by omega
        have h18 : 2 + f ≤ 18 := by omega
        have h8 : IntKind.wrap .u8 ((f : Int) + 1) = ((f + 1 : Nat) : Int) := by rw [IntWalk.u8_in _ (by omega)]; rfl
        obtain ⟨hba, hbn⟩ := base_at hok1 q3
        have hat := tc_at (v := 0) (m := (tm : Int)) (x := x) hba
        have hle := (right_base hR q3).1
        have hdb := dlv_base hR f
        simp only at hle hdb
        repeat' with_reducible first
        | refine stp ?_ | refine seg_both ?_ ?_ | refine seg_case (fun x h => ?_) (fun h => ?_) | refine seg_gate (fun h => ?_) (fun h => ?_) | refine seg_need ?_ ?_ | refine cond_v (fun h => ?_) (fun h => ?_)
        | refine seg_eval (by simp -dsimp -implicitDefEqProofs [d3, d3', hbl, x1]; rfl) ?_
        all_goals try omega
        refine wp_loopR (fun ts mm => ∃ Bk : Blk, BD D Bk ∧ ts = [(5, .ptr 0 0 0), (6, .osl 1), (19, .v (.int .u8 (f : Nat))), (20, .v (.int .i64 (baseT b f : Nat))), (111, .v (.int .u8 (f : Nat)))] ∧ mm = [.var (tc 0 (tm : Nat) b x), Bk])
          (fun j' ts mm => ∃ (n : Nat) (Bk : Blk), n + j' = baseT b f ∧ BD D Bk ∧ ts = [(5, .ptr 0 0 0), (6, .osl 1), (19, .v (.int .u8 (f : Nat))), (20, .v (.int .i64 n)), (111, .v (.int .u8 (f : Nat)))] ∧ mm = [.var (tc 0 (tm : Nat) b x), Bk]) (baseT b f) ?_ ?_ ?_
        · exact ⟨[], [0, 1], by rcases hBk with rfl | rfl <;> simp [hbl, x1], by simp, 0, Bk, by omega, hBk, by simp, by rcases hBk with rfl | rfl <;> simp [x1]⟩
        · rintro W hW j' ts mm ⟨n, Bk, hn, hBk, rfl, rfl⟩
          by_cases q4 : n < baseT b f
          · have d4 : decide ((n : Int) < 1000) = true := by rw [decide_eq_true_eq]; omega
            have d4' : decide (n < 1000) = true := by rw [decide_eq_true_eq]; omega
            have hin : inN D ⟨0, f, (n : Int)⟩ = true := inN_iff.2 ((hD.is f n (Int.natCast_nonneg _)).2 (hdb.1 n (by omega)))
            have h64n : IntKind.wrap .i64 ((n : Int) + 1) = ((n + 1 : Nat) : Int) := by rw [IntWalk.i64_in _ (by omega)]; rfl
            rcases hBk with rfl | rfl
            repeat' with_reducible first
            | refine stp ?_ | refine seg_both ?_ ?_ | refine seg_case (fun x h => ?_) (fun h => ?_) | refine seg_gate (fun h => ?_) (fun h => ?_) | refine seg_need ?_ ?_ | refine cond_v (fun h => ?_) (fun h => ?_)
            | refine seg_eval (by simp -dsimp -implicitDefEqProofs [d4, d4', hbl, x1, borrow, spTold, avNm, hDl2, hin, h64n]; rfl) ?_
            all_goals first
              | omega
              | exact ⟨j' - 1, by omega, [], [0, 1], by simp [hbl, x1], by simp, n + 1, _, by omega, .inr rfl, by simp, by simp [x1, avNm]⟩
              | trace_state
          · have hn2 : n = baseT b f := by omega
            have hin : inN D ⟨0, f, (n : Int)⟩ = false := not_true' fun h => hdb.2 (hn2 ▸ (hD.is f n (Int.natCast_nonneg _)).1 (inN_iff.1 h))
            by_cases q5 : n < 1000
            · have d4 : decide ((n : Int) < 1000) = true := by rw [decide_eq_true_eq]; omega
              have d4' : decide (n < 1000) = true := by rw [decide_eq_true_eq]; omega
              rcases hBk with rfl | rfl
              repeat' with_reducible first
              | refine stp ?_ | refine seg_both ?_ ?_ | refine seg_case (fun x h => ?_) (fun h => ?_) | refine seg_gate (fun h => ?_) (fun h => ?_) | refine seg_need ?_ ?_ | refine cond_v (fun h => ?_) (fun h => ?_)
              | refine seg_eval (by simp -dsimp -implicitDefEqProofs [d4, d4', hbl, x1, borrow, spTold, avNm, hDl2, hin]; rfl) ?_
              all_goals first
                | omega
                | exact hW _ _ ⟨_, .inr rfl, by rw [hn2], rfl⟩
                | trace_state
            · have d4 : decide ((n : Int) < 1000) = false := by rw [decide_eq_false_iff_not]; omega
              have d4' : decide (n < 1000) = false := by rw [decide_eq_false_iff_not]; omega
              repeat' with_reducible first
              | refine stp ?_ | refine seg_both ?_ ?_ | refine seg_case (fun x h => ?_) (fun h => ?_) | refine seg_gate (fun h => ?_) (fun h => ?_) | refine seg_need ?_ ?_ | refine cond_v (fun h => ?_) (fun h => ?_)
              | refine seg_eval (by simp -dsimp -implicitDefEqProofs [d4, d4', hbl, x1]; rfl) ?_
              all_goals first
                | omega
                | exact hW _ _ ⟨Bk, hBk, by rw [hn2], rfl⟩
                | trace_state
        · rintro ts mm ⟨Bk, hBk, rfl, rfl⟩
          have g1 : IntKind.wrap .i64 ((baseT b f : Nat) : Int) = ((baseT b f : Nat) : Int) := IntWalk.i64_in _ (by omega)
          rcases hBk with rfl | rfl
          · repeat' with_reducible first
            | refine stp ?_ | refine seg_both ?_ ?_ | refine seg_case (fun x h => ?_) (fun h => ?_) | refine seg_gate (fun h => ?_) (fun h => ?_) | refine seg_need ?_ ?_ | refine cond_v (fun h => ?_) (fun h => ?_)
            | refine seg_eval (by simp -dsimp -implicitDefEqProofs [hbl, x1, h16i, q3, h18, hat, g1, h8, Int.toNat_natCast]; rfl) ?_
            all_goals first
              | omega
              | exact ⟨j - 1, by omega, [], [0, 1], by simp [hbl, x1], by simp, f + 1, _, by omega, .inl rfl, by simp, by simp [x1]⟩
              | trace_state
          · repeat' with_reducible first
            | refine stp ?_ | refine seg_both ?_ ?_ | refine seg_case (fun x h => ?_) (fun h => ?_) | refine seg_gate (fun h => ?_) (fun h => ?_) | refine seg_need ?_ ?_ | refine cond_v (fun h => ?_) (fun h => ?_)
            | refine seg_eval (by simp -dsimp -implicitDefEqProofs [hbl, x1, h16i, q3, h18, hat, g1, h8, Int.toNat_natCast]; rfl) ?_
            all_goals first
              | omega
              | exact ⟨j - 1, by omega, [], [0, 1], by simp [hbl, x1], by simp, f + 1, _, by omega, .inr rfl, by simp, by simp [x1]⟩
              | trace_state
      · have d3 : decide ((f : Int) < 16) = false := by rw [decide_eq_false_iff_not]; omega
        have d3' : decide (f < 16) = false := by simp [q3]
        repeat' with_reducible first
        | refine stp ?_ | refine seg_both ?_ ?_ | refine seg_case (fun x h => ?_) (fun h => ?_) | refine seg_gate (fun h => ?_) (fun h => ?_) | refine seg_need ?_ ?_ | refine cond_v (fun h => ?_) (fun h => ?_)
        | refine seg_eval (by simp -dsimp -implicitDefEqProofs [d3, d3', hbl, x1]; rfl) ?_
        all_goals first
          | omega
          | exact post_fin rfl rfl ⟨[], [], rfl, rfl, rfl, rfl⟩
          | trace_state
end Go.Proofs.Ytkbgndebfcjojaa.Am
