/-
  A broadcast in a table goes as it goes by itself.
-/
import Derived.Test.YtkbgndebfcjojaaZTL
namespace Go.Proofs.Ytkbgndebfcjojaa.Am
set_option linter.unusedSimpArgs false
set_option linter.unusedVariables false
open Go Go.Proofs
set_option maxRecDepth 100000


/-- chantry/chantrylaw08.TableLikeOne -/
def ac_8 : ACode :=
 (.seq
  (.region false [] [⟨some 6, .mov (.c (.bool false)), none, []⟩])
 (.seq
  (.seq
   (.region false [] [⟨some 22, .call 10 [], none, []⟩, ⟨some 23, .un .not (.t 22), none, [22]⟩])
  (.cond (.t 23)
    (.drop [0, 1, 2, 23]
     (.seq
      (.region false [] [⟨some 6, .mov (.c (.bool false)), none, []⟩])
     .ret))
    (.drop [23]
     .skip)))
 (.seq
  (.region false [] [⟨some 24, .mov (.t 0), none, []⟩, ⟨some 25, .bld [.int .i64 0, .int .u16 0, .int .u16 0, .int .u16 0, .int .u16 0, .int .u16 0, .int .u16 0, .int .u16 0, .int .u16 0, .int .u16 0, .int .u16 0, .int .u16 0, .int .u16 0, .int .u16 0, .int .u16 0, .int .u16 0, .int .u16 0, .int .u16 0, .slice none 0 0] [(1, 1, .t 24)], none, [24]⟩, ⟨some 7, .alloc [.int .i64 0, .int .u16 0, .int .u16 0, .int .u16 0, .int .u16 0, .int .u16 0, .int .u16 0, .int .u16 0, .int .u16 0, .int .u16 0, .int .u16 0, .int .u16 0, .int .u16 0, .int .u16 0, .int .u16 0, .int .u16 0, .int .u16 0, .int .u16 0, .slice none 0 0], none, []⟩, ⟨none, .st 19 (.t 7) (.t 25), none, [25]⟩])
 (.seq
  (.region false [] [⟨some 8, .alloc [.bool false, .bool false, .bool false, .slice none 0 0, .slice none 0 0], none, []⟩])
 (.seq
  (.seq
   (.region false [] [⟨some 9, .mov (.c (.int .i64 0)), none, []⟩])
  (.block 0
   (.loop [0, 1, 2, 7, 8, 9]
    (.seq
     (.seq
      (.region false [] [⟨some 26, .mov (.t 9), none, []⟩, ⟨some 27, .mov (.t 2), none, []⟩, ⟨some 28, .len false (.t 27), none, [27]⟩, ⟨some 29, .bin false .lss (.t 26) (.t 28), none, [26, 28]⟩, ⟨some 30, .mov (.t 29), none, [29]⟩, ⟨some 31, .mov (.t 9), some (30, true), []⟩, ⟨some 32, .bin false .lss (.t 31) (.c (.int .i64 80)), some (30, true), [31]⟩, ⟨some 33, .pick (.t 30) (.t 32) (.c (.bool false)), none, [30, 32]⟩])
     (.cond (.t 33)
       (.drop [33]
        .skip)
       (.drop [0, 1, 2, 7, 8, 9, 33]
        (.exit 0))))
    (.seq
     (.block 1
      (.seq
       (.region false [] [⟨some 36, .mov (.t 2), none, []⟩, ⟨some 37, .mov (.t 9), none, []⟩, ⟨some 38, .iax 3 (.t 36) (.t 37), none, [36, 37]⟩, ⟨some 39, .ld true 3 (.t 38), none, [38]⟩, ⟨some 10, .alloc [.int .i64 0, .int .u8 0, .string ⟨#[]⟩], none, []⟩, ⟨none, .st 3 (.t 10) (.t 39), none, [39]⟩])
      (.seal_ 10
       (.seq
        (.seq
         (.region false [] [⟨some 40, .fad 2 (.t 10), none, []⟩, ⟨some 41, .ld false 1 (.t 40), none, [40]⟩, ⟨some 42, .len true (.t 41), none, [41]⟩, ⟨some 43, .bin false .gtr (.t 42) (.c (.int .i64 1100)), none, [42]⟩, ⟨some 44, .mov (.t 43), none, [43]⟩, ⟨some 45, .mov (.t 1), some (44, false), []⟩, ⟨some 46, .bin false .gtr (.t 45) (.c (.int .u8 15)), some (44, false), [45]⟩, ⟨some 47, .pick (.t 44) (.c (.bool true)) (.t 46), none, [44, 46]⟩, ⟨some 48, .mov (.t 47), none, [47]⟩, ⟨some 49, .mov (.t 0), some (48, false), []⟩, ⟨some 50, .mov (.t 1), some (48, false), []⟩, ⟨some 51, .bin false .shr (.t 49) (.t 50), some (48, false), [49, 50]⟩, ⟨some 52, .bin false .rem (.t 51) (.c (.int .u16 2)), some (48, false), [51]⟩, ⟨some 53, .bin false .eql (.t 52) (.c (.int .u16 0)), some (48, false), [52]⟩, ⟨some 54, .pick (.t 48) (.c (.bool true)) (.t 53), none, [48, 53]⟩, ⟨some 55, .mov (.t 54), none, [54]⟩, ⟨some 56, .fad 2 (.t 8), some (55, false), []⟩, ⟨some 57, .ld false 1 (.t 56), some (55, false), [56]⟩, ⟨some 58, .pick (.t 55) (.c (.bool true)) (.t 57), none, [55, 57]⟩])
        (.cond (.t 58)
          (.drop [10, 58]
           (.exit 1))
          (.drop [58]
           .skip)))
       (.seq
        (.region false [] [⟨some 60, .ld true 19 (.t 7), none, []⟩, ⟨some 61, .mov (.t 1), none, []⟩, ⟨some 62, .bld [.int .i64 0, .int .u8 0, .int .i64 0] [(1, 1, .t 61)], none, [61]⟩, ⟨some 63, .fad 0 (.t 10), none, []⟩, ⟨some 64, .ld false 1 (.t 63), none, [63]⟩, ⟨some 65, .fad 1 (.t 10), none, []⟩, ⟨some 66, .ld false 1 (.t 65), none, [65]⟩, ⟨some 67, .fad 2 (.t 10), none, []⟩, ⟨some 68, .ld false 1 (.t 67), none, [67]⟩, ⟨some 69, .call 12 [.t 60, .t 62, .t 64, .t 66, .t 68], none, [60, 62, 64, 66, 68]⟩, ⟨some 59, .mov (.t 69), none, [69]⟩, ⟨some 70, .ext 0 (.t 59), none, []⟩, ⟨some 71, .ext 1 (.t 59), none, []⟩, ⟨some 72, .ext 2 (.t 59), none, []⟩, ⟨some 73, .ext 3 (.t 59), none, []⟩, ⟨some 74, .ext 4 (.t 59), none, [59]⟩, ⟨some 11, .alloc [.int .i64 0, .int .u16 0, .int .u16 0, .int .u16 0, .int .u16 0, .int .u16 0, .int .u16 0, .int .u16 0, .int .u16 0, .int .u16 0, .int .u16 0, .int .u16 0, .int .u16 0, .int .u16 0, .int .u16 0, .int .u16 0, .int .u16 0, .int .u16 0, .slice none 0 0], none, []⟩, ⟨none, .st 19 (.t 11) (.t 70), none, [70]⟩, ⟨some 12, .mov (.t 71), none, [71]⟩, ⟨some 13, .mov (.t 72), none, [72]⟩, ⟨some 14, .mov (.t 73), none, [73]⟩, ⟨some 15, .mov (.t 74), none, [74]⟩])
       (.seal_ 11
        (.seq
         (.region false [] [⟨some 76, .ld true 5 (.t 8), none, []⟩, ⟨some 77, .mov (.t 0), none, []⟩, ⟨some 78, .mov (.t 1), none, []⟩, ⟨some 79, .fad 0 (.t 10), none, []⟩, ⟨some 80, .ld false 1 (.t 79), none, [79]⟩, ⟨some 81, .fad 1 (.t 10), none, []⟩, ⟨some 82, .ld false 1 (.t 81), none, [81]⟩, ⟨some 83, .fad 2 (.t 10), none, [10]⟩, ⟨some 84, .ld false 1 (.t 83), none, [83]⟩, ⟨some 85, .call 21 [.t 76, .t 77, .t 78, .t 80, .t 82, .t 84], none, [76, 77, 78, 80, 82, 84]⟩, ⟨some 75, .mov (.t 85), none, [85]⟩, ⟨some 86, .ext 0 (.t 75), none, []⟩, ⟨some 87, .ext 1 (.t 75), none, []⟩, ⟨some 88, .ext 2 (.t 75), none, []⟩, ⟨some 89, .ext 3 (.t 75), none, []⟩, ⟨some 90, .ext 4 (.t 75), none, [75]⟩, ⟨some 16, .alloc [.bool false, .bool false, .bool false, .slice none 0 0, .slice none 0 0], none, []⟩, ⟨none, .st 5 (.t 16) (.t 86), none, [86]⟩, ⟨some 17, .mov (.t 87), none, [87]⟩, ⟨some 18, .mov (.t 88), none, [88]⟩, ⟨some 19, .mov (.t 89), none, [89]⟩, ⟨some 20, .mov (.t 90), none, [90]⟩])
        (.seal_ 16
         (.seq
          (.draws (.tak 0 ⟨some 91, .ld true 19 (.t 11), none, []⟩ (.tak 1 ⟨some 92, .ld true 5 (.t 16), none, []⟩ (.alt 2 ⟨none, .st 19 (.t 7) (.t 91), none, []⟩ (.alt 3 ⟨none, .st 5 (.t 8) (.t 92), none, []⟩ .done .stop) .stop))) [[], [], [0, 0], [1, 2, 0, 1, 2]] [⟨some 91, .ld true 19 (.t 11), none, []⟩, ⟨some 92, .ld true 5 (.t 16), none, []⟩, ⟨none, .st 19 (.t 7) (.t 91), none, []⟩, ⟨none, .st 5 (.t 8) (.t 92), none, []⟩])
         (.drop [11, 16, 91, 92]
          (.pack [0, 1, 2, 7, 8, 9, 12, 13, 14, 15, 17, 18, 19, 20]
           (.seq
            (.seq
             (.region false [] [⟨some 93, .mov (.t 15), none, [15]⟩, ⟨some 94, .mov (.t 20), none, [20]⟩, ⟨some 95, .bin false .neq (.t 93) (.t 94), none, [93, 94]⟩, ⟨some 96, .mov (.t 95), none, [95]⟩, ⟨some 97, .mov (.t 13), some (96, false), [13]⟩, ⟨some 98, .mov (.t 18), some (96, false), [18]⟩, ⟨some 99, .bin false .neq (.t 97) (.t 98), some (96, false), [97, 98]⟩, ⟨some 100, .pick (.t 96) (.c (.bool true)) (.t 99), none, [96, 99]⟩, ⟨some 101, .mov (.t 100), none, [100]⟩, ⟨some 102, .mov (.t 14), some (101, false), [14]⟩, ⟨some 103, .mov (.t 19), some (101, false), [19]⟩, ⟨some 104, .bin true .neq (.t 102) (.t 103), some (101, false), [102, 103]⟩, ⟨some 105, .pick (.t 101) (.c (.bool true)) (.t 104), none, [101, 104]⟩, ⟨some 106, .mov (.t 105), none, [105]⟩, ⟨some 107, .mov (.t 12), some (106, false), []⟩, ⟨some 108, .len false (.t 107), some (106, false), [107]⟩, ⟨some 109, .mov (.t 17), some (106, false), []⟩, ⟨some 110, .len false (.t 109), some (106, false), [109]⟩, ⟨some 111, .bin false .neq (.t 108) (.t 110), some (106, false), [108, 110]⟩, ⟨some 112, .pick (.t 106) (.c (.bool true)) (.t 111), none, [106, 111]⟩])
            (.cond (.t 112)
              (.drop [0, 1, 2, 7, 8, 9, 12, 17, 112]
               (.seq
                (.region false [] [⟨some 6, .mov (.c (.bool false)), none, []⟩])
               .ret))
              (.drop [112]
               .skip)))
           (.seq
            (.region false [] [⟨some 113, .mov (.t 12), none, []⟩, ⟨some 114, .len false (.t 113), none, [113]⟩, ⟨some 115, .mov (.c (.int .i64 0)), none, []⟩])
           (.block 2
            (.loop [0, 1, 2, 7, 8, 9, 12, 17, 114, 115]
             (.seq
              (.region false [] [⟨some 116, .bin false .lss (.t 115) (.t 114), none, []⟩])
             (.seq
              (.cond (.t 116)
                (.drop [116]
                 .skip)
                (.drop [12, 17, 114, 115, 116]
                 (.exit 2)))
             (.seq
              (.block 3
               (.seq
                (.region false [] [⟨some 117, .mov (.t 115), none, []⟩, ⟨some 21, .mov (.t 117), none, [117]⟩])
               (.seq
                (.draws (.tak 0 ⟨some 118, .mov (.t 12), none, []⟩ (.tak 1 ⟨some 119, .mov (.t 21), none, []⟩ (.tak 2 ⟨some 120, .iax 2 (.t 118) (.t 119), none, []⟩ (.tak 3 ⟨some 121, .ld true 2 (.t 120), none, []⟩ (.tak 4 ⟨some 122, .mov (.t 17), none, []⟩ (.tak 5 ⟨some 123, .mov (.t 21), none, []⟩ (.tak 6 ⟨some 124, .iax 2 (.t 122) (.t 123), none, []⟩ (.tak 7 ⟨some 125, .ld true 2 (.t 124), none, []⟩ (.tak 8 ⟨some 126, .eqs true [.i, .s] (.t 121) (.t 125), none, []⟩ .done))))))))) [[], [], [0, 1], [2], [], [], [4, 5], [6], [3, 7]] [⟨some 118, .mov (.t 12), none, []⟩, ⟨some 119, .mov (.t 21), none, []⟩, ⟨some 120, .iax 2 (.t 118) (.t 119), none, []⟩, ⟨some 121, .ld true 2 (.t 120), none, []⟩, ⟨some 122, .mov (.t 17), none, []⟩, ⟨some 123, .mov (.t 21), none, []⟩, ⟨some 124, .iax 2 (.t 122) (.t 123), none, []⟩, ⟨some 125, .ld true 2 (.t 124), none, []⟩, ⟨some 126, .eqs true [.i, .s] (.t 121) (.t 125), none, []⟩])
               (.drop [21, 118, 119, 120, 121, 122, 123, 124, 125]
                (.cond (.t 126)
                  (.drop [0, 1, 2, 7, 8, 9, 12, 17, 114, 115, 126]
                   (.seq
                    (.region false [] [⟨some 6, .mov (.c (.bool false)), none, []⟩])
                   .ret))
                  (.drop [126]
                   .skip))))))
             (.region false [] [⟨some 127, .bin false .add (.t 115) (.c (.int .i64 1)), none, [115]⟩, ⟨some 115, .mov (.t 127), none, [127]⟩])))))))))))))))))))
    (.region false [] [⟨some 34, .mov (.t 9), none, [9]⟩, ⟨some 35, .bin false .add (.t 34) (.c (.int .i64 1)), none, [34]⟩, ⟨some 9, .mov (.t 35), none, [35]⟩]))))))
 (.seq
  (.region false [] [⟨some 6, .mov (.c (.bool true)), none, []⟩])
 .ret))))))
def rs_8 : List ARes := [.tmp 6]
theorem g_8 : Good Try.prog 8 ac_8 rs_8 := ⟨Try.f8, Try.f8.body.getD .skip, by kernel_rfl, by kernel_rfl, by kernel_rfl, ⟨by kernel_rfl, by kernel_rfl⟩, by kernel_rfl, by kernel_rfl⟩
theorem ok_8 {Γ : Env} (hΓ : EnvOk Try.prog Γ) (sp : Spec) (h : WB Γ ac_8 rs_8 sp) : CallOk Try.prog 8 sp := g_8.ok hΓ mix_ok sp h

end Go.Proofs.Ytkbgndebfcjojaa.Am
namespace Go.Proofs.Ytkbgndebfcjojaa.Am
set_option linter.unusedSimpArgs false
set_option linter.unusedVariables false
open Go Go.Proofs
attribute [local irreducible] wpA
attribute [-simp] splice fix1

theorem shr16'' {m f : Nat} (h : f ≤ 15) : ((Int.fdiv (m : Int) (2 ^ (min f 16))).tmod 2 == 0) = !hasS m f := by
  rw [Nat.min_eq_left (by omega), Int.fdiv_eq_ediv_of_nonneg _ (by exact Int.le_of_lt (Int.pow_pos (by decide)))]
  exact shr_has
structure Vo where
  k : Int
  w : Nat
  s : ByteArray
def avVo (a : Vo) : AV := .agg [.v (.int .i64 a.k), .v (.int .u8 (a.w : Nat)), .v (.string a.s)]
theorem inj_avVo {x y : Vo} (h : avVo x = avVo y) : x = y := by
  obtain ⟨k, w, s⟩ := x; obtain ⟨k', w', s'⟩ := y
  simp only [avVo, AV.agg.injEq, List.cons.injEq, AV.v.injEq, Value.int.injEq, Value.string.injEq, true_and, and_true] at h
  obtain ⟨h1, h2, h3⟩ := h
  have h2 : w = w' := by omega
  subst h1 h2 h3
  rfl
def avVos (l : List Vo) : AV := .fsl 3 (l.map avVo)
theorem map_avVo : ∀ {l m : List Vo}, l.map avVo = m.map avVo → l = m
  | [], [], _ => rfl
  | [], _ :: _, h => by simp at h
  | _ :: _, [], h => by simp at h
  | a :: l, b :: m, h => by
    simp only [List.map_cons, List.cons.injEq] at h
    rw [inj_avVo h.1, map_avVo h.2]
theorem un_vos (l : List Vo) : un avVos (.fsl 3 (l.map avVo)) = some l := un_av (av := avVos) (fun x y h => by simp only [avVos, AV.fsl.injEq, true_and] at h; exact map_avVo h) l
attribute [simp] un_vos
def fxCs : List Fx := [.agg [.no, .no, .no, .k 2, .k 2]]
def BX (l : List Ba) (x : AV) : Prop := x = .fsl 2 (l.map avBa) ∨ (x = .v (.slice none 0 0) ∧ l = [])
theorem BX.facts {l : List Ba} {x : AV} (h : BX l x) : x.one = true ∧ x.isBare = true ∧ x.ids = [] ∧ (∀ f, x.mapId f = x) ∧ x.slices = [] ∧ (∀ M, x.lend M = x) ∧ (∀ M, fix1 2 (x.res M) = .fsl 2 (l.map avBa)) ∧ (∀ M, fix1 2 (x.frz M) = .fsl 2 (l.map avBa)) ∧
    (∀ M, (x.res M).one = true) ∧ (∀ M, (x.res M).isBare = true) ∧ (∀ M, (x.res M).ids = []) ∧ (∀ M f, (x.res M).mapId f = x.res M) ∧ (∀ M, (x.res M).slices = []) ∧ (∀ M N, (x.res M).lend N = x.res M) ∧ (∀ M N, (x.res M).frz N = x.res M) ∧ (∀ M N, (x.res M).res N = x.res M) := by
  rcases h with rfl | ⟨rfl, rfl⟩
  · have e : ∀ M, AV.res M (.fsl 2 (l.map avBa)) = .fsl 2 (l.map avBa) := fun M => by rw [AV.res]
    refine ⟨by simp [AV.one], by simp [AV.isBare], by simp [AV.ids], fun _ => by simp [AV.mapId], by simp [AV.slices], fun _ => by simp [AV.lend], fun _ => ?_, fun _ => ?_, ?_, ?_, ?_, ?_, ?_, ?_, ?_, ?_⟩
    · cases l <;> simp [fix1, AV.res]
    · cases l <;> simp [fix1, AV.frz]
    all_goals simp [e, AV.one, AV.isBare, AV.ids, AV.mapId, AV.slices, AV.lend, AV.frz]
  · have e : ∀ M, AV.res M (.v (.slice none 0 0)) = .fsl 0 [] := fun M => by first | rfl | (rw [AV.res]; done) | (rw [AV.res]; rfl)
    have e2 : ∀ M, AV.frz M (.v (.slice none 0 0)) = .fsl 0 [] := fun M => by first | rfl | (rw [AV.frz]; done) | (rw [AV.frz]; rfl)
    have e3 : ∀ M, AV.res M (.fsl 0 []) = .fsl 0 [] := fun M => by rw [AV.res]
    refine ⟨by simp [AV.one, Value.oneCell'], by simp [AV.isBare], by simp [AV.ids], fun _ => by simp [AV.mapId], by simp [AV.slices], fun _ => by simp [AV.lend], fun M => by rw [e]; rfl, fun M => by rw [e2]; rfl, ?_, ?_, ?_, ?_, ?_, ?_, ?_, ?_⟩
    all_goals simp [e, e3, AV.one, AV.isBare, AV.ids, AV.mapId, AV.slices, AV.lend, AV.frz]
noncomputable def spTableLikeOne : Spec := sp3 (avI .u16) (avI .u8) avVos (fun m f l => (0 ≤ m ∧ m < 65536) ∧ (0 ≤ f ∧ f < 256) ∧ (∀ a ∈ l, a.w < 256) ∧ l.length ≤ 9223372036854775807) fun _ _ _ => .v (.bool true)
set_option maxHeartbeats 32000000 in
theorem tableLikeOne_ok : CallOk Try.prog 8 spTableLikeOne := by
  refine ok_8 (Env.put_ok [] (Env.put_ok [] (Env.put_ok [] (Env.none_ok _) alive_ok) (CallOk.fixD fxTb takeT_ok)) (CallOk.fixD fxCs takeV_ok)) spTableLikeOne (wb_sp3 ?_)
  rintro m0 f0 l ⟨⟨hm0, hm1⟩, ⟨hf0, hf1⟩, hl, hll⟩
  obtain ⟨m, rfl⟩ : ∃ m : Nat, m0 = (m : Int) := ⟨m0.toNat, by omega⟩
  obtain ⟨f, rfl⟩ : ∃ f : Nat, f0 = (f : Int) := ⟨f0.toNat, by omega⟩
  have hm : m < 65536 := by omega
  have hf : f < 256 := by omega
  have hbs : ∀ s : ByteArray, (s == s) = true := fun s => by rw [beq_bytes]; simp
  simp only [avI, avVos]
  unfold ac_8
  repeat' with_reducible first
  | refine stp ?_ | refine seg_both ?_ ?_ | refine seg_case (fun x h => ?_) (fun h => ?_) | refine seg_gate (fun h => ?_) (fun h => ?_) | refine seg_need ?_ ?_ | refine cond_v (fun h => ?_) (fun h => ?_)
  | refine seg_eval (by simp -dsimp -implicitDefEqProofs [spAlive, zV_length]; rfl) ?_
  refine wp_loop' (fun j ts mm => ∃ (i : Nat) (t : Tb) (c : Cs) (x y z : AV), i + j = 80 ∧ bT i t ∧ bC i c ∧ TX t.os x ∧ BX c.es y ∧ BX c.rs z ∧
      (c.d = false → t = ⟨0, m, zV, t.os⟩ ∧ (t.os = [⟨f, 0, c⟩] ∧ SoundC c ∨ t.os = [] ∧ c = zCs)) ∧
      ts = [(0, .v (.int .u16 (m : Nat))), (1, .v (.int .u8 (f : Nat))), (2, .fsl 3 (l.map avVo)), (7, .ptr 0 0 0), (8, .ptr 1 0 0), (9, .v (.int .i64 i))] ∧
      mm = [.var (tc t.v (t.m : Nat) t.b x), .var [.v (.bool c.e), .v (.bool c.r), .v (.bool c.d), y, z]]) 80 ?_ ?_
  · exact ⟨[], [0, 1], by simp [zV_length], by simp, 0, ⟨0, m, zV, []⟩, zCs, _, _, _, rfl, bT_zero hm, ⟨⟨by simp [zCs], by simp [zCs]⟩, by simp [zCs], by simp [zCs]⟩, .inr ⟨rfl, rfl⟩, .inr ⟨rfl, rfl⟩, .inr ⟨rfl, rfl⟩, fun _ => ⟨rfl, .inr ⟨rfl, rfl⟩⟩, by simp, by simp [zV_length, zCs]⟩
  · rintro j ts mm ⟨i, ⟨v, tm, b, os⟩, ⟨ce, cr, cd, ces, crs⟩, x, y, z, hij, hbT, hbC, hx, hy, hz, hcd, rfl, rfl⟩
    have hbl := hbT.2.1.1
    simp only at hbl hx hy hz hcd
    have x1 := hx.facts
    have y1 := hy.facts
    have z1 := hz.facts
    by_cases q1 : i < l.length
    · have d1 : decide ((i : Int) < (l.length : Int)) = true := by rw [decide_eq_true_eq]; omega
      have d1' : decide (i < l.length) = true := by simp [q1]
      by_cases q2 : i < 80
      · have d2 : decide ((i : Int) < 80) = true := by rw [decide_eq_true_eq]; omega
        have d2' : decide (i < 80) = true := by simp [q2]
        have h64 : IntKind.wrap .i64 ((i : Int) + 1) = ((i + 1 : Nat) : Int) := by rw [IntWalk.i64_in _ (by omega)]; rfl
        obtain ⟨a, ha⟩ : ∃ a, l[i]? = some a := ⟨_, List.getElem?_eq_getElem q1⟩
        have hw := hl a (List.mem_of_getElem? ha)
        obtain ⟨k, w, s⟩ := a
        simp only at hw
        have hw2 : (w : Int) < 256 := by omega
        by_cases hs : 1100 < s.size
        · have c1 : decide (1100 < s.size) = true := by simp [hs]
          have c1' : decide ((1100 : Int) < (s.size : Int)) = true := by rw [decide_eq_true_eq]; omega
          repeat' with_reducible first
          | refine stm ?_ | refine seg_both ?_ ?_ | refine seg_case (fun x h => ?_) (fun h => ?_) | refine seg_gate (fun h => ?_) (fun h => ?_) | refine seg_need ?_ ?_ | refine cond_v (fun h => ?_) (fun h => ?_)
          | refine seg_eval (by simp -dsimp -implicitDefEqProofs [avVo, d1, d1', d2, d2', ha, c1, c1', h64]; rfl) ?_
          all_goals first
            | omega
            | exact ⟨j - 1, by omega, [], [0, 1], by simp [x1, y1, z1, hbl], by simp, i + 1, ⟨v, tm, b, os⟩, ⟨ce, cr, cd, ces, crs⟩, x, y, z, by omega, bT_up hbT (Nat.le_succ i), bC_up hbC (Nat.le_succ i), hx, hy, hz, hcd, by simp, by simp [x1, y1, z1]⟩
            | trace_state
        have c1 : decide (1100 < s.size) = false := by simp; omega
        have c1' : decide ((1100 : Int) < (s.size : Int)) = false := by rw [decide_eq_false_iff_not]; omega
        by_cases q3 : 15 < f
        · have d3 : decide ((15 : Int) < (f : Int)) = true := by rw [decide_eq_true_eq]; omega
          have d3' : decide (15 < f) = true := by rw [decide_eq_true_eq]; omega
          repeat' with_reducible first
          | refine stm ?_ | refine seg_both ?_ ?_ | refine seg_case (fun x h => ?_) (fun h => ?_) | refine seg_gate (fun h => ?_) (fun h => ?_) | refine seg_need ?_ ?_ | refine cond_v (fun h => ?_) (fun h => ?_)
          | refine seg_eval (by simp -dsimp -implicitDefEqProofs [avVo, d1, d1', d2, d2', ha, c1, c1', h64, d3, d3']; rfl) ?_
          all_goals first
            | omega
            | exact ⟨j - 1, by omega, [], [0, 1], by simp [x1, y1, z1, hbl], by simp, i + 1, ⟨v, tm, b, os⟩, ⟨ce, cr, cd, ces, crs⟩, x, y, z, by omega, bT_up hbT (Nat.le_succ i), bC_up hbC (Nat.le_succ i), hx, hy, hz, hcd, by simp, by simp [x1, y1, z1]⟩
            | trace_state
        have d3 : decide ((15 : Int) < (f : Int)) = false := by rw [decide_eq_false_iff_not]; omega
        have d3' : decide (15 < f) = false := by rw [decide_eq_false_iff_not]; omega
        cases q4 : hasS m f
        · have d4 : ((Int.fdiv (m : Int) (2 ^ (min f 16))).tmod 2 == 0) = true := by rw [shr16'' (by omega), q4]; rfl
          repeat' with_reducible first
          | refine stm ?_ | refine seg_both ?_ ?_ | refine seg_case (fun x h => ?_) (fun h => ?_) | refine seg_gate (fun h => ?_) (fun h => ?_) | refine seg_need ?_ ?_ | refine cond_v (fun h => ?_) (fun h => ?_)
          | refine seg_eval (by simp -dsimp -implicitDefEqProofs [avVo, d1, d1', d2, d2', ha, c1, c1', h64, d3, d3', d4, Int.toNat_natCast]; rfl) ?_
          all_goals first
            | omega
            | exact ⟨j - 1, by omega, [], [0, 1], by simp [x1, y1, z1, hbl], by simp, i + 1, ⟨v, tm, b, os⟩, ⟨ce, cr, cd, ces, crs⟩, x, y, z, by omega, bT_up hbT (Nat.le_succ i), bC_up hbC (Nat.le_succ i), hx, hy, hz, hcd, by simp, by simp [x1, y1, z1]⟩
            | trace_state
        have d4 : ((Int.fdiv (m : Int) (2 ^ (min f 16))).tmod 2 == 0) = false := by rw [shr16'' (by omega), q4]; rfl
        cases cd
        case true =>
          repeat' with_reducible first
          | refine stm ?_ | refine seg_both ?_ ?_ | refine seg_case (fun x h => ?_) (fun h => ?_) | refine seg_gate (fun h => ?_) (fun h => ?_) | refine seg_need ?_ ?_ | refine cond_v (fun h => ?_) (fun h => ?_)
          | refine seg_eval (by simp -dsimp -implicitDefEqProofs [avVo, d1, d1', d2, d2', ha, c1, c1', h64, d3, d3', d4, y1, z1, Int.toNat_natCast]; rfl) ?_
          all_goals first
            | omega
            | exact ⟨j - 1, by omega, [], [0, 1], by simp [x1, y1, z1, hbl], by simp, i + 1, ⟨v, tm, b, os⟩, ⟨ce, cr, true, ces, crs⟩, x, y, z, by omega, bT_up hbT (Nat.le_succ i), bC_up hbC (Nat.le_succ i), hx, hy, hz, hcd, by simp, by simp [x1, y1, z1]⟩
            | trace_state
        case false =>
          obtain ⟨he, hone⟩ := hcd rfl
          simp only [Tb.mk.injEq, and_true] at he
          obtain ⟨rfl, rfl, rfl⟩ := he
          have hok := bT_ok hbT (by omega)
          have hB := take_b hbT ⟨0, f, 0⟩ k w s hf
          have hBc := takeV_b hbC tm f k w s
          have hokC : okCs ⟨ce, cr, false, ces, crs⟩ := ⟨bB_up hbC.1 (by omega), bB_up hbC.2 (by omega)⟩
          have hO := take_o ⟨0, tm, zV, os⟩ ⟨0, f, 0⟩ k w s
          have h1 := take_one hm q4 ⟨ce, cr, false, ces, crs⟩ k w s os (hone.elim (fun h => .inl ⟨h.1, rfl, h.2⟩) fun h => .inr h)
          obtain ⟨r, hr⟩ : ∃ r, takeT ⟨0, tm, zV, os⟩ ⟨0, f, 0⟩ k w s = r := ⟨_, rfl⟩
          obtain ⟨u, hu⟩ : ∃ u, takeV ⟨ce, cr, false, ces, crs⟩ tm f k w s = u := ⟨_, rfl⟩
          rw [hr] at hB hO h1
          rw [hu] at hBc h1
          obtain ⟨⟨rv, rm, rb, ros⟩, ro, rs, ri, rx⟩ := r
          obtain ⟨⟨ue, ur, ud, ues, urs⟩, uo, us, ui, ux⟩ := u
          simp only at hB hBc hO h1
          obtain ⟨rfl, rfl, rfl, rfl, hnext⟩ := h1
          have hrb := hB.2.1.1
          simp only at hrb
          have hsn : (rs != rs) = false := by simp [bne, hbs]
          repeat' with_reducible first
          | refine stm ?_ | refine seg_both ?_ ?_ | refine seg_case (fun x h => ?_) (fun h => ?_) | refine seg_gate (fun h => ?_) (fun h => ?_) | refine seg_need ?_ ?_ | refine cond_v (fun h => ?_) (fun h => ?_)
          | refine seg_eval (by simp -dsimp -implicitDefEqProofs [avVo, d1, d1', d2, d2', ha, c1, c1', d3, d3', d4, x1, y1, z1, hbl, hrb, zV_length, spTakeT, spTakeV, hok, hokC, hf, hf1, hm1, hw2, hr, hu, avTt, avVt, avCs, avTb, Int.toNat_natCast, fxTb, fxCs]; rfl) ?_
          all_goals try first
            | omega
            | exact hok
          refine wp_drawsR (fun ts mm => ts = [(0, .v (.int .u16 (tm : Nat))), (1, .v (.int .u8 (f : Nat))), (2, .fsl 3 (l.map avVo)), (7, .ptr 0 0 0), (8, .ptr 1 0 0), (9, .v (.int .i64 i)),
              (12, .fsl 2 (ro.map avOu)), (13, .v (.string rs)), (14, .v (.bool ri)), (15, .v (.int .i64 rx)), (17, .fsl 2 (ro.map avOu)), (18, .v (.string rs)), (19, .v (.bool ri)), (20, .v (.int .i64 rx))] ∧
              mm = [.var (tc rv (rm : Nat) rb (.fsl 7 (ros.map avOp))), .var [.v (.bool ue), .v (.bool ur), .v (.bool ud), .fsl 2 (ues.map avBa), .fsl 2 (urs.map avBa)]]) ?_ ?_
          · intro W hW
            repeat' with_reducible first
            | refine stp ?_ | refine seg_both ?_ ?_ | refine seg_case (fun x h => ?_) (fun h => ?_) | refine seg_gate (fun h => ?_) (fun h => ?_) | refine seg_need ?_ ?_ | refine cond_v (fun h => ?_) (fun h => ?_)
            | refine seg_eval (by simp -dsimp -implicitDefEqProofs [hbl, hrb, zV_length, x1, y1, z1]; rfl) ?_
            all_goals first
              | omega
              | (refine hW _ _ ⟨[], [0, 1], ?_, ?_, ?_, ?_⟩ <;> (simp [hrb]; done))
              | trace_state
          · rintro ts mm ⟨rfl, rfl⟩
            repeat' with_reducible first
            | refine stm ?_ | refine seg_both ?_ ?_ | refine seg_case (fun x h => ?_) (fun h => ?_) | refine seg_gate (fun h => ?_) (fun h => ?_) | refine seg_need ?_ ?_ | refine cond_v (fun h => ?_) (fun h => ?_)
            | refine seg_eval (by simp -dsimp -implicitDefEqProofs [hsn, hbs, hrb]; rfl) ?_
            all_goals try omega
            refine wp_loop' (fun j' ts mm => ∃ g : Nat, g + j' = ro.length ∧
              ts = [(0, .v (.int .u16 (tm : Nat))), (1, .v (.int .u8 (f : Nat))), (2, .fsl 3 (l.map avVo)), (7, .ptr 0 0 0), (8, .ptr 1 0 0), (9, .v (.int .i64 i)),
              (12, .fsl 2 (ro.map avOu)), (17, .fsl 2 (ro.map avOu)), (114, .v (.int .i64 ro.length)), (115, .v (.int .i64 g))] ∧
              mm = [.var (tc rv (rm : Nat) rb (.fsl 7 (ros.map avOp))), .var [.v (.bool ue), .v (.bool ur), .v (.bool ud), .fsl 2 (ues.map avBa), .fsl 2 (urs.map avBa)]]) ro.length ?_ ?_
            · exact ⟨[], [0, 1], by simp [hrb], by simp, 0, by omega, by simp, by simp⟩
            · rintro j' ts mm ⟨g, hg, rfl, rfl⟩
              by_cases q7 : g < ro.length
              · have d7 : decide ((g : Int) < (ro.length : Int)) = true := by rw [decide_eq_true_eq]; omega
                have d7' : decide (g < ro.length) = true := by simp [q7]
                have h64g : IntKind.wrap .i64 ((g : Int) + 1) = ((g + 1 : Nat) : Int) := by rw [IntWalk.i64_in _ (by omega)]; rfl
                obtain ⟨⟨o1, o2⟩, ho⟩ : ∃ a, ro[g]? = some a := ⟨_, List.getElem?_eq_getElem q7⟩
                repeat' with_reducible first
                | refine stp ?_ | refine seg_both ?_ ?_ | refine seg_case (fun x h => ?_) (fun h => ?_) | refine seg_gate (fun h => ?_) (fun h => ?_) | refine seg_need ?_ ?_ | refine cond_v (fun h => ?_) (fun h => ?_)
                | refine seg_eval (by simp -dsimp -implicitDefEqProofs [avOu, d7, d7', h64g, ho, eqCells_is, hbs, hrb]; rfl) ?_
                all_goals first
                  | omega
                  | exact ⟨j' - 1, by omega, [], [0, 1], by simp [hrb], by simp, g + 1, by omega, by simp, by simp⟩
                  | trace_state
              · have d7 : decide ((g : Int) < (ro.length : Int)) = false := by rw [decide_eq_false_iff_not]; omega
                have d7' : decide (g < ro.length) = false := by simp [q7]
                repeat' with_reducible first
                | refine stp ?_ | refine seg_both ?_ ?_ | refine seg_case (fun x h => ?_) (fun h => ?_) | refine seg_gate (fun h => ?_) (fun h => ?_) | refine seg_need ?_ ?_ | refine cond_v (fun h => ?_) (fun h => ?_)
                | refine seg_eval (by simp -dsimp -implicitDefEqProofs [d7, d7', h64, hrb]; rfl) ?_
                all_goals first
                  | omega
                  | (refine ⟨j - 1, by omega, [], [0, 1], by simp [hrb], by simp, i + 1, ⟨rv, rm, rb, ros⟩, ⟨ue, ur, ud, ues, urs⟩, _, _, _, by omega, hB, hBc, .inl rfl, .inl rfl, .inl rfl, fun h => ?_, by simp, by simp⟩
                     obtain ⟨l', e1, e2⟩ := hnext h
                     simp only [Tb.mk.injEq] at e1
                     obtain ⟨rfl, rfl, rfl, rfl⟩ := e1
                     exact ⟨rfl, e2⟩)
                  | trace_state
      · have d2 : decide ((i : Int) < 80) = false := by rw [decide_eq_false_iff_not]; omega
        have d2' : decide (i < 80) = false := by simp [q2]
        repeat' with_reducible first
        | refine stp ?_ | refine seg_both ?_ ?_ | refine seg_case (fun x h => ?_) (fun h => ?_) | refine seg_gate (fun h => ?_) (fun h => ?_) | refine seg_need ?_ ?_ | refine cond_v (fun h => ?_) (fun h => ?_)
        | refine seg_eval (by simp -dsimp -implicitDefEqProofs [d1, d1', d2, d2']; rfl) ?_
        all_goals first
          | omega
          | exact post_fin rfl rfl ⟨[], [], rfl, rfl, rfl, rfl⟩
          | trace_state
    · have d1 : decide ((i : Int) < (l.length : Int)) = false := by rw [decide_eq_false_iff_not]; omega
      have d1' : decide (i < l.length) = false := by simp [q1]
      repeat' with_reducible first
      | refine stp ?_ | refine seg_both ?_ ?_ | refine seg_case (fun x h => ?_) (fun h => ?_) | refine seg_gate (fun h => ?_) (fun h => ?_) | refine seg_need ?_ ?_ | refine cond_v (fun h => ?_) (fun h => ?_)
      | refine seg_eval (by simp -dsimp -implicitDefEqProofs [d1, d1']; rfl) ?_
      all_goals first
        | omega
        | exact post_fin rfl rfl ⟨[], [], rfl, rfl, rfl, rfl⟩
        | trace_state
end Go.Proofs.Ytkbgndebfcjojaa.Am
