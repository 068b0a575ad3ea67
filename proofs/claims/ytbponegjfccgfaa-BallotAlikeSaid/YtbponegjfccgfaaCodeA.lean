/-
  THE FUNCTIONS' ABSTRACT CODE, as Lean's own reduction of compCode printed it, with notes (genac.py); each is held against the translation by the kernel.
-/
import Derived.Test.YtbponegjfccgfaaAmJ
import Derived.Test.YtbponegjfccgfaaProg
import Derived.Test.YtbponegjfccgfaaCode
namespace Go.Proofs.Ytbponegjfccgfaa.Am
set_option linter.unusedSimpArgs false
set_option linter.unusedVariables false
open Go Go.Proofs
variable {Γ : Env} {N : Nat} {Q : Post} {ts : Tm} {m : List Blk}
/-- I k is the state with at most k rounds to go; R what holds when the loop is left. -/
theorem wp_loopR {keep : List Nat} {b c : ACode} {i : Nat} (R : Tm → List Blk → Prop) (I : Nat → Tm → List Blk → Prop) (n : Nat) (h0 : into N keep (I n) ts m)
    (h1 : ∀ W : Tm → List Blk → Prop, (∀ ts m, R ts m → W ts m) → ∀ n ts m, I n ts m → wpA Γ N b (AExit.thenA (fun ts' m' => ∃ k, k < n ∧ into N keep (I k) ts' m') (AExit.inBlk i (AExit.thenA W Q))) ts m)
    (hr : ∀ ts m, R ts m → wpA Γ N c Q ts m) : wpA Γ N (.loop keep b) (AExit.inBlk i (AExit.thenA (wpA Γ N c Q) Q)) ts m := ⟨I, n, h0, h1 _ hr⟩
end Go.Proofs.Ytbponegjfccgfaa.Am
namespace Go.Proofs.Ytbponegjfccgfaa.Am
set_option linter.unusedSimpArgs false
set_option linter.unusedVariables false
open Go Go.Proofs
variable {Γ : Env} {N : Nat} {Q : Post} {ts : Tm} {m : List Blk}
theorem into_mono {keep : List Nat} {J K : Tm → List Blk → Prop} (hk : ∀ ts m, J ts m → K ts m) (h : into N keep J ts m) : into N keep K ts m := by
  obtain ⟨ad, ids, h⟩ := h
  refine ⟨ad, ids, ?_⟩
  cases ha : adoptA ad ts m with
  | none => rw [ha] at h; exact h.elim
  | some p =>
    rw [ha] at h
    exact ⟨h.1, h.2.1, hk _ _ h.2.2⟩
theorem wp_drawsR {p : Plan} {pre : List (List Nat)} {ops : List AOper} {ks keep : List Nat} {c : ACode} (R : Tm → List Blk → Prop)
    (h : ∀ W : Tm → List Blk → Prop, (∀ ts m, into N keep R (tkill ks ts) m → W ts m) → wpA Γ N (.draws p pre ops) (AExit.thenA W Q) ts m)
    (hr : ∀ ts m, R ts m → wpA Γ N c Q ts m) : wpA Γ N (.seq (.draws p pre ops) (.drop ks (.pack keep c))) Q ts m := h _ fun _ _ hh => into_mono hr hh
theorem wp_drawsRS {p : Plan} {pre : List (List Nat)} {ops : List AOper} {ks keep : List Nat} {c d : ACode} (R : Tm → List Blk → Prop)
    (h : ∀ W : Tm → List Blk → Prop, (∀ ts m, into N keep R (tkill ks ts) m → W ts m) → wpA Γ N (.draws p pre ops) (AExit.thenA W Q) ts m)
    (hr : ∀ ts m, R ts m → wpA Γ N (.seq c d) Q ts m) : wpA Γ N (.seq (.draws p pre ops) (.seq (.drop ks (.pack keep c)) d)) Q ts m := h _ fun _ _ hh => into_mono hr hh
end Go.Proofs.Ytbponegjfccgfaa.Am
namespace Go.Proofs.Ytbponegjfccgfaa.Am
set_option linter.unusedSimpArgs false
set_option linter.unusedVariables false
open Go Go.Proofs
set_option maxRecDepth 100000


/-- chantry/chantrylaw12.BallotAlike -/
def acp_11 : ACode :=
 (.seq
  (.region false [] [⟨some 3, .box (.t 0), none, [0]⟩, ⟨some 6, .mov (.c (.bool false)), none, []⟩])
 (.seal_ 3
  (.seq
   (.seq
    (.region false [] [⟨some 17, .call 24 [], none, []⟩, ⟨some 18, .un .not (.t 17), none, [17]⟩])
   (.cond (.t 18)
     (.drop [1, 2, 3, 18]
      (.seq
       (.region false [] [⟨some 6, .mov (.c (.bool false)), none, []⟩])
      .ret))
     (.drop [18]
      .skip)))
  (.seq
   (.draws (.tak 0 ⟨some 19, .ld true 2 (.t 3), none, []⟩ (.tak 1 ⟨some 20, .bld [.int .i64 0, .int .u16 0, .slice none 0 0] [(0, 2, .t 19)], none, []⟩ (.tak 2 ⟨some 21, .ld true 2 (.t 3), none, []⟩ (.tak 3 ⟨some 22, .bld [.int .i64 0, .int .u16 0, .slice none 0 0] [(0, 2, .t 21)], none, []⟩ (.alt 4 ⟨some 7, .alloc [.int .i64 0, .int .u16 0, .slice none 0 0], none, []⟩ (.alt 5 ⟨some 8, .alloc [.int .i64 0, .int .u16 0, .slice none 0 0], none, []⟩ (.alt 6 ⟨none, .st 3 (.t 7) (.t 20), none, []⟩ (.alt 7 ⟨none, .st 3 (.t 8) (.t 22), none, []⟩ .done .stop) .stop) .stop) (.alt 5 ⟨some 8, .alloc [.int .i64 0, .int .u16 0, .slice none 0 0], none, []⟩ (.alt 4 ⟨some 7, .alloc [.int .i64 0, .int .u16 0, .slice none 0 0], none, []⟩ (.alt 6 ⟨none, .st 3 (.t 7) (.t 20), none, []⟩ (.alt 7 ⟨none, .st 3 (.t 8) (.t 22), none, []⟩ .done .stop) .stop) .stop) .stop)))))) [[], [0], [], [2], [], [], [4, 1, 0, 1, 4, 5], [5, 3, 6, 0, 1, 2, 3, 4, 5, 6]] [⟨some 19, .ld true 2 (.t 3), none, []⟩, ⟨some 20, .bld [.int .i64 0, .int .u16 0, .slice none 0 0] [(0, 2, .t 19)], none, []⟩, ⟨some 21, .ld true 2 (.t 3), none, []⟩, ⟨some 22, .bld [.int .i64 0, .int .u16 0, .slice none 0 0] [(0, 2, .t 21)], none, []⟩, ⟨some 7, .alloc [.int .i64 0, .int .u16 0, .slice none 0 0], none, []⟩, ⟨some 8, .alloc [.int .i64 0, .int .u16 0, .slice none 0 0], none, []⟩, ⟨none, .st 3 (.t 7) (.t 20), none, []⟩, ⟨none, .st 3 (.t 8) (.t 22), none, []⟩])
  (.drop [19, 20, 21, 22]
   (.pack [1, 2, 3, 7, 8]
    (.seq
     (.seq
      (.region false [] [⟨some 23, .mov (.t 1), none, []⟩, ⟨some 24, .len false (.t 23), none, [23]⟩, ⟨some 25, .bin false .gtr (.t 24) (.c (.int .i64 60)), none, [24]⟩, ⟨some 26, .mov (.t 25), none, [25]⟩, ⟨some 27, .mov (.t 2), some (26, false), []⟩, ⟨some 28, .len false (.t 27), some (26, false), [27]⟩, ⟨some 29, .bin false .gtr (.t 28) (.c (.int .i64 60)), some (26, false), [28]⟩, ⟨some 30, .pick (.t 26) (.c (.bool true)) (.t 29), none, [26, 29]⟩])
     (.cond (.t 30)
       (.drop [1, 2, 3, 7, 8, 30]
        (.seq
         (.region false [] [⟨some 6, .mov (.c (.bool true)), none, []⟩])
        .ret))
       (.drop [30]
        .skip)))
    (.seq
     (.seq
      (.region false [] [⟨some 31, .mov (.t 2), none, [2]⟩, ⟨some 32, .len false (.t 31), none, []⟩, ⟨some 33, .mov (.c (.int .i64 0)), none, []⟩])
     (.block 0
      (.loop [1, 3, 7, 8, 31, 32, 33]
       (.seq
        (.region false [] [⟨some 34, .bin false .lss (.t 33) (.t 32), none, []⟩])
       (.seq
        (.cond (.t 34)
          (.drop [34]
           .skip)
          (.drop [31, 32, 33, 34]
           (.exit 0)))
       (.seq
        (.block 1
         (.seq
          (.region false [] [⟨some 35, .iax 3 (.t 31) (.t 33), none, []⟩, ⟨some 36, .ld true 3 (.t 35), none, [35]⟩, ⟨some 10, .alloc [.int .u8 0, .bool false, .int .u8 0], none, []⟩, ⟨none, .st 3 (.t 10) (.t 36), none, [36]⟩])
         (.seal_ 10
          (.draws (.tak 1 ⟨some 39, .ld true 3 (.t 10), none, []⟩ (.alt 0 ⟨some 38, .ld true 3 (.t 8), none, []⟩ (.alt 2 ⟨some 40, .call 27 [.t 39], none, []⟩ (.alt 3 ⟨some 41, .call 25 [.t 38, .t 40], none, []⟩ (.tak 4 ⟨some 37, .mov (.t 41), none, []⟩ (.tak 5 ⟨some 42, .ext 0 (.t 37), none, []⟩ (.tak 6 ⟨some 43, .ext 1 (.t 37), none, []⟩ (.alt 7 ⟨none, .st 3 (.t 8) (.t 42), none, []⟩ .done .stop)))) .stop) .stop) (.alt 2 ⟨some 40, .call 27 [.t 39], none, []⟩ (.alt 0 ⟨some 38, .ld true 3 (.t 8), none, []⟩ (.alt 3 ⟨some 41, .call 25 [.t 38, .t 40], none, []⟩ (.tak 4 ⟨some 37, .mov (.t 41), none, []⟩ (.tak 5 ⟨some 42, .ext 0 (.t 37), none, []⟩ (.tak 6 ⟨some 43, .ext 1 (.t 37), none, []⟩ (.alt 7 ⟨none, .st 3 (.t 8) (.t 42), none, []⟩ .done .stop)))) .stop) .stop) .stop))) [[], [], [1], [0, 2, 2], [3], [4], [4], [5, 3, 0, 1, 2, 3, 4, 5]] [⟨some 38, .ld true 3 (.t 8), none, []⟩, ⟨some 39, .ld true 3 (.t 10), none, []⟩, ⟨some 40, .call 27 [.t 39], none, []⟩, ⟨some 41, .call 25 [.t 38, .t 40], none, []⟩, ⟨some 37, .mov (.t 41), none, []⟩, ⟨some 42, .ext 0 (.t 37), none, []⟩, ⟨some 43, .ext 1 (.t 37), none, []⟩, ⟨none, .st 3 (.t 8) (.t 42), none, []⟩]))))
       (.region false [] [⟨some 44, .bin false .add (.t 33) (.c (.int .i64 1)), none, [33]⟩, ⟨some 33, .mov (.t 44), none, [44]⟩])))))))
    (.seq
     (.seq
      (.draws (.tak 0 ⟨some 45, .fad 2 (.t 8), none, []⟩ (.tak 3 ⟨some 48, .fad 1 (.t 3), none, []⟩ (.tak 4 ⟨some 49, .ld false 1 (.t 48), none, []⟩ (.alt 1 ⟨some 46, .ld false 1 (.t 45), none, []⟩ (.tak 2 ⟨some 47, .len false (.t 46), none, []⟩ (.alt 5 ⟨some 50, .call 35 [.t 49], none, []⟩ (.alt 6 ⟨some 51, .call 38 [.t 50], none, []⟩ (.tak 7 ⟨some 52, .bin false .gtr (.t 47) (.t 51), none, []⟩ .done) .stop) .stop)) (.alt 5 ⟨some 50, .call 35 [.t 49], none, []⟩ (.alt 1 ⟨some 46, .ld false 1 (.t 45), none, []⟩ (.tak 2 ⟨some 47, .len false (.t 46), none, []⟩ (.alt 6 ⟨some 51, .call 38 [.t 50], none, []⟩ (.tak 7 ⟨some 52, .bin false .gtr (.t 47) (.t 51), none, []⟩ .done) .stop)) (.alt 6 ⟨some 51, .call 38 [.t 50], none, []⟩ (.alt 1 ⟨some 46, .ld false 1 (.t 45), none, []⟩ (.tak 2 ⟨some 47, .len false (.t 46), none, []⟩ (.tak 7 ⟨some 52, .bin false .gtr (.t 47) (.t 51), none, []⟩ .done)) .stop) .stop)) .stop))))) [[], [0], [1], [], [3], [4], [5, 5], [2, 6]] [⟨some 45, .fad 2 (.t 8), none, []⟩, ⟨some 46, .ld false 1 (.t 45), none, []⟩, ⟨some 47, .len false (.t 46), none, []⟩, ⟨some 48, .fad 1 (.t 3), none, []⟩, ⟨some 49, .ld false 1 (.t 48), none, []⟩, ⟨some 50, .call 35 [.t 49], none, []⟩, ⟨some 51, .call 38 [.t 50], none, []⟩, ⟨some 52, .bin false .gtr (.t 47) (.t 51), none, []⟩])
     (.drop [3, 45, 46, 47, 48, 49, 50, 51]
      (.pack [1, 7, 8, 52]
       (.cond (.t 52)
         (.drop [1, 7, 8, 52]
          (.seq
           (.region false [] [⟨some 6, .mov (.c (.bool true)), none, []⟩])
          .ret))
         (.drop [52]
          .skip)))))
    (.seq
     (.seq
      (.region false [] [⟨some 53, .mov (.t 1), none, [1]⟩, ⟨some 54, .len false (.t 53), none, []⟩, ⟨some 55, .mov (.c (.int .i64 0)), none, []⟩])
     (.block 2
      (.loop [7, 8, 53, 54, 55]
       (.seq
        (.region false [] [⟨some 56, .bin false .lss (.t 55) (.t 54), none, []⟩])
       (.seq
        (.cond (.t 56)
          (.drop [56]
           .skip)
          (.drop [53, 54, 55, 56]
           (.exit 2)))
       (.seq
        (.block 3
         (.seq
          (.region false [] [⟨some 57, .iax 3 (.t 53) (.t 55), none, []⟩, ⟨some 58, .ld true 3 (.t 57), none, [57]⟩, ⟨some 12, .alloc [.int .u8 0, .bool false, .int .u8 0], none, []⟩, ⟨none, .st 3 (.t 12) (.t 58), none, [58]⟩])
         (.seal_ 12
          (.seq
           (.draws (.tak 1 ⟨some 61, .ld true 3 (.t 12), none, []⟩ (.alt 0 ⟨some 60, .ld true 3 (.t 7), none, []⟩ (.alt 2 ⟨some 62, .call 27 [.t 61], none, []⟩ (.alt 3 ⟨some 63, .call 25 [.t 60, .t 62], none, []⟩ (.tak 4 ⟨some 59, .mov (.t 63), none, []⟩ (.tak 5 ⟨some 64, .ext 0 (.t 59), none, []⟩ (.tak 6 ⟨some 65, .ext 1 (.t 59), none, []⟩ (.alt 7 ⟨none, .st 3 (.t 7) (.t 64), none, []⟩ .done .stop)))) .stop) .stop) (.alt 2 ⟨some 62, .call 27 [.t 61], none, []⟩ (.alt 0 ⟨some 60, .ld true 3 (.t 7), none, []⟩ (.alt 3 ⟨some 63, .call 25 [.t 60, .t 62], none, []⟩ (.tak 4 ⟨some 59, .mov (.t 63), none, []⟩ (.tak 5 ⟨some 64, .ext 0 (.t 59), none, []⟩ (.tak 6 ⟨some 65, .ext 1 (.t 59), none, []⟩ (.alt 7 ⟨none, .st 3 (.t 7) (.t 64), none, []⟩ .done .stop)))) .stop) .stop) .stop))) [[], [], [1], [0, 2, 2], [3], [4], [4], [5, 3, 0, 1, 2, 3, 4, 5]] [⟨some 60, .ld true 3 (.t 7), none, []⟩, ⟨some 61, .ld true 3 (.t 12), none, []⟩, ⟨some 62, .call 27 [.t 61], none, []⟩, ⟨some 63, .call 25 [.t 60, .t 62], none, []⟩, ⟨some 59, .mov (.t 63), none, []⟩, ⟨some 64, .ext 0 (.t 59), none, []⟩, ⟨some 65, .ext 1 (.t 59), none, []⟩, ⟨none, .st 3 (.t 7) (.t 64), none, []⟩])
          (.drop [59, 60, 61, 62, 63, 64, 65]
           (.pack [7, 8, 12, 53, 54, 55]
            (.draws (.tak 1 ⟨some 68, .ld true 3 (.t 12), none, []⟩ (.alt 0 ⟨some 67, .ld true 3 (.t 8), none, []⟩ (.alt 2 ⟨some 69, .call 27 [.t 68], none, []⟩ (.alt 3 ⟨some 70, .call 25 [.t 67, .t 69], none, []⟩ (.tak 4 ⟨some 66, .mov (.t 70), none, []⟩ (.tak 5 ⟨some 71, .ext 0 (.t 66), none, []⟩ (.tak 6 ⟨some 72, .ext 1 (.t 66), none, []⟩ (.alt 7 ⟨none, .st 3 (.t 8) (.t 71), none, []⟩ .done .stop)))) .stop) .stop) (.alt 2 ⟨some 69, .call 27 [.t 68], none, []⟩ (.alt 0 ⟨some 67, .ld true 3 (.t 8), none, []⟩ (.alt 3 ⟨some 70, .call 25 [.t 67, .t 69], none, []⟩ (.tak 4 ⟨some 66, .mov (.t 70), none, []⟩ (.tak 5 ⟨some 71, .ext 0 (.t 66), none, []⟩ (.tak 6 ⟨some 72, .ext 1 (.t 66), none, []⟩ (.alt 7 ⟨none, .st 3 (.t 8) (.t 71), none, []⟩ .done .stop)))) .stop) .stop) .stop))) [[], [], [1], [0, 2, 2], [3], [4], [4], [5, 3, 0, 1, 2, 3, 4, 5]] [⟨some 67, .ld true 3 (.t 8), none, []⟩, ⟨some 68, .ld true 3 (.t 12), none, []⟩, ⟨some 69, .call 27 [.t 68], none, []⟩, ⟨some 70, .call 25 [.t 67, .t 69], none, []⟩, ⟨some 66, .mov (.t 70), none, []⟩, ⟨some 71, .ext 0 (.t 66), none, []⟩, ⟨some 72, .ext 1 (.t 66), none, []⟩, ⟨none, .st 3 (.t 8) (.t 71), none, []⟩])))))))
       (.region false [] [⟨some 73, .bin false .add (.t 55) (.c (.int .i64 1)), none, [55]⟩, ⟨some 55, .mov (.t 73), none, [73]⟩])))))))
    (.seq
     (.region false [] [⟨some 75, .ld true 3 (.t 7), none, [7]⟩, ⟨some 76, .call 29 [.t 75], none, [75]⟩, ⟨some 74, .mov (.t 76), none, [76]⟩, ⟨some 77, .ext 0 (.t 74), none, []⟩, ⟨some 78, .ext 1 (.t 74), none, [74]⟩, ⟨some 13, .alloc [.bool false, .int .u8 0], none, []⟩, ⟨none, .st 2 (.t 13) (.t 77), none, [77]⟩, ⟨some 14, .mov (.t 78), none, [78]⟩])
    (.seal_ 13
     (.seq
      (.region false [] [⟨some 80, .ld true 3 (.t 8), none, [8]⟩, ⟨some 81, .call 29 [.t 80], none, [80]⟩, ⟨some 79, .mov (.t 81), none, [81]⟩, ⟨some 82, .ext 0 (.t 79), none, []⟩, ⟨some 83, .ext 1 (.t 79), none, [79]⟩, ⟨some 15, .alloc [.bool false, .int .u8 0], none, []⟩, ⟨none, .st 2 (.t 15) (.t 82), none, [82]⟩, ⟨some 16, .mov (.t 83), none, [83]⟩])
     (.seal_ 15
      (.seq
       (.region false [] [⟨some 84, .mov (.t 14), none, [14]⟩, ⟨some 85, .un .not (.t 84), none, [84]⟩, ⟨some 86, .mov (.t 85), none, [85]⟩, ⟨some 87, .mov (.t 16), some (86, false), [16]⟩, ⟨some 88, .un .not (.t 87), some (86, false), [87]⟩, ⟨some 89, .pick (.t 86) (.c (.bool true)) (.t 88), none, [86, 88]⟩, ⟨some 90, .mov (.t 89), none, [89]⟩, ⟨some 91, .ld true 2 (.t 13), some (90, false), [13]⟩, ⟨some 92, .ld true 2 (.t 15), some (90, false), [15]⟩, ⟨some 93, .eqs false [.b, .i] (.t 91) (.t 92), some (90, false), [91, 92]⟩, ⟨some 94, .pick (.t 90) (.c (.bool true)) (.t 93), none, [90, 93]⟩, ⟨some 6, .mov (.t 94), none, [94]⟩])
      .ret)))))))))))))))
def rsp_11 : List ARes := [.tmp 6]
theorem gp_11 : Good Try.prog 11 acp_11 rsp_11 := ⟨Try.f11, Try.f11.body.getD .skip, by kernel_rfl, by kernel_rfl, by kernel_rfl, ⟨by kernel_rfl, by kernel_rfl⟩, by kernel_rfl, by kernel_rfl⟩
theorem okp_11 {Γ : Env} (hΓ : EnvOk Try.prog Γ) (sp : Spec) (h : WB Γ acp_11 rsp_11 sp) : CallOk Try.prog 11 sp := gp_11.ok hΓ mix_ok sp h

end Go.Proofs.Ytbponegjfccgfaa.Am
