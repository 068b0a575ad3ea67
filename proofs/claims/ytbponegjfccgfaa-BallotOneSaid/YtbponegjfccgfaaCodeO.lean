/-
  THE FUNCTIONS' ABSTRACT CODE, as Lean's own reduction of compCode printed it, with notes (genac.py); each is held against the translation by the kernel.
-/
import Derived.Test.YtbponegjfccgfaaAmJ
import Derived.Test.YtbponegjfccgfaaProg
import Derived.Test.YtbponegjfccgfaaCode
namespace Go.Proofs.Ytbponegjfccgfaa.Am
set_option linter.unusedSimpArgs false
set_option linter.unusedVariables false
open Go Go.Proofs
variable {Γ : Env} {N : Nat} {Q : Post} {ts : Tm} {m : List Blk}
/-- I k is the state with at most k rounds to go; R what holds when the loop is left. -/
theorem wp_loopR {keep : List Nat} {b c : ACode} {i : Nat} (R : Tm → List Blk → Prop) (I : Nat → Tm → List Blk → Prop) (n : Nat) (h0 : into N keep (I n) ts m)
    (h1 : ∀ W : Tm → List Blk → Prop, (∀ ts m, R ts m → W ts m) → ∀ n ts m, I n ts m → wpA Γ N b (AExit.thenA (fun ts' m' => ∃ k, k < n ∧ into N keep (I k) ts' m') (AExit.inBlk i (AExit.thenA W Q))) ts m)
    (hr : ∀ ts m, R ts m → wpA Γ N c Q ts m) : wpA Γ N (.loop keep b) (AExit.inBlk i (AExit.thenA (wpA Γ N c Q) Q)) ts m := ⟨I, n, h0, h1 _ hr⟩
end Go.Proofs.Ytbponegjfccgfaa.Am
namespace Go.Proofs.Ytbponegjfccgfaa.Am
set_option linter.unusedSimpArgs false
set_option linter.unusedVariables false
open Go Go.Proofs
variable {Γ : Env} {N : Nat} {Q : Post} {ts : Tm} {m : List Blk}
theorem into_mono {keep : List Nat} {J K : Tm → List Blk → Prop} (hk : ∀ ts m, J ts m → K ts m) (h : into N keep J ts m) : into N keep K ts m := by
  obtain ⟨ad, ids, h⟩ := h
  refine ⟨ad, ids, ?_⟩
  cases ha : adoptA ad ts m with
  | none => rw [ha] at h; exact h.elim
  | some p =>
    rw [ha] at h
    exact ⟨h.1, h.2.1, hk _ _ h.2.2⟩
theorem wp_drawsR {p : Plan} {pre : List (List Nat)} {ops : List AOper} {ks keep : List Nat} {c : ACode} (R : Tm → List Blk → Prop)
    (h : ∀ W : Tm → List Blk → Prop, (∀ ts m, into N keep R (tkill ks ts) m → W ts m) → wpA Γ N (.draws p pre ops) (AExit.thenA W Q) ts m)
    (hr : ∀ ts m, R ts m → wpA Γ N c Q ts m) : wpA Γ N (.seq (.draws p pre ops) (.drop ks (.pack keep c))) Q ts m := h _ fun _ _ hh => into_mono hr hh
theorem wp_drawsRS {p : Plan} {pre : List (List Nat)} {ops : List AOper} {ks keep : List Nat} {c d : ACode} (R : Tm → List Blk → Prop)
    (h : ∀ W : Tm → List Blk → Prop, (∀ ts m, into N keep R (tkill ks ts) m → W ts m) → wpA Γ N (.draws p pre ops) (AExit.thenA W Q) ts m)
    (hr : ∀ ts m, R ts m → wpA Γ N (.seq c d) Q ts m) : wpA Γ N (.seq (.draws p pre ops) (.seq (.drop ks (.pack keep c)) d)) Q ts m := h _ fun _ _ hh => into_mono hr hh
end Go.Proofs.Ytbponegjfccgfaa.Am
namespace Go.Proofs.Ytbponegjfccgfaa.Am
set_option linter.unusedSimpArgs false
set_option linter.unusedVariables false
open Go Go.Proofs
set_option maxRecDepth 100000


/-- chantry/chantrylaw12.BallotOne -/
def acp_10 : ACode :=
 (.seq
  (.region false [] [⟨some 2, .box (.t 0), none, [0]⟩, ⟨some 4, .mov (.c (.bool false)), none, []⟩])
 (.seal_ 2
  (.seq
   (.seq
    (.region false [] [⟨some 16, .call 24 [], none, []⟩, ⟨some 17, .un .not (.t 16), none, [16]⟩])
   (.cond (.t 17)
     (.drop [1, 2, 17]
      (.seq
       (.region false [] [⟨some 4, .mov (.c (.bool false)), none, []⟩])
      .ret))
     (.drop [17]
      .skip)))
  (.seq
   (.region false [] [⟨some 18, .ld true 2 (.t 2), none, []⟩, ⟨some 19, .bld [.int .i64 0, .int .u16 0, .slice none 0 0] [(0, 2, .t 18)], none, [18]⟩, ⟨some 5, .alloc [.int .i64 0, .int .u16 0, .slice none 0 0], none, []⟩, ⟨none, .st 3 (.t 5) (.t 19), none, [19]⟩])
  (.seq
   (.region false [] [⟨some 20, .fad 1 (.t 2), none, []⟩, ⟨some 21, .ld false 1 (.t 20), none, [20]⟩, ⟨some 22, .call 35 [.t 21], none, [21]⟩, ⟨some 6, .mov (.t 22), none, [22]⟩])
  (.seq
   (.region false [] [⟨some 7, .alloc [.bool false, .int .u8 0], none, []⟩])
  (.seq
   (.region false [] [⟨some 8, .mov (.c (.bool false)), none, []⟩])
  (.seq
   (.seq
    (.region false [] [⟨some 9, .mov (.c (.int .i64 0)), none, []⟩])
   (.block 0
    (.loop [1, 2, 5, 6, 7, 8, 9]
     (.seq
      (.seq
       (.region false [] [⟨some 23, .mov (.t 9), none, []⟩, ⟨some 24, .mov (.t 1), none, []⟩, ⟨some 25, .len false (.t 24), none, [24]⟩, ⟨some 26, .bin false .lss (.t 23) (.t 25), none, [23, 25]⟩, ⟨some 27, .mov (.t 26), none, [26]⟩, ⟨some 28, .mov (.t 9), some (27, true), []⟩, ⟨some 29, .bin false .lss (.t 28) (.c (.int .i64 60)), some (27, true), [28]⟩, ⟨some 30, .pick (.t 27) (.t 29) (.c (.bool false)), none, [27, 29]⟩])
      (.cond (.t 30)
        (.drop [30]
         .skip)
        (.drop [1, 2, 5, 6, 7, 8, 9, 30]
         (.exit 0))))
     (.seq
      (.block 1
       (.seq
        (.draws (.tak 1 ⟨some 35, .mov (.t 1), none, []⟩ (.tak 2 ⟨some 36, .mov (.t 9), none, []⟩ (.tak 3 ⟨some 37, .iax 3 (.t 35) (.t 36), none, []⟩ (.tak 4 ⟨some 38, .ld true 3 (.t 37), none, []⟩ (.alt 0 ⟨some 34, .ld true 3 (.t 5), none, []⟩ (.alt 5 ⟨some 39, .call 27 [.t 38], none, []⟩ (.alt 6 ⟨some 40, .call 25 [.t 34, .t 39], none, []⟩ (.tak 7 ⟨some 33, .mov (.t 40), none, []⟩ (.tak 8 ⟨some 41, .ext 0 (.t 33), none, []⟩ (.tak 9 ⟨some 42, .ext 1 (.t 33), none, []⟩ (.alt 10 ⟨some 10, .alloc [.int .i64 0, .int .u16 0, .slice none 0 0], none, []⟩ (.alt 11 ⟨none, .st 3 (.t 10) (.t 41), none, []⟩ (.tak 12 ⟨some 11, .mov (.t 42), none, []⟩ .done) .stop) .stop)))) (.alt 10 ⟨some 10, .alloc [.int .i64 0, .int .u16 0, .slice none 0 0], none, []⟩ (.alt 6 ⟨some 40, .call 25 [.t 34, .t 39], none, []⟩ (.tak 7 ⟨some 33, .mov (.t 40), none, []⟩ (.tak 8 ⟨some 41, .ext 0 (.t 33), none, []⟩ (.tak 9 ⟨some 42, .ext 1 (.t 33), none, []⟩ (.alt 11 ⟨none, .st 3 (.t 10) (.t 41), none, []⟩ (.tak 12 ⟨some 11, .mov (.t 42), none, []⟩ .done) .stop)))) .stop) .stop)) (.alt 10 ⟨some 10, .alloc [.int .i64 0, .int .u16 0, .slice none 0 0], none, []⟩ (.alt 5 ⟨some 39, .call 27 [.t 38], none, []⟩ (.alt 6 ⟨some 40, .call 25 [.t 34, .t 39], none, []⟩ (.tak 7 ⟨some 33, .mov (.t 40), none, []⟩ (.tak 8 ⟨some 41, .ext 0 (.t 33), none, []⟩ (.tak 9 ⟨some 42, .ext 1 (.t 33), none, []⟩ (.alt 11 ⟨none, .st 3 (.t 10) (.t 41), none, []⟩ (.tak 12 ⟨some 11, .mov (.t 42), none, []⟩ .done) .stop)))) .stop) .stop) .stop)) (.alt 5 ⟨some 39, .call 27 [.t 38], none, []⟩ (.alt 0 ⟨some 34, .ld true 3 (.t 5), none, []⟩ (.alt 6 ⟨some 40, .call 25 [.t 34, .t 39], none, []⟩ (.tak 7 ⟨some 33, .mov (.t 40), none, []⟩ (.tak 8 ⟨some 41, .ext 0 (.t 33), none, []⟩ (.tak 9 ⟨some 42, .ext 1 (.t 33), none, []⟩ (.alt 10 ⟨some 10, .alloc [.int .i64 0, .int .u16 0, .slice none 0 0], none, []⟩ (.alt 11 ⟨none, .st 3 (.t 10) (.t 41), none, []⟩ (.tak 12 ⟨some 11, .mov (.t 42), none, []⟩ .done) .stop) .stop)))) (.alt 10 ⟨some 10, .alloc [.int .i64 0, .int .u16 0, .slice none 0 0], none, []⟩ (.alt 6 ⟨some 40, .call 25 [.t 34, .t 39], none, []⟩ (.tak 7 ⟨some 33, .mov (.t 40), none, []⟩ (.tak 8 ⟨some 41, .ext 0 (.t 33), none, []⟩ (.tak 9 ⟨some 42, .ext 1 (.t 33), none, []⟩ (.alt 11 ⟨none, .st 3 (.t 10) (.t 41), none, []⟩ (.tak 12 ⟨some 11, .mov (.t 42), none, []⟩ .done) .stop)))) .stop) .stop)) (.alt 10 ⟨some 10, .alloc [.int .i64 0, .int .u16 0, .slice none 0 0], none, []⟩ (.alt 0 ⟨some 34, .ld true 3 (.t 5), none, []⟩ (.alt 6 ⟨some 40, .call 25 [.t 34, .t 39], none, []⟩ (.tak 7 ⟨some 33, .mov (.t 40), none, []⟩ (.tak 8 ⟨some 41, .ext 0 (.t 33), none, []⟩ (.tak 9 ⟨some 42, .ext 1 (.t 33), none, []⟩ (.alt 11 ⟨none, .st 3 (.t 10) (.t 41), none, []⟩ (.tak 12 ⟨some 11, .mov (.t 42), none, []⟩ .done) .stop)))) .stop) .stop) .stop)) (.alt 10 ⟨some 10, .alloc [.int .i64 0, .int .u16 0, .slice none 0 0], none, []⟩ (.alt 0 ⟨some 34, .ld true 3 (.t 5), none, []⟩ (.alt 5 ⟨some 39, .call 27 [.t 38], none, []⟩ (.alt 6 ⟨some 40, .call 25 [.t 34, .t 39], none, []⟩ (.tak 7 ⟨some 33, .mov (.t 40), none, []⟩ (.tak 8 ⟨some 41, .ext 0 (.t 33), none, []⟩ (.tak 9 ⟨some 42, .ext 1 (.t 33), none, []⟩ (.alt 11 ⟨none, .st 3 (.t 10) (.t 41), none, []⟩ (.tak 12 ⟨some 11, .mov (.t 42), none, []⟩ .done) .stop)))) .stop) .stop) (.alt 5 ⟨some 39, .call 27 [.t 38], none, []⟩ (.alt 0 ⟨some 34, .ld true 3 (.t 5), none, []⟩ (.alt 6 ⟨some 40, .call 25 [.t 34, .t 39], none, []⟩ (.tak 7 ⟨some 33, .mov (.t 40), none, []⟩ (.tak 8 ⟨some 41, .ext 0 (.t 33), none, []⟩ (.tak 9 ⟨some 42, .ext 1 (.t 33), none, []⟩ (.alt 11 ⟨none, .st 3 (.t 10) (.t 41), none, []⟩ (.tak 12 ⟨some 11, .mov (.t 42), none, []⟩ .done) .stop)))) .stop) .stop) .stop)) .stop))))))) [[], [], [], [1, 2], [3], [4], [0, 5, 5], [6], [7], [7], [], [10, 8, 6, 0, 1, 2, 3, 4, 5, 6, 7, 8, 10], [9, 11, 0, 1, 2, 3, 4, 5, 6, 7, 8, 9, 10, 11]] [⟨some 34, .ld true 3 (.t 5), none, []⟩, ⟨some 35, .mov (.t 1), none, []⟩, ⟨some 36, .mov (.t 9), none, []⟩, ⟨some 37, .iax 3 (.t 35) (.t 36), none, []⟩, ⟨some 38, .ld true 3 (.t 37), none, []⟩, ⟨some 39, .call 27 [.t 38], none, []⟩, ⟨some 40, .call 25 [.t 34, .t 39], none, []⟩, ⟨some 33, .mov (.t 40), none, []⟩, ⟨some 41, .ext 0 (.t 33), none, []⟩, ⟨some 42, .ext 1 (.t 33), none, []⟩, ⟨some 10, .alloc [.int .i64 0, .int .u16 0, .slice none 0 0], none, []⟩, ⟨none, .st 3 (.t 10) (.t 41), none, []⟩, ⟨some 11, .mov (.t 42), none, []⟩])
       (.drop [33, 34, 35, 36, 37, 38, 39, 40, 41, 42]
        (.pack [1, 2, 5, 6, 7, 8, 9, 10, 11]
         (.seq
          (.seq
           (.draws (.tak 0 ⟨some 43, .mov (.t 11), none, []⟩ (.tak 1 ⟨some 44, .bin false .neq (.t 43) (.c (.int .i64 0)), none, []⟩ (.tak 2 ⟨some 45, .mov (.t 44), none, []⟩ (.alt 3 ⟨some 46, .ld true 3 (.t 10), some (45, true), []⟩ (.alt 4 ⟨some 47, .call 32 [.t 46], some (45, true), []⟩ (.alt 5 ⟨some 48, .ld true 3 (.t 5), some (45, true), []⟩ (.alt 6 ⟨some 49, .call 32 [.t 48], some (45, true), []⟩ (.alt 7 ⟨some 50, .call 31 [.t 47, .t 49], some (45, true), []⟩ (.tak 8 ⟨some 51, .un .not (.t 50), some (45, true), []⟩ (.tak 9 ⟨some 52, .pick (.t 45) (.t 51) (.c (.bool false)), none, []⟩ .done)) .stop) .stop) .stop) (.alt 5 ⟨some 48, .ld true 3 (.t 5), some (45, true), []⟩ (.alt 4 ⟨some 47, .call 32 [.t 46], some (45, true), []⟩ (.alt 6 ⟨some 49, .call 32 [.t 48], some (45, true), []⟩ (.alt 7 ⟨some 50, .call 31 [.t 47, .t 49], some (45, true), []⟩ (.tak 8 ⟨some 51, .un .not (.t 50), some (45, true), []⟩ (.tak 9 ⟨some 52, .pick (.t 45) (.t 51) (.c (.bool false)), none, []⟩ .done)) .stop) .stop) .stop) .stop)) (.alt 5 ⟨some 48, .ld true 3 (.t 5), some (45, true), []⟩ (.alt 3 ⟨some 46, .ld true 3 (.t 10), some (45, true), []⟩ (.alt 4 ⟨some 47, .call 32 [.t 46], some (45, true), []⟩ (.alt 6 ⟨some 49, .call 32 [.t 48], some (45, true), []⟩ (.alt 7 ⟨some 50, .call 31 [.t 47, .t 49], some (45, true), []⟩ (.tak 8 ⟨some 51, .un .not (.t 50), some (45, true), []⟩ (.tak 9 ⟨some 52, .pick (.t 45) (.t 51) (.c (.bool false)), none, []⟩ .done)) .stop) .stop) .stop) .stop) .stop))))) [[], [0], [1], [2], [3, 2, 2], [2], [5, 4, 2], [4, 6, 6, 2], [7, 2], [2, 8]] [⟨some 43, .mov (.t 11), none, []⟩, ⟨some 44, .bin false .neq (.t 43) (.c (.int .i64 0)), none, []⟩, ⟨some 45, .mov (.t 44), none, []⟩, ⟨some 46, .ld true 3 (.t 10), some (45, true), []⟩, ⟨some 47, .call 32 [.t 46], some (45, true), []⟩, ⟨some 48, .ld true 3 (.t 5), some (45, true), []⟩, ⟨some 49, .call 32 [.t 48], some (45, true), []⟩, ⟨some 50, .call 31 [.t 47, .t 49], some (45, true), []⟩, ⟨some 51, .un .not (.t 50), some (45, true), []⟩, ⟨some 52, .pick (.t 45) (.t 51) (.c (.bool false)), none, []⟩])
          (.drop [11, 43, 44, 45, 46, 47, 48, 49, 50, 51]
           (.pack [1, 2, 5, 6, 7, 8, 9, 10, 52]
            (.cond (.t 52)
              (.drop [1, 2, 5, 6, 7, 8, 9, 10, 52]
               (.seq
                (.region false [] [⟨some 4, .mov (.c (.bool false)), none, []⟩])
               .ret))
              (.drop [52]
               .skip)))))
         (.seq
          (.region false [] [⟨some 53, .ld true 3 (.t 10), none, [10]⟩, ⟨none, .st 3 (.t 5) (.t 53), none, [53]⟩])
         (.seq
          (.region false [] [⟨some 55, .ld true 3 (.t 5), none, []⟩, ⟨some 56, .call 29 [.t 55], none, [55]⟩, ⟨some 54, .mov (.t 56), none, [56]⟩, ⟨some 57, .ext 0 (.t 54), none, []⟩, ⟨some 58, .ext 1 (.t 54), none, [54]⟩, ⟨some 12, .alloc [.bool false, .int .u8 0], none, []⟩, ⟨none, .st 2 (.t 12) (.t 57), none, [57]⟩, ⟨some 13, .mov (.t 58), none, [58]⟩])
         (.seal_ 12
          (.seq
           (.seq
            (.region false [] [⟨some 59, .mov (.t 13), none, []⟩])
           (.cond (.t 59)
             (.drop [59]
              (.seq
               (.region false [] [⟨some 61, .ld true 2 (.t 2), none, []⟩, ⟨some 62, .ld true 2 (.t 12), none, []⟩, ⟨some 63, .call 36 [.t 61, .t 62], none, [61, 62]⟩, ⟨some 60, .mov (.t 63), none, [63]⟩, ⟨some 64, .ext 0 (.t 60), none, []⟩, ⟨some 65, .ext 1 (.t 60), none, [60]⟩, ⟨some 14, .alloc [.int .i64 0, .int .u16 0], none, []⟩, ⟨none, .st 2 (.t 14) (.t 64), none, [14, 64]⟩, ⟨some 15, .mov (.t 65), none, [65]⟩])
              (.seal_ 14
               (.seq
                (.region false [] [⟨some 66, .mov (.t 15), none, [15]⟩, ⟨some 67, .bin false .neq (.t 66) (.c (.int .i64 0)), none, [66]⟩, ⟨some 68, .mov (.t 67), none, [67]⟩, ⟨some 69, .ld true 3 (.t 5), some (68, false), []⟩, ⟨some 70, .ld true 2 (.t 12), some (68, false), []⟩, ⟨some 71, .call 33 [.t 69, .t 70], some (68, false), [69, 70]⟩, ⟨some 72, .call 35 [.t 71], some (68, false), [71]⟩, ⟨some 73, .mov (.t 6), some (68, false), []⟩, ⟨some 74, .call 37 [.t 73], some (68, false), [73]⟩, ⟨some 75, .bin false .lss (.t 72) (.t 74), some (68, false), [72, 74]⟩, ⟨some 76, .pick (.t 68) (.c (.bool true)) (.t 75), none, [68, 75]⟩])
               (.cond (.t 76)
                 (.drop [1, 2, 5, 6, 7, 8, 9, 12, 13, 76]
                  (.seq
                   (.region false [] [⟨some 4, .mov (.c (.bool false)), none, []⟩])
                  .ret))
                 (.drop [76]
                  .skip))))))
             (.drop [59]
              .skip)))
          (.seq
           (.seq
            (.region false [] [⟨some 77, .mov (.t 8), none, []⟩, ⟨some 78, .mov (.t 77), none, [77]⟩, ⟨some 79, .mov (.t 13), some (78, true), []⟩, ⟨some 80, .un .not (.t 79), some (78, true), [79]⟩, ⟨some 81, .mov (.t 80), some (78, true), [80]⟩, ⟨some 82, .ld true 2 (.t 12), some (81, false), []⟩, ⟨some 83, .ld true 2 (.t 7), some (81, false), []⟩, ⟨some 84, .eqs true [.b, .i] (.t 82) (.t 83), some (81, false), [82, 83]⟩, ⟨some 85, .pick (.t 81) (.c (.bool true)) (.t 84), some (78, true), [81, 84]⟩, ⟨some 86, .pick (.t 78) (.t 85) (.c (.bool false)), none, [78, 85]⟩])
           (.cond (.t 86)
             (.drop [1, 2, 5, 6, 7, 8, 9, 12, 13, 86]
              (.seq
               (.region false [] [⟨some 4, .mov (.c (.bool false)), none, []⟩])
              .ret))
             (.drop [86]
              .skip)))
          (.region false [] [⟨some 87, .ld true 2 (.t 12), none, [12]⟩, ⟨some 88, .mov (.t 8), none, [8]⟩, ⟨some 89, .mov (.t 88), none, [88]⟩, ⟨some 90, .mov (.t 13), some (89, false), [13]⟩, ⟨some 91, .pick (.t 89) (.c (.bool true)) (.t 90), none, [89, 90]⟩, ⟨none, .st 2 (.t 7) (.t 87), none, [87]⟩, ⟨some 8, .mov (.t 91), none, [91]⟩])))))))))))
     (.region false [] [⟨some 31, .mov (.t 9), none, [9]⟩, ⟨some 32, .bin false .add (.t 31) (.c (.int .i64 1)), none, [31]⟩, ⟨some 9, .mov (.t 32), none, [32]⟩]))))))
  (.seq
   (.region false [] [⟨some 4, .mov (.c (.bool true)), none, []⟩])
  .ret)))))))))
def rsp_10 : List ARes := [.tmp 4]
theorem gp_10 : Good Try.prog 10 acp_10 rsp_10 := ⟨Try.f10, Try.f10.body.getD .skip, by kernel_rfl, by kernel_rfl, by kernel_rfl, ⟨by kernel_rfl, by kernel_rfl⟩, by kernel_rfl, by kernel_rfl⟩
theorem okp_10 {Γ : Env} (hΓ : EnvOk Try.prog Γ) (sp : Spec) (h : WB Γ acp_10 rsp_10 sp) : CallOk Try.prog 10 sp := gp_10.ok hΓ mix_ok sp h

end Go.Proofs.Ytbponegjfccgfaa.Am
