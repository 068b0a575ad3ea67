/-
  THE FUNCTIONS' ABSTRACT CODE, as Lean's own reduction of compCode printed it, with notes (genac.py); each is held against the translation by the kernel.
-/
import Derived.Test.YtbponegjfccgfaaAmJ
import Derived.Test.YtbponegjfccgfaaProg
import Derived.Test.YtbponegjfccgfaaCode
namespace Go.Proofs.Ytbponegjfccgfaa.Am
set_option linter.unusedSimpArgs false
set_option linter.unusedVariables false
open Go Go.Proofs
variable {Γ : Env} {N : Nat} {Q : Post} {ts : Tm} {m : List Blk}
/-- I k is the state with at most k rounds to go; R what holds when the loop is left. -/
theorem wp_loopR {keep : List Nat} {b c : ACode} {i : Nat} (R : Tm → List Blk → Prop) (I : Nat → Tm → List Blk → Prop) (n : Nat) (h0 : into N keep (I n) ts m)
    (h1 : ∀ W : Tm → List Blk → Prop, (∀ ts m, R ts m → W ts m) → ∀ n ts m, I n ts m → wpA Γ N b (AExit.thenA (fun ts' m' => ∃ k, k < n ∧ into N keep (I k) ts' m') (AExit.inBlk i (AExit.thenA W Q))) ts m)
    (hr : ∀ ts m, R ts m → wpA Γ N c Q ts m) : wpA Γ N (.loop keep b) (AExit.inBlk i (AExit.thenA (wpA Γ N c Q) Q)) ts m := ⟨I, n, h0, h1 _ hr⟩
end Go.Proofs.Ytbponegjfccgfaa.Am
namespace Go.Proofs.Ytbponegjfccgfaa.Am
set_option linter.unusedSimpArgs false
set_option linter.unusedVariables false
open Go Go.Proofs
variable {Γ : Env} {N : Nat} {Q : Post} {ts : Tm} {m : List Blk}
theorem into_mono {keep : List Nat} {J K : Tm → List Blk → Prop} (hk : ∀ ts m, J ts m → K ts m) (h : into N keep J ts m) : into N keep K ts m := by
  obtain ⟨ad, ids, h⟩ := h
  refine ⟨ad, ids, ?_⟩
  cases ha : adoptA ad ts m with
  | none => rw [ha] at h; exact h.elim
  | some p =>
    rw [ha] at h
    exact ⟨h.1, h.2.1, hk _ _ h.2.2⟩
theorem wp_drawsR {p : Plan} {pre : List (List Nat)} {ops : List AOper} {ks keep : List Nat} {c : ACode} (R : Tm → List Blk → Prop)
    (h : ∀ W : Tm → List Blk → Prop, (∀ ts m, into N keep R (tkill ks ts) m → W ts m) → wpA Γ N (.draws p pre ops) (AExit.thenA W Q) ts m)
    (hr : ∀ ts m, R ts m → wpA Γ N c Q ts m) : wpA Γ N (.seq (.draws p pre ops) (.drop ks (.pack keep c))) Q ts m := h _ fun _ _ hh => into_mono hr hh
theorem wp_drawsRS {p : Plan} {pre : List (List Nat)} {ops : List AOper} {ks keep : List Nat} {c d : ACode} (R : Tm → List Blk → Prop)
    (h : ∀ W : Tm → List Blk → Prop, (∀ ts m, into N keep R (tkill ks ts) m → W ts m) → wpA Γ N (.draws p pre ops) (AExit.thenA W Q) ts m)
    (hr : ∀ ts m, R ts m → wpA Γ N (.seq c d) Q ts m) : wpA Γ N (.seq (.draws p pre ops) (.seq (.drop ks (.pack keep c)) d)) Q ts m := h _ fun _ _ hh => into_mono hr hh
end Go.Proofs.Ytbponegjfccgfaa.Am
namespace Go.Proofs.Ytbponegjfccgfaa.Am
set_option linter.unusedSimpArgs false
set_option linter.unusedVariables false
open Go Go.Proofs
set_option maxRecDepth 100000


/-- chantry/chantrylaw12.BallotRow -/
def acp_9 : ACode :=
 (.seq
  (.region false [] [⟨some 2, .box (.t 0), none, [0]⟩, ⟨some 4, .mov (.c (.bool false)), none, []⟩])
 (.seal_ 2
  (.seq
   (.seq
    (.region false [] [⟨some 16, .call 24 [], none, []⟩, ⟨some 17, .un .not (.t 16), none, [16]⟩])
   (.cond (.t 17)
     (.drop [1, 2, 17]
      (.seq
       (.region false [] [⟨some 4, .mov (.c (.bool false)), none, []⟩])
      .ret))
     (.drop [17]
      .skip)))
  (.seq
   (.region false [] [⟨some 18, .ld true 2 (.t 2), none, []⟩, ⟨some 19, .bld [.int .i64 0, .int .u16 0, .slice none 0 0] [(0, 2, .t 18)], none, [18]⟩, ⟨some 5, .alloc [.int .i64 0, .int .u16 0, .slice none 0 0], none, []⟩, ⟨none, .st 3 (.t 5) (.t 19), none, [19]⟩])
  (.seq
   (.region false [] [⟨some 20, .ld true 2 (.t 2), none, [2]⟩, ⟨some 21, .bld [.int .i64 0, .int .u16 0, .slice none 0 0] [(0, 2, .t 20)], none, [20]⟩, ⟨some 6, .alloc [.int .i64 0, .int .u16 0, .slice none 0 0], none, []⟩, ⟨none, .st 3 (.t 6) (.t 21), none, [21]⟩])
  (.seq
   (.seq
    (.region false [] [⟨some 7, .mov (.c (.int .i64 0)), none, []⟩])
   (.block 0
    (.loop [1, 5, 6, 7]
     (.seq
      (.seq
       (.region false [] [⟨some 22, .mov (.t 7), none, []⟩, ⟨some 23, .mov (.t 1), none, []⟩, ⟨some 24, .len false (.t 23), none, [23]⟩, ⟨some 25, .bin false .lss (.t 22) (.t 24), none, [22, 24]⟩, ⟨some 26, .mov (.t 25), none, [25]⟩, ⟨some 27, .mov (.t 7), some (26, true), []⟩, ⟨some 28, .bin false .lss (.t 27) (.c (.int .i64 60)), some (26, true), [27]⟩, ⟨some 29, .pick (.t 26) (.t 28) (.c (.bool false)), none, [26, 28]⟩])
      (.cond (.t 29)
        (.drop [29]
         .skip)
        (.drop [1, 5, 6, 7, 29]
         (.exit 0))))
     (.seq
      (.block 1
       (.seq
        (.draws (.tak 1 ⟨some 34, .mov (.t 1), none, []⟩ (.tak 2 ⟨some 35, .mov (.t 7), none, []⟩ (.tak 3 ⟨some 36, .iax 3 (.t 34) (.t 35), none, []⟩ (.tak 4 ⟨some 37, .ld true 3 (.t 36), none, []⟩ (.alt 0 ⟨some 33, .ld true 3 (.t 5), none, []⟩ (.alt 5 ⟨some 38, .call 27 [.t 37], none, []⟩ (.alt 6 ⟨some 39, .call 25 [.t 33, .t 38], none, []⟩ (.tak 7 ⟨some 32, .mov (.t 39), none, []⟩ (.tak 8 ⟨some 40, .ext 0 (.t 32), none, []⟩ (.tak 9 ⟨some 41, .ext 1 (.t 32), none, []⟩ (.alt 10 ⟨some 8, .alloc [.int .i64 0, .int .u16 0, .slice none 0 0], none, []⟩ (.alt 11 ⟨none, .st 3 (.t 8) (.t 40), none, []⟩ (.tak 12 ⟨some 9, .mov (.t 41), none, []⟩ .done) .stop) .stop)))) (.alt 10 ⟨some 8, .alloc [.int .i64 0, .int .u16 0, .slice none 0 0], none, []⟩ (.alt 6 ⟨some 39, .call 25 [.t 33, .t 38], none, []⟩ (.tak 7 ⟨some 32, .mov (.t 39), none, []⟩ (.tak 8 ⟨some 40, .ext 0 (.t 32), none, []⟩ (.tak 9 ⟨some 41, .ext 1 (.t 32), none, []⟩ (.alt 11 ⟨none, .st 3 (.t 8) (.t 40), none, []⟩ (.tak 12 ⟨some 9, .mov (.t 41), none, []⟩ .done) .stop)))) .stop) .stop)) (.alt 10 ⟨some 8, .alloc [.int .i64 0, .int .u16 0, .slice none 0 0], none, []⟩ (.alt 5 ⟨some 38, .call 27 [.t 37], none, []⟩ (.alt 6 ⟨some 39, .call 25 [.t 33, .t 38], none, []⟩ (.tak 7 ⟨some 32, .mov (.t 39), none, []⟩ (.tak 8 ⟨some 40, .ext 0 (.t 32), none, []⟩ (.tak 9 ⟨some 41, .ext 1 (.t 32), none, []⟩ (.alt 11 ⟨none, .st 3 (.t 8) (.t 40), none, []⟩ (.tak 12 ⟨some 9, .mov (.t 41), none, []⟩ .done) .stop)))) .stop) .stop) .stop)) (.alt 5 ⟨some 38, .call 27 [.t 37], none, []⟩ (.alt 0 ⟨some 33, .ld true 3 (.t 5), none, []⟩ (.alt 6 ⟨some 39, .call 25 [.t 33, .t 38], none, []⟩ (.tak 7 ⟨some 32, .mov (.t 39), none, []⟩ (.tak 8 ⟨some 40, .ext 0 (.t 32), none, []⟩ (.tak 9 ⟨some 41, .ext 1 (.t 32), none, []⟩ (.alt 10 ⟨some 8, .alloc [.int .i64 0, .int .u16 0, .slice none 0 0], none, []⟩ (.alt 11 ⟨none, .st 3 (.t 8) (.t 40), none, []⟩ (.tak 12 ⟨some 9, .mov (.t 41), none, []⟩ .done) .stop) .stop)))) (.alt 10 ⟨some 8, .alloc [.int .i64 0, .int .u16 0, .slice none 0 0], none, []⟩ (.alt 6 ⟨some 39, .call 25 [.t 33, .t 38], none, []⟩ (.tak 7 ⟨some 32, .mov (.t 39), none, []⟩ (.tak 8 ⟨some 40, .ext 0 (.t 32), none, []⟩ (.tak 9 ⟨some 41, .ext 1 (.t 32), none, []⟩ (.alt 11 ⟨none, .st 3 (.t 8) (.t 40), none, []⟩ (.tak 12 ⟨some 9, .mov (.t 41), none, []⟩ .done) .stop)))) .stop) .stop)) (.alt 10 ⟨some 8, .alloc [.int .i64 0, .int .u16 0, .slice none 0 0], none, []⟩ (.alt 0 ⟨some 33, .ld true 3 (.t 5), none, []⟩ (.alt 6 ⟨some 39, .call 25 [.t 33, .t 38], none, []⟩ (.tak 7 ⟨some 32, .mov (.t 39), none, []⟩ (.tak 8 ⟨some 40, .ext 0 (.t 32), none, []⟩ (.tak 9 ⟨some 41, .ext 1 (.t 32), none, []⟩ (.alt 11 ⟨none, .st 3 (.t 8) (.t 40), none, []⟩ (.tak 12 ⟨some 9, .mov (.t 41), none, []⟩ .done) .stop)))) .stop) .stop) .stop)) (.alt 10 ⟨some 8, .alloc [.int .i64 0, .int .u16 0, .slice none 0 0], none, []⟩ (.alt 0 ⟨some 33, .ld true 3 (.t 5), none, []⟩ (.alt 5 ⟨some 38, .call 27 [.t 37], none, []⟩ (.alt 6 ⟨some 39, .call 25 [.t 33, .t 38], none, []⟩ (.tak 7 ⟨some 32, .mov (.t 39), none, []⟩ (.tak 8 ⟨some 40, .ext 0 (.t 32), none, []⟩ (.tak 9 ⟨some 41, .ext 1 (.t 32), none, []⟩ (.alt 11 ⟨none, .st 3 (.t 8) (.t 40), none, []⟩ (.tak 12 ⟨some 9, .mov (.t 41), none, []⟩ .done) .stop)))) .stop) .stop) (.alt 5 ⟨some 38, .call 27 [.t 37], none, []⟩ (.alt 0 ⟨some 33, .ld true 3 (.t 5), none, []⟩ (.alt 6 ⟨some 39, .call 25 [.t 33, .t 38], none, []⟩ (.tak 7 ⟨some 32, .mov (.t 39), none, []⟩ (.tak 8 ⟨some 40, .ext 0 (.t 32), none, []⟩ (.tak 9 ⟨some 41, .ext 1 (.t 32), none, []⟩ (.alt 11 ⟨none, .st 3 (.t 8) (.t 40), none, []⟩ (.tak 12 ⟨some 9, .mov (.t 41), none, []⟩ .done) .stop)))) .stop) .stop) .stop)) .stop))))))) [[], [], [], [1, 2], [3], [4], [0, 5, 5], [6], [7], [7], [], [10, 8, 6, 0, 1, 2, 3, 4, 5, 6, 7, 8, 10], [9, 11, 0, 1, 2, 3, 4, 5, 6, 7, 8, 9, 10, 11]] [⟨some 33, .ld true 3 (.t 5), none, []⟩, ⟨some 34, .mov (.t 1), none, []⟩, ⟨some 35, .mov (.t 7), none, []⟩, ⟨some 36, .iax 3 (.t 34) (.t 35), none, []⟩, ⟨some 37, .ld true 3 (.t 36), none, []⟩, ⟨some 38, .call 27 [.t 37], none, []⟩, ⟨some 39, .call 25 [.t 33, .t 38], none, []⟩, ⟨some 32, .mov (.t 39), none, []⟩, ⟨some 40, .ext 0 (.t 32), none, []⟩, ⟨some 41, .ext 1 (.t 32), none, []⟩, ⟨some 8, .alloc [.int .i64 0, .int .u16 0, .slice none 0 0], none, []⟩, ⟨none, .st 3 (.t 8) (.t 40), none, []⟩, ⟨some 9, .mov (.t 41), none, []⟩])
       (.drop [32, 33, 34, 35, 36, 37, 38, 39, 40, 41]
        (.pack [1, 5, 6, 7, 8, 9]
         (.seq
          (.draws (.tak 1 ⟨some 44, .mov (.t 1), none, []⟩ (.tak 2 ⟨some 45, .mov (.t 7), none, []⟩ (.tak 3 ⟨some 46, .iax 3 (.t 44) (.t 45), none, []⟩ (.tak 4 ⟨some 47, .ld true 3 (.t 46), none, []⟩ (.alt 0 ⟨some 43, .ld true 3 (.t 6), none, []⟩ (.alt 5 ⟨some 48, .call 28 [.t 43, .t 47], none, []⟩ (.tak 6 ⟨some 42, .mov (.t 48), none, []⟩ (.tak 7 ⟨some 49, .ext 0 (.t 42), none, []⟩ (.tak 8 ⟨some 50, .ext 1 (.t 42), none, []⟩ (.alt 9 ⟨some 10, .alloc [.int .i64 0, .int .u16 0, .slice none 0 0], none, []⟩ (.alt 10 ⟨none, .st 3 (.t 10) (.t 49), none, []⟩ (.tak 11 ⟨some 11, .mov (.t 50), none, []⟩ .done) .stop) .stop)))) (.alt 9 ⟨some 10, .alloc [.int .i64 0, .int .u16 0, .slice none 0 0], none, []⟩ (.alt 5 ⟨some 48, .call 28 [.t 43, .t 47], none, []⟩ (.tak 6 ⟨some 42, .mov (.t 48), none, []⟩ (.tak 7 ⟨some 49, .ext 0 (.t 42), none, []⟩ (.tak 8 ⟨some 50, .ext 1 (.t 42), none, []⟩ (.alt 10 ⟨none, .st 3 (.t 10) (.t 49), none, []⟩ (.tak 11 ⟨some 11, .mov (.t 50), none, []⟩ .done) .stop)))) .stop) .stop)) (.alt 9 ⟨some 10, .alloc [.int .i64 0, .int .u16 0, .slice none 0 0], none, []⟩ (.alt 0 ⟨some 43, .ld true 3 (.t 6), none, []⟩ (.alt 5 ⟨some 48, .call 28 [.t 43, .t 47], none, []⟩ (.tak 6 ⟨some 42, .mov (.t 48), none, []⟩ (.tak 7 ⟨some 49, .ext 0 (.t 42), none, []⟩ (.tak 8 ⟨some 50, .ext 1 (.t 42), none, []⟩ (.alt 10 ⟨none, .st 3 (.t 10) (.t 49), none, []⟩ (.tak 11 ⟨some 11, .mov (.t 50), none, []⟩ .done) .stop)))) .stop) .stop) .stop)))))) [[], [], [], [1, 2], [3], [0, 4], [5], [6], [6], [], [9, 7, 5, 0, 1, 2, 3, 4, 5, 6, 7, 9], [8, 10, 0, 1, 2, 3, 4, 5, 6, 7, 8, 9, 10]] [⟨some 43, .ld true 3 (.t 6), none, []⟩, ⟨some 44, .mov (.t 1), none, []⟩, ⟨some 45, .mov (.t 7), none, []⟩, ⟨some 46, .iax 3 (.t 44) (.t 45), none, []⟩, ⟨some 47, .ld true 3 (.t 46), none, []⟩, ⟨some 48, .call 28 [.t 43, .t 47], none, []⟩, ⟨some 42, .mov (.t 48), none, []⟩, ⟨some 49, .ext 0 (.t 42), none, []⟩, ⟨some 50, .ext 1 (.t 42), none, []⟩, ⟨some 10, .alloc [.int .i64 0, .int .u16 0, .slice none 0 0], none, []⟩, ⟨none, .st 3 (.t 10) (.t 49), none, []⟩, ⟨some 11, .mov (.t 50), none, []⟩])
         (.drop [42, 43, 44, 45, 46, 47, 48, 49, 50]
          (.pack [1, 5, 6, 7, 8, 9, 10, 11]
           (.seq
            (.region false [] [⟨some 51, .ld true 3 (.t 8), none, [8]⟩, ⟨none, .st 3 (.t 5) (.t 51), none, [51]⟩])
           (.seq
            (.region false [] [⟨some 52, .ld true 3 (.t 10), none, [10]⟩, ⟨none, .st 3 (.t 6) (.t 52), none, [52]⟩])
           (.seq
            (.region false [] [⟨some 54, .ld true 3 (.t 5), none, []⟩, ⟨some 55, .call 29 [.t 54], none, [54]⟩, ⟨some 53, .mov (.t 55), none, [55]⟩, ⟨some 56, .ext 0 (.t 53), none, []⟩, ⟨some 57, .ext 1 (.t 53), none, [53]⟩, ⟨some 12, .alloc [.bool false, .int .u8 0], none, []⟩, ⟨none, .st 2 (.t 12) (.t 56), none, [56]⟩, ⟨some 13, .mov (.t 57), none, [57]⟩])
           (.seal_ 12
            (.seq
             (.region false [] [⟨some 59, .ld true 3 (.t 6), none, []⟩, ⟨some 60, .call 30 [.t 59], none, [59]⟩, ⟨some 58, .mov (.t 60), none, [60]⟩, ⟨some 61, .ext 0 (.t 58), none, []⟩, ⟨some 62, .ext 1 (.t 58), none, [58]⟩, ⟨some 14, .alloc [.bool false, .int .u8 0], none, []⟩, ⟨none, .st 2 (.t 14) (.t 61), none, [61]⟩, ⟨some 15, .mov (.t 62), none, [62]⟩])
            (.seal_ 14
             (.seq
              (.draws (.tak 0 ⟨some 63, .mov (.t 9), none, []⟩ (.tak 1 ⟨some 64, .mov (.t 11), none, []⟩ (.tak 2 ⟨some 65, .bin false .neq (.t 63) (.t 64), none, []⟩ (.tak 3 ⟨some 66, .mov (.t 65), none, []⟩ (.alt 4 ⟨some 67, .ld true 3 (.t 5), some (66, false), []⟩ (.alt 5 ⟨some 68, .call 32 [.t 67], some (66, false), []⟩ (.alt 6 ⟨some 69, .ld true 3 (.t 6), some (66, false), []⟩ (.alt 7 ⟨some 70, .call 31 [.t 68, .t 69], some (66, false), []⟩ (.tak 8 ⟨some 71, .un .not (.t 70), some (66, false), []⟩ (.tak 9 ⟨some 72, .pick (.t 66) (.c (.bool true)) (.t 71), none, []⟩ (.tak 10 ⟨some 73, .mov (.t 72), none, []⟩ (.tak 11 ⟨some 74, .ld true 2 (.t 12), some (73, false), []⟩ (.tak 12 ⟨some 75, .ld true 2 (.t 14), some (73, false), []⟩ (.tak 13 ⟨some 76, .eqs true [.b, .i] (.t 74) (.t 75), some (73, false), []⟩ (.tak 14 ⟨some 77, .pick (.t 73) (.c (.bool true)) (.t 76), none, []⟩ (.tak 15 ⟨some 78, .mov (.t 77), none, []⟩ (.tak 16 ⟨some 79, .mov (.t 13), some (78, false), []⟩ (.tak 17 ⟨some 80, .mov (.t 15), some (78, false), []⟩ (.tak 18 ⟨some 81, .bin true .neq (.t 79) (.t 80), some (78, false), []⟩ (.tak 19 ⟨some 82, .pick (.t 78) (.c (.bool true)) (.t 81), none, []⟩ .done)))))))))))) .stop) .stop) (.alt 6 ⟨some 69, .ld true 3 (.t 6), some (66, false), []⟩ (.alt 5 ⟨some 68, .call 32 [.t 67], some (66, false), []⟩ (.alt 7 ⟨some 70, .call 31 [.t 68, .t 69], some (66, false), []⟩ (.tak 8 ⟨some 71, .un .not (.t 70), some (66, false), []⟩ (.tak 9 ⟨some 72, .pick (.t 66) (.c (.bool true)) (.t 71), none, []⟩ (.tak 10 ⟨some 73, .mov (.t 72), none, []⟩ (.tak 11 ⟨some 74, .ld true 2 (.t 12), some (73, false), []⟩ (.tak 12 ⟨some 75, .ld true 2 (.t 14), some (73, false), []⟩ (.tak 13 ⟨some 76, .eqs true [.b, .i] (.t 74) (.t 75), some (73, false), []⟩ (.tak 14 ⟨some 77, .pick (.t 73) (.c (.bool true)) (.t 76), none, []⟩ (.tak 15 ⟨some 78, .mov (.t 77), none, []⟩ (.tak 16 ⟨some 79, .mov (.t 13), some (78, false), []⟩ (.tak 17 ⟨some 80, .mov (.t 15), some (78, false), []⟩ (.tak 18 ⟨some 81, .bin true .neq (.t 79) (.t 80), some (78, false), []⟩ (.tak 19 ⟨some 82, .pick (.t 78) (.c (.bool true)) (.t 81), none, []⟩ .done)))))))))))) .stop) .stop) .stop)) (.alt 6 ⟨some 69, .ld true 3 (.t 6), some (66, false), []⟩ (.alt 4 ⟨some 67, .ld true 3 (.t 5), some (66, false), []⟩ (.alt 5 ⟨some 68, .call 32 [.t 67], some (66, false), []⟩ (.alt 7 ⟨some 70, .call 31 [.t 68, .t 69], some (66, false), []⟩ (.tak 8 ⟨some 71, .un .not (.t 70), some (66, false), []⟩ (.tak 9 ⟨some 72, .pick (.t 66) (.c (.bool true)) (.t 71), none, []⟩ (.tak 10 ⟨some 73, .mov (.t 72), none, []⟩ (.tak 11 ⟨some 74, .ld true 2 (.t 12), some (73, false), []⟩ (.tak 12 ⟨some 75, .ld true 2 (.t 14), some (73, false), []⟩ (.tak 13 ⟨some 76, .eqs true [.b, .i] (.t 74) (.t 75), some (73, false), []⟩ (.tak 14 ⟨some 77, .pick (.t 73) (.c (.bool true)) (.t 76), none, []⟩ (.tak 15 ⟨some 78, .mov (.t 77), none, []⟩ (.tak 16 ⟨some 79, .mov (.t 13), some (78, false), []⟩ (.tak 17 ⟨some 80, .mov (.t 15), some (78, false), []⟩ (.tak 18 ⟨some 81, .bin true .neq (.t 79) (.t 80), some (78, false), []⟩ (.tak 19 ⟨some 82, .pick (.t 78) (.c (.bool true)) (.t 81), none, []⟩ .done)))))))))))) .stop) .stop) .stop) .stop)))))) [[], [], [0, 1], [2], [3], [4, 3, 3], [3], [5, 6, 5, 3], [7, 3], [3, 8], [9, 7], [10], [10], [11, 12, 10], [10, 13], [14, 10], [15], [15], [16, 17, 15], [15, 18]] [⟨some 63, .mov (.t 9), none, []⟩, ⟨some 64, .mov (.t 11), none, []⟩, ⟨some 65, .bin false .neq (.t 63) (.t 64), none, []⟩, ⟨some 66, .mov (.t 65), none, []⟩, ⟨some 67, .ld true 3 (.t 5), some (66, false), []⟩, ⟨some 68, .call 32 [.t 67], some (66, false), []⟩, ⟨some 69, .ld true 3 (.t 6), some (66, false), []⟩, ⟨some 70, .call 31 [.t 68, .t 69], some (66, false), []⟩, ⟨some 71, .un .not (.t 70), some (66, false), []⟩, ⟨some 72, .pick (.t 66) (.c (.bool true)) (.t 71), none, []⟩, ⟨some 73, .mov (.t 72), none, []⟩, ⟨some 74, .ld true 2 (.t 12), some (73, false), []⟩, ⟨some 75, .ld true 2 (.t 14), some (73, false), []⟩, ⟨some 76, .eqs true [.b, .i] (.t 74) (.t 75), some (73, false), []⟩, ⟨some 77, .pick (.t 73) (.c (.bool true)) (.t 76), none, []⟩, ⟨some 78, .mov (.t 77), none, []⟩, ⟨some 79, .mov (.t 13), some (78, false), []⟩, ⟨some 80, .mov (.t 15), some (78, false), []⟩, ⟨some 81, .bin true .neq (.t 79) (.t 80), some (78, false), []⟩, ⟨some 82, .pick (.t 78) (.c (.bool true)) (.t 81), none, []⟩])
             (.drop [9, 11, 12, 13, 14, 15, 63, 64, 65, 66, 67, 68, 69, 70, 71, 72, 73, 74, 75, 76, 77, 78, 79, 80, 81]
              (.pack [1, 5, 6, 7, 82]
               (.cond (.t 82)
                 (.drop [1, 5, 6, 7, 82]
                  (.seq
                   (.region false [] [⟨some 4, .mov (.c (.bool false)), none, []⟩])
                  .ret))
                 (.drop [82]
                  .skip))))))))))))))))))
     (.region false [] [⟨some 30, .mov (.t 7), none, [7]⟩, ⟨some 31, .bin false .add (.t 30) (.c (.int .i64 1)), none, [30]⟩, ⟨some 7, .mov (.t 31), none, [31]⟩]))))))
  (.seq
   (.region false [] [⟨some 4, .mov (.c (.bool true)), none, []⟩])
  .ret)))))))
def rsp_9 : List ARes := [.tmp 4]
theorem gp_9 : Good Try.prog 9 acp_9 rsp_9 := ⟨Try.f9, Try.f9.body.getD .skip, by kernel_rfl, by kernel_rfl, by kernel_rfl, ⟨by kernel_rfl, by kernel_rfl⟩, by kernel_rfl, by kernel_rfl⟩
theorem okp_9 {Γ : Env} (hΓ : EnvOk Try.prog Γ) (sp : Spec) (h : WB Γ acp_9 rsp_9 sp) : CallOk Try.prog 9 sp := gp_9.ok hΓ mix_ok sp h

end Go.Proofs.Ytbponegjfccgfaa.Am
