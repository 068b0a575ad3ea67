/-
  THE FUNCTIONS' ABSTRACT CODE, as Lean's own reduction of compCode printed it, with notes (genac.py); each is held against the translation by the kernel.
-/
import Derived.Test.YtbhbpahbopjfeaaProg
import Derived.Test.YtbhbpahbopjfeaaCode
namespace Go.Proofs.Ytbhbpahbopjfeaa.Am
set_option linter.unusedSimpArgs false
set_option linter.unusedVariables false
open Go Go.Proofs
set_option maxRecDepth 100000

/-- chantry/chantrylaw02.PackEncodes -/
def ac_3 : ACode :=
 (.seq
  (.region false [] [⟨some 4, .mov (.c (.bool false)), none, []⟩])
 (.seq
  (.seq
   (.region false [] [⟨some 9, .call 14 [], none, []⟩, ⟨some 10, .un .not (.t 9), none, [9]⟩])
  (.cond (.t 10)
    (.drop [0, 1, 10]
     (.seq
      (.region false [] [⟨some 4, .mov (.c (.bool false)), none, []⟩])
     .ret))
    (.drop [10]
     .skip)))
 (.seq
  (.seq
   (.region false [] [⟨some 11, .mov (.t 0), none, []⟩, ⟨some 12, .call 15 [.t 11], none, [11]⟩, ⟨some 13, .un .not (.t 12), none, [12]⟩, ⟨some 14, .mov (.t 13), none, [13]⟩, ⟨some 15, .mov (.t 1), some (14, false), []⟩, ⟨some 16, .len false (.t 15), some (14, false), [15]⟩, ⟨some 17, .bin false .gtr (.t 16) (.c (.int .i64 210)), some (14, false), [16]⟩, ⟨some 18, .pick (.t 14) (.c (.bool true)) (.t 17), none, [14, 17]⟩])
  (.cond (.t 18)
    (.drop [0, 1, 18]
     (.seq
      (.region false [] [⟨some 4, .mov (.c (.bool true)), none, []⟩])
     .ret))
    (.drop [18]
     .skip)))
 (.seq
  (.region false [] [⟨some 20, .mov (.t 0), none, []⟩, ⟨some 21, .call 17 [.t 20], none, [20]⟩, ⟨some 22, .call 16 [.t 21], none, [21]⟩, ⟨some 19, .mov (.t 22), none, [22]⟩, ⟨some 23, .ext 0 (.t 19), none, []⟩, ⟨some 24, .ext 1 (.t 19), none, [19]⟩, ⟨some 5, .mov (.t 23), none, [23]⟩, ⟨some 6, .mov (.t 24), none, [24]⟩])
 (.seq
  (.region false [] [⟨some 26, .mov (.t 0), none, []⟩, ⟨some 27, .call 18 [.t 26], none, [26]⟩, ⟨some 25, .mov (.t 27), none, [27]⟩, ⟨some 28, .ext 0 (.t 25), none, []⟩, ⟨some 29, .ext 1 (.t 25), none, [25]⟩, ⟨some 7, .mov (.t 28), none, [28]⟩, ⟨some 8, .mov (.t 29), none, [29]⟩])
 (.seq
  (.region false [] [⟨some 30, .mov (.t 5), none, [5]⟩, ⟨some 31, .b2s (.t 30), none, [30]⟩, ⟨some 32, .mov (.t 7), none, [7]⟩, ⟨some 33, .b2s (.t 32), none, [32]⟩, ⟨some 34, .bin false .eql (.t 31) (.t 33), none, [31, 33]⟩, ⟨some 35, .mov (.t 34), none, [34]⟩, ⟨some 36, .mov (.t 6), some (35, true), [6]⟩, ⟨some 37, .mov (.t 8), some (35, true), [8]⟩, ⟨some 38, .bin false .eql (.t 36) (.t 37), some (35, true), [36, 37]⟩, ⟨some 39, .pick (.t 35) (.t 38) (.c (.bool false)), none, [35, 38]⟩, ⟨some 40, .mov (.t 39), none, [39]⟩, ⟨some 41, .mov (.t 0), some (40, true), []⟩, ⟨some 42, .call 17 [.t 41], some (40, true), [41]⟩, ⟨some 43, .mov (.t 1), some (40, true), []⟩, ⟨some 44, .call 19 [.t 42, .t 43], some (40, true), [42, 43]⟩, ⟨some 45, .mov (.t 0), some (40, true), [0]⟩, ⟨some 46, .mov (.t 1), some (40, true), [1]⟩, ⟨some 47, .call 20 [.t 45, .t 46], some (40, true), [45, 46]⟩, ⟨some 48, .bin true .eql (.t 44) (.t 47), some (40, true), [44, 47]⟩, ⟨some 49, .pick (.t 40) (.t 48) (.c (.bool false)), none, [40, 48]⟩, ⟨some 4, .mov (.t 49), none, [49]⟩])
 .ret))))))
def rs_3 : List ARes := [.tmp 4]
theorem ac_3_ok : compCode Try.prog (Try.f3.body.getD .skip) = some ac_3.plain := by kernel_rfl
theorem ac_3_chk : ac_3.chk ⟨Try.f3.ntmps, []⟩ = true := by kernel_rfl
theorem ac_3_pairs : ac_3.pairs.map Prod.fst = ac_3.pairs.map Prod.snd := by kernel_rfl
theorem rs_3_ok : Try.f3.results.toList.mapM (compRes Try.prog) = some rs_3 := by kernel_rfl
theorem ok_3 {Γ : Env} (hΓ : EnvOk Try.prog Γ) (sp : Spec) (h : ∀ args mem r mem1, sp args mem = some (r, mem1) → wpA Γ mem.length ac_3 (finQ mem.length rs_3 r mem1) (entry 0 args) mem) : CallOk Try.prog 3 sp :=
  ok_of_body (fn := Try.f3) (c := Try.f3.body.getD .skip) hΓ mix_ok (by kernel_rfl) (by kernel_rfl) ac_3_ok ⟨ac_3_chk, ac_3_pairs⟩ rs_3_ok (by kernel_rfl) sp h

/-- chantry/chantrylaw02.PackDecodes -/
def ac_4 : ACode :=
 (.seq
  (.region false [] [⟨some 2, .mov (.c (.bool false)), none, []⟩])
 (.seq
  (.seq
   (.region false [] [⟨some 7, .call 14 [], none, []⟩, ⟨some 8, .un .not (.t 7), none, [7]⟩])
  (.cond (.t 8)
    (.drop [0, 8]
     (.seq
      (.region false [] [⟨some 2, .mov (.c (.bool false)), none, []⟩])
     .ret))
    (.drop [8]
     .skip)))
 (.seq
  (.seq
   (.region false [] [⟨some 9, .mov (.t 0), none, []⟩, ⟨some 10, .len false (.t 9), none, [9]⟩, ⟨some 11, .bin false .gtr (.t 10) (.c (.int .i64 9000)), none, [10]⟩])
  (.cond (.t 11)
    (.drop [0, 11]
     (.seq
      (.region false [] [⟨some 2, .mov (.c (.bool true)), none, []⟩])
     .ret))
    (.drop [11]
     .skip)))
 (.seq
  (.region false [] [⟨some 13, .mov (.t 0), none, []⟩, ⟨some 14, .call 21 [.t 13], none, [13]⟩, ⟨some 12, .mov (.t 14), none, [14]⟩, ⟨some 15, .ext 0 (.t 12), none, []⟩, ⟨some 16, .ext 1 (.t 12), none, [12]⟩, ⟨some 3, .mov (.t 15), none, [15]⟩, ⟨some 4, .mov (.t 16), none, [16]⟩])
 (.seq
  (.region false [] [⟨some 18, .mov (.t 0), none, [0]⟩, ⟨some 19, .call 22 [.t 18], none, [18]⟩, ⟨some 17, .mov (.t 19), none, [19]⟩, ⟨some 20, .ext 0 (.t 17), none, []⟩, ⟨some 21, .ext 1 (.t 17), none, [17]⟩, ⟨some 5, .mov (.t 20), none, [20]⟩, ⟨some 6, .mov (.t 21), none, [21]⟩])
 (.seq
  (.region false [] [⟨some 22, .mov (.t 3), none, [3]⟩, ⟨some 23, .call 24 [.t 22], none, [22]⟩, ⟨some 24, .mov (.t 5), none, [5]⟩, ⟨some 25, .call 23 [.t 23, .t 24], none, [23, 24]⟩, ⟨some 26, .mov (.t 25), none, [25]⟩, ⟨some 27, .mov (.t 4), some (26, true), [4]⟩, ⟨some 28, .mov (.t 6), some (26, true), [6]⟩, ⟨some 29, .bin false .eql (.t 27) (.t 28), some (26, true), [27, 28]⟩, ⟨some 30, .pick (.t 26) (.t 29) (.c (.bool false)), none, [26, 29]⟩, ⟨some 2, .mov (.t 30), none, [30]⟩])
 .ret))))))
def rs_4 : List ARes := [.tmp 2]
theorem ac_4_ok : compCode Try.prog (Try.f4.body.getD .skip) = some ac_4.plain := by kernel_rfl
theorem ac_4_chk : ac_4.chk ⟨Try.f4.ntmps, []⟩ = true := by kernel_rfl
theorem ac_4_pairs : ac_4.pairs.map Prod.fst = ac_4.pairs.map Prod.snd := by kernel_rfl
theorem rs_4_ok : Try.f4.results.toList.mapM (compRes Try.prog) = some rs_4 := by kernel_rfl
theorem ok_4 {Γ : Env} (hΓ : EnvOk Try.prog Γ) (sp : Spec) (h : ∀ args mem r mem1, sp args mem = some (r, mem1) → wpA Γ mem.length ac_4 (finQ mem.length rs_4 r mem1) (entry 0 args) mem) : CallOk Try.prog 4 sp :=
  ok_of_body (fn := Try.f4) (c := Try.f4.body.getD .skip) hΓ mix_ok (by kernel_rfl) (by kernel_rfl) ac_4_ok ⟨ac_4_chk, ac_4_pairs⟩ rs_4_ok (by kernel_rfl) sp h

/-- chantry/chantrylaw02.PackBack -/
def ac_5 : ACode :=
 (.seq
  (.region false [] [⟨some 4, .mov (.c (.bool false)), none, []⟩])
 (.seq
  (.seq
   (.region false [] [⟨some 13, .call 14 [], none, []⟩, ⟨some 14, .un .not (.t 13), none, [13]⟩])
  (.cond (.t 14)
    (.drop [0, 1, 14]
     (.seq
      (.region false [] [⟨some 4, .mov (.c (.bool false)), none, []⟩])
     .ret))
    (.drop [14]
     .skip)))
 (.seq
  (.seq
   (.region false [] [⟨some 15, .mov (.t 0), none, []⟩, ⟨some 16, .call 15 [.t 15], none, [15]⟩, ⟨some 17, .un .not (.t 16), none, [16]⟩, ⟨some 18, .mov (.t 17), none, [17]⟩, ⟨some 19, .mov (.t 1), some (18, false), []⟩, ⟨some 20, .len false (.t 19), some (18, false), [19]⟩, ⟨some 21, .bin false .gtr (.t 20) (.c (.int .i64 9000)), some (18, false), [20]⟩, ⟨some 22, .pick (.t 18) (.c (.bool true)) (.t 21), none, [18, 21]⟩])
  (.cond (.t 22)
    (.drop [0, 1, 22]
     (.seq
      (.region false [] [⟨some 4, .mov (.c (.bool true)), none, []⟩])
     .ret))
    (.drop [22]
     .skip)))
 (.seq
  (.seq
   (.region false [] [⟨some 24, .mov (.t 0), none, []⟩, ⟨some 25, .call 17 [.t 24], none, [24]⟩, ⟨some 26, .call 16 [.t 25], none, [25]⟩, ⟨some 23, .mov (.t 26), none, [26]⟩, ⟨some 27, .ext 0 (.t 23), none, []⟩, ⟨some 28, .ext 1 (.t 23), none, [23]⟩, ⟨some 5, .mov (.t 27), none, [27]⟩, ⟨some 6, .mov (.t 28), none, [28]⟩])
  (.seq
   (.region false [] [⟨some 29, .mov (.t 6), none, [6]⟩, ⟨some 30, .bin false .eql (.t 29) (.c (.int .i64 0)), none, [29]⟩])
  (.cond (.t 30)
    (.drop [30]
     (.seq
      (.region false [] [⟨some 32, .mov (.t 5), none, [5]⟩, ⟨some 33, .call 21 [.t 32], none, [32]⟩, ⟨some 31, .mov (.t 33), none, [33]⟩, ⟨some 34, .ext 0 (.t 31), none, []⟩, ⟨some 35, .ext 1 (.t 31), none, [31]⟩, ⟨some 7, .mov (.t 34), none, [34]⟩, ⟨some 8, .mov (.t 35), none, [35]⟩])
     (.seq
      (.region false [] [⟨some 36, .mov (.t 8), none, [8]⟩, ⟨some 37, .bin false .neq (.t 36) (.c (.int .i64 0)), none, [36]⟩, ⟨some 38, .mov (.t 37), none, [37]⟩, ⟨some 39, .mov (.t 7), some (38, false), [7]⟩, ⟨some 40, .call 24 [.t 39], some (38, false), [39]⟩, ⟨some 41, .mov (.t 0), some (38, false), [0]⟩, ⟨some 42, .call 23 [.t 40, .t 41], some (38, false), [40, 41]⟩, ⟨some 43, .un .not (.t 42), some (38, false), [42]⟩, ⟨some 44, .pick (.t 38) (.c (.bool true)) (.t 43), none, [38, 43]⟩])
     (.cond (.t 44)
       (.drop [1, 44]
        (.seq
         (.region false [] [⟨some 4, .mov (.c (.bool false)), none, []⟩])
        .ret))
       (.drop [44]
        .skip)))))
    (.drop [0, 5, 30]
     .skip))))
 (.seq
  (.seq
   (.region false [] [⟨some 46, .mov (.t 1), none, []⟩, ⟨some 47, .call 21 [.t 46], none, [46]⟩, ⟨some 45, .mov (.t 47), none, [47]⟩, ⟨some 48, .ext 0 (.t 45), none, []⟩, ⟨some 49, .ext 1 (.t 45), none, [45]⟩, ⟨some 9, .mov (.t 48), none, [48]⟩, ⟨some 10, .mov (.t 49), none, [49]⟩])
  (.seq
   (.region false [] [⟨some 50, .mov (.t 10), none, [10]⟩, ⟨some 51, .bin false .eql (.t 50) (.c (.int .i64 0)), none, [50]⟩])
  (.cond (.t 51)
    (.drop [51]
     (.seq
      (.region false [] [⟨some 53, .mov (.t 9), none, [9]⟩, ⟨some 54, .call 16 [.t 53], none, [53]⟩, ⟨some 52, .mov (.t 54), none, [54]⟩, ⟨some 55, .ext 0 (.t 52), none, []⟩, ⟨some 56, .ext 1 (.t 52), none, [52]⟩, ⟨some 11, .mov (.t 55), none, [55]⟩, ⟨some 12, .mov (.t 56), none, [56]⟩])
     (.seq
      (.region false [] [⟨some 57, .mov (.t 12), none, [12]⟩, ⟨some 58, .bin false .neq (.t 57) (.c (.int .i64 0)), none, [57]⟩, ⟨some 59, .mov (.t 58), none, [58]⟩, ⟨some 60, .mov (.t 11), some (59, false), [11]⟩, ⟨some 61, .b2s (.t 60), some (59, false), [60]⟩, ⟨some 62, .mov (.t 1), some (59, false), [1]⟩, ⟨some 63, .b2s (.t 62), some (59, false), [62]⟩, ⟨some 64, .bin false .neq (.t 61) (.t 63), some (59, false), [61, 63]⟩, ⟨some 65, .pick (.t 59) (.c (.bool true)) (.t 64), none, [59, 64]⟩])
     (.cond (.t 65)
       (.drop [65]
        (.seq
         (.region false [] [⟨some 4, .mov (.c (.bool false)), none, []⟩])
        .ret))
       (.drop [65]
        .skip)))))
    (.drop [1, 9, 51]
     .skip))))
 (.seq
  (.region false [] [⟨some 4, .mov (.c (.bool true)), none, []⟩])
 .ret))))))
def rs_5 : List ARes := [.tmp 4]
theorem ac_5_ok : compCode Try.prog (Try.f5.body.getD .skip) = some ac_5.plain := by kernel_rfl
theorem ac_5_chk : ac_5.chk ⟨Try.f5.ntmps, []⟩ = true := by kernel_rfl
theorem ac_5_pairs : ac_5.pairs.map Prod.fst = ac_5.pairs.map Prod.snd := by kernel_rfl
theorem rs_5_ok : Try.f5.results.toList.mapM (compRes Try.prog) = some rs_5 := by kernel_rfl
theorem ok_5 {Γ : Env} (hΓ : EnvOk Try.prog Γ) (sp : Spec) (h : ∀ args mem r mem1, sp args mem = some (r, mem1) → wpA Γ mem.length ac_5 (finQ mem.length rs_5 r mem1) (entry 0 args) mem) : CallOk Try.prog 5 sp :=
  ok_of_body (fn := Try.f5) (c := Try.f5.body.getD .skip) hΓ mix_ok (by kernel_rfl) (by kernel_rfl) ac_5_ok ⟨ac_5_chk, ac_5_pairs⟩ rs_5_ok (by kernel_rfl) sp h

/-- chantry/chantrylaw02.PackWhole -/
def ac_6 : ACode :=
 (.seq
  (.region false [] [⟨some 6, .mov (.c (.bool false)), none, []⟩])
 (.seq
  (.seq
   (.region false [] [⟨some 15, .call 14 [], none, []⟩, ⟨some 16, .un .not (.t 15), none, [15]⟩])
  (.cond (.t 16)
    (.drop [0, 1, 2, 16]
     (.seq
      (.region false [] [⟨some 6, .mov (.c (.bool false)), none, []⟩])
     .ret))
    (.drop [16]
     .skip)))
 (.seq
  (.seq
   (.region false [] [⟨some 17, .mov (.t 0), none, []⟩, ⟨some 18, .call 15 [.t 17], none, [17]⟩, ⟨some 19, .un .not (.t 18), none, [18]⟩, ⟨some 20, .mov (.t 19), none, [19]⟩, ⟨some 21, .mov (.t 1), some (20, false), []⟩, ⟨some 22, .call 15 [.t 21], some (20, false), [21]⟩, ⟨some 23, .un .not (.t 22), some (20, false), [22]⟩, ⟨some 24, .pick (.t 20) (.c (.bool true)) (.t 23), none, [20, 23]⟩])
  (.cond (.t 24)
    (.drop [0, 1, 2, 24]
     (.seq
      (.region false [] [⟨some 6, .mov (.c (.bool true)), none, []⟩])
     .ret))
    (.drop [24]
     .skip)))
 (.seq
  (.region false [] [⟨some 26, .mov (.t 0), none, []⟩, ⟨some 27, .call 17 [.t 26], none, [26]⟩, ⟨some 28, .call 16 [.t 27], none, [27]⟩, ⟨some 25, .mov (.t 28), none, [28]⟩, ⟨some 29, .ext 0 (.t 25), none, []⟩, ⟨some 30, .ext 1 (.t 25), none, [25]⟩, ⟨some 7, .mov (.t 29), none, [29]⟩, ⟨some 8, .mov (.t 30), none, [30]⟩])
 (.seq
  (.region false [] [⟨some 32, .mov (.t 1), none, []⟩, ⟨some 33, .call 17 [.t 32], none, [32]⟩, ⟨some 34, .call 16 [.t 33], none, [33]⟩, ⟨some 31, .mov (.t 34), none, [34]⟩, ⟨some 35, .ext 0 (.t 31), none, []⟩, ⟨some 36, .ext 1 (.t 31), none, [31]⟩, ⟨some 9, .mov (.t 35), none, [35]⟩, ⟨some 10, .mov (.t 36), none, [36]⟩])
 (.seq
  (.seq
   (.region false [] [⟨some 37, .mov (.t 8), none, []⟩, ⟨some 38, .bin false .neq (.t 37) (.c (.int .i64 0)), none, [37]⟩, ⟨some 39, .mov (.t 38), none, [38]⟩, ⟨some 40, .mov (.t 10), some (39, false), [10]⟩, ⟨some 41, .bin false .neq (.t 40) (.c (.int .i64 0)), some (39, false), [40]⟩, ⟨some 42, .pick (.t 39) (.c (.bool true)) (.t 41), none, [39, 41]⟩, ⟨some 43, .mov (.t 42), none, [42]⟩, ⟨some 44, .mov (.t 7), some (43, false), []⟩, ⟨some 45, .len false (.t 44), some (43, false), [44]⟩, ⟨some 46, .bin false .eql (.t 45) (.c (.int .i64 0)), some (43, false), [45]⟩, ⟨some 47, .pick (.t 43) (.c (.bool true)) (.t 46), none, [43, 46]⟩])
  (.cond (.t 47)
    (.drop [0, 1, 2, 9, 47]
     (.seq
      (.region false [] [⟨some 48, .mov (.c (.bool true)), none, []⟩, ⟨some 49, .mov (.t 8), some (48, true), [8]⟩, ⟨some 50, .bin false .neq (.t 49) (.c (.int .i64 0)), some (48, true), [49]⟩, ⟨some 51, .mov (.t 50), some (48, true), [50]⟩, ⟨some 52, .mov (.t 7), some (51, false), [7]⟩, ⟨some 53, .len false (.t 52), some (51, false), [52]⟩, ⟨some 54, .bin false .gtr (.t 53) (.c (.int .i64 0)), some (51, false), [53]⟩, ⟨some 55, .pick (.t 51) (.c (.bool true)) (.t 54), some (48, true), [51, 54]⟩, ⟨some 56, .pick (.t 48) (.t 55) (.c (.bool false)), none, [48, 55]⟩, ⟨some 6, .mov (.t 56), none, [56]⟩])
     .ret))
    (.drop [8, 47]
     .skip)))
 (.seq
  (.region false [] [⟨some 58, .mov (.t 7), none, []⟩, ⟨some 59, .mov (.t 2), none, []⟩, ⟨some 60, .cvt .i64 (.t 59), none, [59]⟩, ⟨some 61, .mov (.t 7), none, []⟩, ⟨some 62, .len false (.t 61), none, [61]⟩, ⟨some 63, .bin false .rem (.t 60) (.t 62), none, [60, 62]⟩, ⟨some 64, .slc false 1 (.t 58) none (some (.t 63)), none, [58, 63]⟩, ⟨some 65, .call 21 [.t 64], none, [64]⟩, ⟨some 57, .mov (.t 65), none, [65]⟩, ⟨some 66, .ext 0 (.t 57), none, []⟩, ⟨some 67, .ext 1 (.t 57), none, [57]⟩, ⟨some 11, .mov (.t 66), none, [66]⟩, ⟨some 12, .mov (.t 67), none, [11, 67]⟩])
 (.seq
  (.region false [] [⟨some 69, .mov (.t 7), none, []⟩, ⟨some 70, .app 5 1 1 (.c (.slice none 0 0)) (.t 69), none, [69]⟩, ⟨some 71, .mov (.t 2), none, [2]⟩, ⟨some 72, .cvt .u8 (.t 71), none, [71]⟩, ⟨some 73, .bsl 5 1 [.t 72], none, [72]⟩, ⟨some 74, .app 5 1 1 (.t 70) (.t 73), none, [70, 73]⟩, ⟨some 75, .call 21 [.t 74], none, [74]⟩, ⟨some 68, .mov (.t 75), none, [75]⟩, ⟨some 76, .ext 0 (.t 68), none, []⟩, ⟨some 77, .ext 1 (.t 68), none, [68]⟩, ⟨some 13, .mov (.t 76), none, [76]⟩, ⟨some 14, .mov (.t 77), none, [13, 77]⟩])
 (.seq
  (.draws (.tak 0 ⟨some 78, .mov (.t 12), none, []⟩ (.tak 1 ⟨some 79, .bin false .eql (.t 78) (.c (.int .i64 4)), none, []⟩ (.tak 2 ⟨some 80, .mov (.t 79), none, []⟩ (.tak 3 ⟨some 81, .mov (.t 14), some (80, true), []⟩ (.tak 4 ⟨some 82, .bin false .eql (.t 81) (.c (.int .i64 4)), some (80, true), []⟩ (.tak 5 ⟨some 83, .pick (.t 80) (.t 82) (.c (.bool false)), none, []⟩ (.tak 6 ⟨some 84, .mov (.t 83), none, []⟩ (.tak 7 ⟨some 85, .mov (.t 7), some (84, true), []⟩ (.tak 8 ⟨some 86, .b2s (.t 85), some (84, true), []⟩ (.tak 9 ⟨some 87, .mov (.t 9), some (84, true), []⟩ (.tak 10 ⟨some 88, .b2s (.t 87), some (84, true), []⟩ (.tak 11 ⟨some 89, .bin false .eql (.t 86) (.t 88), some (84, true), []⟩ (.tak 12 ⟨some 90, .mov (.t 0), some (84, true), []⟩ (.tak 13 ⟨some 91, .mov (.t 1), some (84, true), []⟩ (.alt 14 ⟨some 92, .call 23 [.t 90, .t 91], some (84, true), []⟩ (.tak 15 ⟨some 93, .bin true .eql (.t 89) (.t 92), some (84, true), []⟩ (.tak 16 ⟨some 94, .pick (.t 84) (.t 93) (.c (.bool false)), none, []⟩ (.tak 17 ⟨some 6, .mov (.t 94), none, []⟩ .done))) .stop))))))))))))))) [[], [0], [1], [2], [3, 2], [2, 4], [5, 2], [6], [7, 6], [6], [9, 6], [8, 10, 6], [6], [6], [12, 13, 6, 6], [11, 14, 6], [6, 15], [16, 14, 0, 1, 2, 3, 4, 5, 6, 7, 8, 9, 10, 11, 12, 13, 14, 15, 16]] [⟨some 78, .mov (.t 12), none, []⟩, ⟨some 79, .bin false .eql (.t 78) (.c (.int .i64 4)), none, []⟩, ⟨some 80, .mov (.t 79), none, []⟩, ⟨some 81, .mov (.t 14), some (80, true), []⟩, ⟨some 82, .bin false .eql (.t 81) (.c (.int .i64 4)), some (80, true), []⟩, ⟨some 83, .pick (.t 80) (.t 82) (.c (.bool false)), none, []⟩, ⟨some 84, .mov (.t 83), none, []⟩, ⟨some 85, .mov (.t 7), some (84, true), []⟩, ⟨some 86, .b2s (.t 85), some (84, true), []⟩, ⟨some 87, .mov (.t 9), some (84, true), []⟩, ⟨some 88, .b2s (.t 87), some (84, true), []⟩, ⟨some 89, .bin false .eql (.t 86) (.t 88), some (84, true), []⟩, ⟨some 90, .mov (.t 0), some (84, true), []⟩, ⟨some 91, .mov (.t 1), some (84, true), []⟩, ⟨some 92, .call 23 [.t 90, .t 91], some (84, true), []⟩, ⟨some 93, .bin true .eql (.t 89) (.t 92), some (84, true), []⟩, ⟨some 94, .pick (.t 84) (.t 93) (.c (.bool false)), none, []⟩, ⟨some 6, .mov (.t 94), none, []⟩])
 (.drop [0, 1, 7, 9, 12, 14, 78, 79, 80, 81, 82, 83, 84, 85, 86, 87, 88, 89, 90, 91, 92, 93, 94]
  .ret))))))))))
def rs_6 : List ARes := [.tmp 6]
theorem ac_6_ok : compCode Try.prog (Try.f6.body.getD .skip) = some ac_6.plain := by kernel_rfl
theorem ac_6_chk : ac_6.chk ⟨Try.f6.ntmps, []⟩ = true := by kernel_rfl
theorem ac_6_pairs : ac_6.pairs.map Prod.fst = ac_6.pairs.map Prod.snd := by kernel_rfl
theorem rs_6_ok : Try.f6.results.toList.mapM (compRes Try.prog) = some rs_6 := by kernel_rfl
theorem ok_6 {Γ : Env} (hΓ : EnvOk Try.prog Γ) (sp : Spec) (h : ∀ args mem r mem1, sp args mem = some (r, mem1) → wpA Γ mem.length ac_6 (finQ mem.length rs_6 r mem1) (entry 0 args) mem) : CallOk Try.prog 6 sp :=
  ok_of_body (fn := Try.f6) (c := Try.f6.body.getD .skip) hΓ mix_ok (by kernel_rfl) (by kernel_rfl) ac_6_ok ⟨ac_6_chk, ac_6_pairs⟩ rs_6_ok (by kernel_rfl) sp h

/-- chantry/chantrylaw02.PackJoin -/
def ac_7 : ACode :=
 (.seq
  (.region false [] [⟨some 4, .mov (.c (.bool false)), none, []⟩])
 (.seq
  (.seq
   (.region false [] [⟨some 11, .call 14 [], none, []⟩, ⟨some 12, .un .not (.t 11), none, [11]⟩])
  (.cond (.t 12)
    (.drop [0, 1, 12]
     (.seq
      (.region false [] [⟨some 4, .mov (.c (.bool false)), none, []⟩])
     .ret))
    (.drop [12]
     .skip)))
 (.seq
  (.seq
   (.region false [] [⟨some 13, .mov (.t 0), none, []⟩, ⟨some 14, .call 15 [.t 13], none, [13]⟩, ⟨some 15, .un .not (.t 14), none, [14]⟩, ⟨some 16, .mov (.t 15), none, [15]⟩, ⟨some 17, .mov (.t 1), some (16, false), []⟩, ⟨some 18, .call 15 [.t 17], some (16, false), [17]⟩, ⟨some 19, .un .not (.t 18), some (16, false), [18]⟩, ⟨some 20, .pick (.t 16) (.c (.bool true)) (.t 19), none, [16, 19]⟩])
  (.cond (.t 20)
    (.drop [0, 1, 20]
     (.seq
      (.region false [] [⟨some 4, .mov (.c (.bool true)), none, []⟩])
     .ret))
    (.drop [20]
     .skip)))
 (.seq
  (.region false [] [⟨some 22, .mov (.t 0), none, []⟩, ⟨some 23, .call 17 [.t 22], none, [22]⟩, ⟨some 24, .call 16 [.t 23], none, [23]⟩, ⟨some 21, .mov (.t 24), none, [24]⟩, ⟨some 25, .ext 0 (.t 21), none, []⟩, ⟨some 26, .ext 1 (.t 21), none, [21]⟩, ⟨some 5, .mov (.t 25), none, [25]⟩, ⟨some 6, .mov (.t 26), none, [26]⟩])
 (.seq
  (.region false [] [⟨some 28, .mov (.t 1), none, []⟩, ⟨some 29, .call 17 [.t 28], none, [28]⟩, ⟨some 30, .call 16 [.t 29], none, [29]⟩, ⟨some 27, .mov (.t 30), none, [30]⟩, ⟨some 31, .ext 0 (.t 27), none, []⟩, ⟨some 32, .ext 1 (.t 27), none, [27]⟩, ⟨some 7, .mov (.t 31), none, [31]⟩, ⟨some 8, .mov (.t 32), none, [32]⟩])
 (.seq
  (.region false [] [⟨some 34, .mov (.t 0), none, []⟩, ⟨some 35, .call 17 [.t 34], none, [34]⟩, ⟨some 36, .mov (.t 1), none, []⟩, ⟨some 37, .call 17 [.t 36], none, [36]⟩, ⟨some 38, .app 52 4 40 (.t 35) (.t 37), none, [35, 37]⟩, ⟨some 39, .call 16 [.t 38], none, [38]⟩, ⟨some 33, .mov (.t 39), none, [39]⟩, ⟨some 40, .ext 0 (.t 33), none, []⟩, ⟨some 41, .ext 1 (.t 33), none, [33]⟩, ⟨some 9, .mov (.t 40), none, [40]⟩, ⟨some 10, .mov (.t 41), none, [41]⟩])
 (.seq
  (.seq
   (.region false [] [⟨some 42, .mov (.t 6), none, [6]⟩, ⟨some 43, .bin false .neq (.t 42) (.c (.int .i64 0)), none, [42]⟩, ⟨some 44, .mov (.t 43), none, [43]⟩, ⟨some 45, .mov (.t 8), some (44, false), [8]⟩, ⟨some 46, .bin false .neq (.t 45) (.c (.int .i64 0)), some (44, false), [45]⟩, ⟨some 47, .pick (.t 44) (.c (.bool true)) (.t 46), none, [44, 46]⟩, ⟨some 48, .mov (.t 47), none, [47]⟩, ⟨some 49, .mov (.t 10), some (48, false), [10]⟩, ⟨some 50, .bin false .neq (.t 49) (.c (.int .i64 0)), some (48, false), [49]⟩, ⟨some 51, .pick (.t 48) (.c (.bool true)) (.t 50), none, [48, 50]⟩])
  (.cond (.t 51)
    (.drop [0, 1, 5, 7, 9, 51]
     (.seq
      (.region false [] [⟨some 4, .mov (.c (.bool true)), none, []⟩])
     .ret))
    (.drop [51]
     .skip)))
 (.seq
  (.draws (.tak 0 ⟨some 52, .mov (.t 5), none, []⟩ (.tak 1 ⟨some 53, .len false (.t 52), none, []⟩ (.tak 2 ⟨some 54, .bin false .gtr (.t 53) (.c (.int .i64 0)), none, []⟩ (.tak 3 ⟨some 55, .mov (.t 54), none, []⟩ (.tak 4 ⟨some 56, .mov (.t 7), some (55, true), []⟩ (.tak 5 ⟨some 57, .len false (.t 56), some (55, true), []⟩ (.tak 6 ⟨some 58, .bin false .gtr (.t 57) (.c (.int .i64 0)), some (55, true), []⟩ (.tak 7 ⟨some 59, .pick (.t 55) (.t 58) (.c (.bool false)), none, []⟩ (.tak 8 ⟨some 60, .mov (.t 59), none, []⟩ (.tak 9 ⟨some 61, .mov (.t 9), some (60, true), []⟩ (.tak 10 ⟨some 62, .len false (.t 61), some (60, true), []⟩ (.tak 11 ⟨some 63, .bin false .gtr (.t 62) (.c (.int .i64 0)), some (60, true), []⟩ (.tak 12 ⟨some 64, .pick (.t 60) (.t 63) (.c (.bool false)), none, []⟩ (.tak 13 ⟨some 65, .mov (.t 64), none, []⟩ (.tak 14 ⟨some 66, .mov (.t 9), some (65, true), []⟩ (.tak 15 ⟨some 67, .slc false 1 (.t 66) (some (.c (.int .i64 1))) none, some (65, true), []⟩ (.tak 16 ⟨some 68, .b2s (.t 67), some (65, true), []⟩ (.tak 17 ⟨some 69, .mov (.t 5), some (65, true), []⟩ (.tak 18 ⟨some 70, .slc false 1 (.t 69) (some (.c (.int .i64 1))) none, some (65, true), []⟩ (.tak 19 ⟨some 71, .b2s (.t 70), some (65, true), []⟩ (.tak 20 ⟨some 72, .mov (.t 7), some (65, true), []⟩ (.tak 21 ⟨some 73, .slc false 1 (.t 72) (some (.c (.int .i64 1))) none, some (65, true), []⟩ (.tak 22 ⟨some 74, .b2s (.t 73), some (65, true), []⟩ (.tak 23 ⟨some 75, .bin false .add (.t 71) (.t 74), some (65, true), []⟩ (.tak 24 ⟨some 76, .bin false .eql (.t 68) (.t 75), some (65, true), []⟩ (.tak 25 ⟨some 77, .pick (.t 65) (.t 76) (.c (.bool false)), none, []⟩ (.tak 26 ⟨some 78, .mov (.t 77), none, []⟩ (.tak 27 ⟨some 79, .mov (.t 9), some (78, true), []⟩ (.tak 28 ⟨some 80, .iax 1 (.t 79) (.c (.int .i64 0)), some (78, true), []⟩ (.tak 29 ⟨some 81, .ld false 1 (.t 80), some (78, true), []⟩ (.tak 30 ⟨some 82, .cvt .i64 (.t 81), some (78, true), []⟩ (.tak 31 ⟨some 83, .mov (.t 0), some (78, true), []⟩ (.tak 32 ⟨some 84, .len false (.t 83), some (78, true), []⟩ (.tak 33 ⟨some 85, .mov (.t 1), some (78, true), []⟩ (.tak 34 ⟨some 86, .len false (.t 85), some (78, true), []⟩ (.tak 35 ⟨some 87, .bin false .add (.t 84) (.t 86), some (78, true), []⟩ (.tak 36 ⟨some 88, .bin false .eql (.t 82) (.t 87), some (78, true), []⟩ (.tak 37 ⟨some 89, .pick (.t 78) (.t 88) (.c (.bool false)), none, []⟩ (.tak 38 ⟨some 4, .mov (.t 89), none, []⟩ .done))))))))))))))))))))))))))))))))))))))) [[], [0], [1], [2], [3], [4, 3], [5, 3], [3, 6], [7, 3], [8], [9, 8], [10, 8], [8, 11], [12, 8], [13], [14, 13], [15, 13], [13], [17, 13], [18, 13], [13], [20, 13], [21, 13], [19, 22, 13], [16, 23, 13], [13, 24], [25, 13], [26], [27, 26], [28, 26], [29, 26], [26], [31, 26], [26], [33, 26], [32, 34, 26], [30, 35, 26], [26, 36], [37, 26, 0, 1, 2, 3, 4, 5, 6, 7, 8, 9, 10, 11, 12, 13, 14, 15, 16, 17, 18, 19, 20, 21, 22, 23, 24, 25, 26, 27, 28, 29, 30, 31, 32, 33, 34, 35, 36, 37]] [⟨some 52, .mov (.t 5), none, []⟩, ⟨some 53, .len false (.t 52), none, []⟩, ⟨some 54, .bin false .gtr (.t 53) (.c (.int .i64 0)), none, []⟩, ⟨some 55, .mov (.t 54), none, []⟩, ⟨some 56, .mov (.t 7), some (55, true), []⟩, ⟨some 57, .len false (.t 56), some (55, true), []⟩, ⟨some 58, .bin false .gtr (.t 57) (.c (.int .i64 0)), some (55, true), []⟩, ⟨some 59, .pick (.t 55) (.t 58) (.c (.bool false)), none, []⟩, ⟨some 60, .mov (.t 59), none, []⟩, ⟨some 61, .mov (.t 9), some (60, true), []⟩, ⟨some 62, .len false (.t 61), some (60, true), []⟩, ⟨some 63, .bin false .gtr (.t 62) (.c (.int .i64 0)), some (60, true), []⟩, ⟨some 64, .pick (.t 60) (.t 63) (.c (.bool false)), none, []⟩, ⟨some 65, .mov (.t 64), none, []⟩, ⟨some 66, .mov (.t 9), some (65, true), []⟩, ⟨some 67, .slc false 1 (.t 66) (some (.c (.int .i64 1))) none, some (65, true), []⟩, ⟨some 68, .b2s (.t 67), some (65, true), []⟩, ⟨some 69, .mov (.t 5), some (65, true), []⟩, ⟨some 70, .slc false 1 (.t 69) (some (.c (.int .i64 1))) none, some (65, true), []⟩, ⟨some 71, .b2s (.t 70), some (65, true), []⟩, ⟨some 72, .mov (.t 7), some (65, true), []⟩, ⟨some 73, .slc false 1 (.t 72) (some (.c (.int .i64 1))) none, some (65, true), []⟩, ⟨some 74, .b2s (.t 73), some (65, true), []⟩, ⟨some 75, .bin false .add (.t 71) (.t 74), some (65, true), []⟩, ⟨some 76, .bin false .eql (.t 68) (.t 75), some (65, true), []⟩, ⟨some 77, .pick (.t 65) (.t 76) (.c (.bool false)), none, []⟩, ⟨some 78, .mov (.t 77), none, []⟩, ⟨some 79, .mov (.t 9), some (78, true), []⟩, ⟨some 80, .iax 1 (.t 79) (.c (.int .i64 0)), some (78, true), []⟩, ⟨some 81, .ld false 1 (.t 80), some (78, true), []⟩, ⟨some 82, .cvt .i64 (.t 81), some (78, true), []⟩, ⟨some 83, .mov (.t 0), some (78, true), []⟩, ⟨some 84, .len false (.t 83), some (78, true), []⟩, ⟨some 85, .mov (.t 1), some (78, true), []⟩, ⟨some 86, .len false (.t 85), some (78, true), []⟩, ⟨some 87, .bin false .add (.t 84) (.t 86), some (78, true), []⟩, ⟨some 88, .bin false .eql (.t 82) (.t 87), some (78, true), []⟩, ⟨some 89, .pick (.t 78) (.t 88) (.c (.bool false)), none, []⟩, ⟨some 4, .mov (.t 89), none, []⟩])
 (.drop [0, 1, 5, 7, 9, 52, 53, 54, 55, 56, 57, 58, 59, 60, 61, 62, 63, 64, 65, 66, 67, 68, 69, 70, 71, 72, 73, 74, 75, 76, 77, 78, 79, 80, 81, 82, 83, 84, 85, 86, 87, 88, 89]
  .ret)))))))))
def rs_7 : List ARes := [.tmp 4]
theorem ac_7_ok : compCode Try.prog (Try.f7.body.getD .skip) = some ac_7.plain := by kernel_rfl
theorem ac_7_chk : ac_7.chk ⟨Try.f7.ntmps, []⟩ = true := by kernel_rfl
theorem ac_7_pairs : ac_7.pairs.map Prod.fst = ac_7.pairs.map Prod.snd := by kernel_rfl
theorem rs_7_ok : Try.f7.results.toList.mapM (compRes Try.prog) = some rs_7 := by kernel_rfl
theorem ok_7 {Γ : Env} (hΓ : EnvOk Try.prog Γ) (sp : Spec) (h : ∀ args mem r mem1, sp args mem = some (r, mem1) → wpA Γ mem.length ac_7 (finQ mem.length rs_7 r mem1) (entry 0 args) mem) : CallOk Try.prog 7 sp :=
  ok_of_body (fn := Try.f7) (c := Try.f7.body.getD .skip) hΓ mix_ok (by kernel_rfl) (by kernel_rfl) ac_7_ok ⟨ac_7_chk, ac_7_pairs⟩ rs_7_ok (by kernel_rfl) sp h

/-- chantry/chantrylaw02.PackKinds -/
def ac_8 : ACode :=
 (.seq
  (.region false [] [⟨some 6, .mov (.c (.bool false)), none, []⟩])
 (.seq
  (.seq
   (.region false [] [⟨some 13, .call 14 [], none, []⟩, ⟨some 14, .un .not (.t 13), none, [13]⟩])
  (.cond (.t 14)
    (.drop [0, 1, 2, 14]
     (.seq
      (.region false [] [⟨some 6, .mov (.c (.bool false)), none, []⟩])
     .ret))
    (.drop [14]
     .skip)))
 (.seq
  (.seq
   (.region false [] [⟨some 15, .mov (.t 0), none, []⟩, ⟨some 16, .call 15 [.t 15], none, [15]⟩, ⟨some 17, .un .not (.t 16), none, [16]⟩])
  (.cond (.t 17)
    (.drop [0, 1, 2, 17]
     (.seq
      (.region false [] [⟨some 6, .mov (.c (.bool true)), none, []⟩])
     .ret))
    (.drop [17]
     .skip)))
 (.seq
  (.region false [] [⟨some 7, .mov (.c (.slice none 0 0)), none, []⟩])
 (.seq
  (.seq
   (.region false [] [⟨some 18, .mov (.t 0), none, []⟩, ⟨some 19, .len false (.t 18), none, []⟩, ⟨some 20, .mov (.c (.int .i64 0)), none, []⟩])
  (.block 0
   (.loop [0, 1, 2, 7, 18, 19, 20]
    (.seq
     (.region false [] [⟨some 21, .bin false .lss (.t 20) (.t 19), none, []⟩])
    (.seq
     (.cond (.t 21)
       (.drop [21]
        .skip)
       (.drop [18, 19, 20, 21]
        (.exit 0)))
    (.seq
     (.block 1
      (.seq
       (.region false [] [⟨some 22, .iax 4 (.t 18) (.t 20), none, []⟩, ⟨some 23, .ld true 4 (.t 22), none, [22]⟩, ⟨some 9, .alloc [.int .i64 0, .int .u64 0, .string ⟨#[]⟩, .int .u64 0], none, []⟩, ⟨none, .st 4 (.t 9) (.t 23), none, [23]⟩])
      (.seal_ 9
       (.region false [] [⟨some 24, .mov (.t 7), none, [7]⟩, ⟨some 25, .fad 0 (.t 9), none, [9]⟩, ⟨some 26, .ld false 1 (.t 25), none, [25]⟩, ⟨some 27, .bsl 3 1 [.t 26], none, [26]⟩, ⟨some 28, .app 3 1 8 (.t 24) (.t 27), none, [24, 27]⟩, ⟨some 7, .mov (.t 28), none, [28]⟩]))))
    (.region false [] [⟨some 29, .bin false .add (.t 20) (.c (.int .i64 1)), none, [20]⟩, ⟨some 20, .mov (.t 29), none, [29]⟩])))))))
 (.seq
  (.region false [] [⟨some 30, .mov (.t 0), none, [0]⟩, ⟨some 31, .call 17 [.t 30], none, [30]⟩, ⟨some 10, .mov (.t 31), none, [31]⟩])
 (.seq
  (.seq
   (.region false [] [⟨some 32, .mov (.t 10), none, []⟩, ⟨some 33, .mov (.t 7), none, []⟩, ⟨some 34, .call 19 [.t 32, .t 33], none, [32, 33]⟩, ⟨some 35, .un .not (.t 34), none, [34]⟩, ⟨some 36, .mov (.t 35), none, [35]⟩, ⟨some 37, .mov (.t 10), some (36, false), []⟩, ⟨some 38, .mov (.t 7), some (36, false), []⟩, ⟨some 39, .app 3 1 8 (.c (.slice none 0 0)) (.t 38), some (36, false), [38]⟩, ⟨some 40, .mov (.t 2), some (36, false), []⟩, ⟨some 41, .bsl 3 1 [.t 40], some (36, false), [40]⟩, ⟨some 42, .app 3 1 8 (.t 39) (.t 41), some (36, false), [39, 41]⟩, ⟨some 43, .call 19 [.t 37, .t 42], some (36, false), [37, 42]⟩, ⟨some 44, .pick (.t 36) (.c (.bool true)) (.t 43), none, [36, 43]⟩])
  (.cond (.t 44)
    (.drop [1, 2, 7, 10, 44]
     (.seq
      (.region false [] [⟨some 6, .mov (.c (.bool false)), none, []⟩])
     .ret))
    (.drop [44]
     .skip)))
 (.seq
  (.seq
   (.region false [] [⟨some 45, .mov (.t 7), none, []⟩, ⟨some 46, .len false (.t 45), none, [45]⟩, ⟨some 47, .bin false .eql (.t 46) (.c (.int .i64 0)), none, [46]⟩])
  (.cond (.t 47)
    (.drop [1, 2, 7, 10, 47]
     (.seq
      (.region false [] [⟨some 6, .mov (.c (.bool true)), none, []⟩])
     .ret))
    (.drop [47]
     .skip)))
 (.seq
  (.region false [] [⟨some 48, .mov (.t 1), none, [1]⟩, ⟨some 49, .cvt .i64 (.t 48), none, [48]⟩, ⟨some 50, .mov (.t 7), none, []⟩, ⟨some 51, .len false (.t 50), none, [50]⟩, ⟨some 52, .bin false .rem (.t 49) (.t 51), none, [49, 51]⟩, ⟨some 11, .mov (.t 52), none, [52]⟩])
 (.seq
  (.region false [] [⟨some 53, .mov (.t 7), none, []⟩, ⟨some 54, .mov (.t 11), none, []⟩, ⟨some 55, .iax 1 (.t 53) (.t 54), none, [53, 54]⟩, ⟨some 56, .ld false 1 (.t 55), none, [55]⟩, ⟨some 12, .mov (.t 56), none, [56]⟩])
 (.seq
  (.region false [] [⟨some 57, .mov (.t 7), none, []⟩, ⟨some 58, .mov (.t 11), none, [11]⟩, ⟨some 59, .mov (.t 2), none, []⟩, ⟨some 60, .iax 1 (.t 57) (.t 58), none, [57, 58]⟩, ⟨none, .st 1 (.t 60) (.t 59), none, [59, 60]⟩])
 (.seq
  (.region false [] [⟨some 61, .mov (.t 10), none, [10]⟩, ⟨some 62, .mov (.t 7), none, [7]⟩, ⟨some 63, .call 19 [.t 61, .t 62], none, [61, 62]⟩, ⟨some 64, .mov (.t 2), none, [2]⟩, ⟨some 65, .mov (.t 12), none, [12]⟩, ⟨some 66, .bin false .eql (.t 64) (.t 65), none, [64, 65]⟩, ⟨some 67, .bin true .eql (.t 63) (.t 66), none, [63, 66]⟩, ⟨some 6, .mov (.t 67), none, [67]⟩])
 .ret))))))))))))
def rs_8 : List ARes := [.tmp 6]
theorem ac_8_ok : compCode Try.prog (Try.f8.body.getD .skip) = some ac_8.plain := by kernel_rfl
theorem ac_8_chk : ac_8.chk ⟨Try.f8.ntmps, []⟩ = true := by kernel_rfl
theorem ac_8_pairs : ac_8.pairs.map Prod.fst = ac_8.pairs.map Prod.snd := by kernel_rfl
theorem rs_8_ok : Try.f8.results.toList.mapM (compRes Try.prog) = some rs_8 := by kernel_rfl
theorem ok_8 {Γ : Env} (hΓ : EnvOk Try.prog Γ) (sp : Spec) (h : ∀ args mem r mem1, sp args mem = some (r, mem1) → wpA Γ mem.length ac_8 (finQ mem.length rs_8 r mem1) (entry 0 args) mem) : CallOk Try.prog 8 sp :=
  ok_of_body (fn := Try.f8) (c := Try.f8.body.getD .skip) hΓ mix_ok (by kernel_rfl) (by kernel_rfl) ac_8_ok ⟨ac_8_chk, ac_8_pairs⟩ rs_8_ok (by kernel_rfl) sp h

/-- chantry/chantrylaw02.PackNumbers -/
def ac_9 : ACode :=
 (.seq
  (.region false [] [⟨some 4, .mov (.c (.bool false)), none, []⟩])
 (.seq
  (.seq
   (.region false [] [⟨some 10, .call 14 [], none, []⟩, ⟨some 11, .un .not (.t 10), none, [10]⟩])
  (.cond (.t 11)
    (.drop [0, 1, 11]
     (.seq
      (.region false [] [⟨some 4, .mov (.c (.bool false)), none, []⟩])
     .ret))
    (.drop [11]
     .skip)))
 (.seq
  (.region false [] [⟨some 13, .mov (.t 0), none, []⟩, ⟨some 14, .bld [.int .i64 0, .int .u64 0, .string ⟨#[]⟩, .float .f64 0] [(0, 1, .c (.int .i64 1)), (1, 1, .t 13)], none, [13]⟩, ⟨some 15, .bsl 52 4 [.t 14], none, [14]⟩, ⟨some 16, .call 16 [.t 15], none, [15]⟩, ⟨some 12, .mov (.t 16), none, [16]⟩, ⟨some 17, .ext 0 (.t 12), none, []⟩, ⟨some 18, .ext 1 (.t 12), none, [12]⟩, ⟨some 5, .mov (.t 17), none, [17]⟩, ⟨some 6, .mov (.t 18), none, [18]⟩])
 (.seq
  (.region false [] [⟨some 20, .mov (.t 1), none, []⟩, ⟨some 21, .bld [.int .i64 0, .int .u64 0, .string ⟨#[]⟩, .float .f64 0] [(0, 1, .c (.int .i64 1)), (1, 1, .t 20)], none, [20]⟩, ⟨some 22, .bsl 52 4 [.t 21], none, [21]⟩, ⟨some 23, .call 16 [.t 22], none, [22]⟩, ⟨some 19, .mov (.t 23), none, [23]⟩, ⟨some 24, .ext 0 (.t 19), none, []⟩, ⟨some 25, .ext 1 (.t 19), none, [19]⟩, ⟨some 7, .mov (.t 24), none, [24]⟩, ⟨some 8, .mov (.t 25), none, [25]⟩])
 (.seq
  (.seq
   (.region false [] [⟨some 26, .mov (.t 6), none, [6]⟩, ⟨some 27, .bin false .neq (.t 26) (.c (.int .i64 0)), none, [26]⟩, ⟨some 28, .mov (.t 27), none, [27]⟩, ⟨some 29, .mov (.t 8), some (28, false), [8]⟩, ⟨some 30, .bin false .neq (.t 29) (.c (.int .i64 0)), some (28, false), [29]⟩, ⟨some 31, .pick (.t 28) (.c (.bool true)) (.t 30), none, [28, 30]⟩, ⟨some 32, .mov (.t 31), none, [31]⟩, ⟨some 33, .mov (.t 5), some (32, false), []⟩, ⟨some 34, .len false (.t 33), some (32, false), [33]⟩, ⟨some 35, .bin false .lss (.t 34) (.c (.int .i64 3)), some (32, false), [34]⟩, ⟨some 36, .pick (.t 32) (.c (.bool true)) (.t 35), none, [32, 35]⟩, ⟨some 37, .mov (.t 36), none, [36]⟩, ⟨some 38, .mov (.t 7), some (37, false), []⟩, ⟨some 39, .len false (.t 38), some (37, false), [38]⟩, ⟨some 40, .bin false .lss (.t 39) (.c (.int .i64 3)), some (37, false), [39]⟩, ⟨some 41, .pick (.t 37) (.c (.bool true)) (.t 40), none, [37, 40]⟩])
  (.cond (.t 41)
    (.drop [0, 1, 5, 7, 41]
     (.seq
      (.region false [] [⟨some 4, .mov (.c (.bool false)), none, []⟩])
     .ret))
    (.drop [41]
     .skip)))
 (.seq
  (.region false [] [⟨some 42, .mov (.t 5), none, []⟩, ⟨some 43, .len false (.t 42), none, [42]⟩, ⟨some 44, .bin false .sub (.t 43) (.c (.int .i64 3)), none, [43]⟩, ⟨some 9, .mov (.t 44), none, [44]⟩])
 (.seq
  (.region false [] [⟨some 45, .mov (.t 0), none, []⟩, ⟨some 46, .mov (.t 1), none, [1]⟩, ⟨some 47, .bin false .gtr (.t 45) (.t 46), none, [45, 46]⟩, ⟨some 48, .mov (.t 47), none, [47]⟩, ⟨some 49, .mov (.t 5), some (48, false), [5]⟩, ⟨some 50, .len false (.t 49), some (48, false), [49]⟩, ⟨some 51, .mov (.t 7), some (48, false), [7]⟩, ⟨some 52, .len false (.t 51), some (48, false), [51]⟩, ⟨some 53, .bin false .leq (.t 50) (.t 52), some (48, false), [50, 52]⟩, ⟨some 54, .pick (.t 48) (.c (.bool true)) (.t 53), none, [48, 53]⟩, ⟨some 55, .mov (.t 54), none, [54]⟩, ⟨some 56, .mov (.t 9), some (55, true), []⟩, ⟨some 57, .bin false .leq (.t 56) (.c (.int .i64 8)), some (55, true), [56]⟩, ⟨some 58, .pick (.t 55) (.t 57) (.c (.bool false)), none, [55, 57]⟩, ⟨some 59, .mov (.t 58), none, [58]⟩, ⟨some 60, .mov (.t 9), some (59, true), []⟩, ⟨some 61, .bin false .eql (.t 60) (.c (.int .i64 8)), some (59, true), [60]⟩, ⟨some 62, .mov (.t 61), some (59, true), [61]⟩, ⟨some 63, .mov (.t 0), some (62, false), []⟩, ⟨some 64, .mov (.t 9), some (62, false), []⟩, ⟨some 65, .bin false .mul (.c (.int .i64 8)) (.t 64), some (62, false), [64]⟩, ⟨some 66, .bin false .shr (.t 63) (.t 65), some (62, false), [63, 65]⟩, ⟨some 67, .bin false .eql (.t 66) (.c (.int .u64 0)), some (62, false), [66]⟩, ⟨some 68, .pick (.t 62) (.c (.bool true)) (.t 67), some (59, true), [62, 67]⟩, ⟨some 69, .pick (.t 59) (.t 68) (.c (.bool false)), none, [59, 68]⟩, ⟨some 70, .mov (.t 69), none, [69]⟩, ⟨some 71, .mov (.t 9), some (70, true), []⟩, ⟨some 72, .bin false .eql (.t 71) (.c (.int .i64 0)), some (70, true), [71]⟩, ⟨some 73, .mov (.t 72), some (70, true), [72]⟩, ⟨some 74, .mov (.t 0), some (73, false), [0]⟩, ⟨some 75, .mov (.t 9), some (73, false), [9]⟩, ⟨some 76, .bin false .sub (.t 75) (.c (.int .i64 1)), some (73, false), [75]⟩, ⟨some 77, .bin false .mul (.c (.int .i64 8)) (.t 76), some (73, false), [76]⟩, ⟨some 78, .bin false .shr (.t 74) (.t 77), some (73, false), [74, 77]⟩, ⟨some 79, .bin false .gtr (.t 78) (.c (.int .u64 0)), some (73, false), [78]⟩, ⟨some 80, .pick (.t 73) (.c (.bool true)) (.t 79), some (70, true), [73, 79]⟩, ⟨some 81, .pick (.t 70) (.t 80) (.c (.bool false)), none, [70, 80]⟩, ⟨some 4, .mov (.t 81), none, [81]⟩])
 .ret)))))))
def rs_9 : List ARes := [.tmp 4]
theorem ac_9_ok : compCode Try.prog (Try.f9.body.getD .skip) = some ac_9.plain := by kernel_rfl
theorem ac_9_chk : ac_9.chk ⟨Try.f9.ntmps, []⟩ = true := by kernel_rfl
theorem ac_9_pairs : ac_9.pairs.map Prod.fst = ac_9.pairs.map Prod.snd := by kernel_rfl
theorem rs_9_ok : Try.f9.results.toList.mapM (compRes Try.prog) = some rs_9 := by kernel_rfl
theorem ok_9 {Γ : Env} (hΓ : EnvOk Try.prog Γ) (sp : Spec) (h : ∀ args mem r mem1, sp args mem = some (r, mem1) → wpA Γ mem.length ac_9 (finQ mem.length rs_9 r mem1) (entry 0 args) mem) : CallOk Try.prog 9 sp :=
  ok_of_body (fn := Try.f9) (c := Try.f9.body.getD .skip) hΓ mix_ok (by kernel_rfl) (by kernel_rfl) ac_9_ok ⟨ac_9_chk, ac_9_pairs⟩ rs_9_ok (by kernel_rfl) sp h

/-- chantry/chantrylaw02.PackOdd -/
def ac_10 : ACode :=
 (.seq
  (.region false [] [⟨some 6, .mov (.c (.bool false)), none, []⟩])
 (.seq
  (.seq
   (.region false [] [⟨some 14, .call 14 [], none, []⟩, ⟨some 15, .un .not (.t 14), none, [14]⟩])
  (.cond (.t 15)
    (.drop [0, 1, 2, 15]
     (.seq
      (.region false [] [⟨some 6, .mov (.c (.bool false)), none, []⟩])
     .ret))
    (.drop [15]
     .skip)))
 (.seq
  (.seq
   (.region false [] [⟨some 16, .mov (.t 2), none, []⟩, ⟨some 17, .len true (.t 16), none, [16]⟩, ⟨some 18, .bin false .gtr (.t 17) (.c (.int .i64 100)), none, [17]⟩, ⟨some 19, .mov (.t 18), none, [18]⟩, ⟨some 20, .mov (.t 1), some (19, false), []⟩, ⟨some 21, .bin false .eql (.t 20) (.c (.int .u64 0)), some (19, false), [20]⟩, ⟨some 22, .pick (.t 19) (.c (.bool true)) (.t 21), none, [19, 21]⟩, ⟨some 23, .mov (.t 22), none, [22]⟩, ⟨some 24, .mov (.t 2), some (23, false), []⟩, ⟨some 25, .bin false .eql (.t 24) (.c (.string ⟨#[]⟩)), some (23, false), [24]⟩, ⟨some 26, .pick (.t 23) (.c (.bool true)) (.t 25), none, [23, 25]⟩])
  (.cond (.t 26)
    (.drop [0, 1, 2, 26]
     (.seq
      (.region false [] [⟨some 6, .mov (.c (.bool true)), none, []⟩])
     .ret))
    (.drop [26]
     .skip)))
 (.seq
  (.region false [] [⟨some 28, .mov (.t 0), none, []⟩, ⟨some 29, .call 25 [.t 28], none, [28]⟩, ⟨some 30, .bld [.int .i64 0, .int .u64 0, .string ⟨#[]⟩, .float .f64 0] [(0, 1, .c (.int .i64 3)), (3, 1, .t 29)], none, [29]⟩, ⟨some 31, .bsl 52 4 [.t 30], none, [30]⟩, ⟨some 32, .call 16 [.t 31], none, [31]⟩, ⟨some 27, .mov (.t 32), none, [32]⟩, ⟨some 33, .ext 0 (.t 27), none, []⟩, ⟨some 34, .ext 1 (.t 27), none, [27]⟩, ⟨some 7, .mov (.t 33), none, [33]⟩, ⟨some 8, .mov (.t 34), none, [7, 34]⟩])
 (.seq
  (.region false [] [⟨some 36, .mov (.t 1), none, []⟩, ⟨some 37, .mov (.t 2), none, []⟩, ⟨some 38, .bld [.int .i64 0, .int .u64 0, .string ⟨#[]⟩, .float .f64 0] [(0, 1, .c (.int .i64 1)), (1, 1, .t 36), (2, 1, .t 37)], none, [36, 37]⟩, ⟨some 39, .bsl 52 4 [.t 38], none, [38]⟩, ⟨some 40, .call 16 [.t 39], none, [39]⟩, ⟨some 35, .mov (.t 40), none, [40]⟩, ⟨some 41, .ext 0 (.t 35), none, []⟩, ⟨some 42, .ext 1 (.t 35), none, [35]⟩, ⟨some 9, .mov (.t 41), none, [41]⟩, ⟨some 10, .mov (.t 42), none, [9, 42]⟩])
 (.seq
  (.region false [] [⟨some 44, .mov (.t 1), none, [1]⟩, ⟨some 45, .mov (.t 2), none, [2]⟩, ⟨some 46, .bld [.int .i64 0, .int .u64 0, .string ⟨#[]⟩, .float .f64 0] [(0, 1, .c (.int .i64 2)), (1, 1, .t 44), (2, 1, .t 45)], none, [44, 45]⟩, ⟨some 47, .bsl 52 4 [.t 46], none, [46]⟩, ⟨some 48, .call 16 [.t 47], none, [47]⟩, ⟨some 43, .mov (.t 48), none, [48]⟩, ⟨some 49, .ext 0 (.t 43), none, []⟩, ⟨some 50, .ext 1 (.t 43), none, [43]⟩, ⟨some 11, .mov (.t 49), none, [49]⟩, ⟨some 12, .mov (.t 50), none, [11, 50]⟩])
 (.seq
  (.region false [] [⟨some 51, .mov (.t 0), none, []⟩, ⟨some 52, .call 26 [.t 51], none, [51]⟩, ⟨some 53, .mov (.t 0), none, [0]⟩, ⟨some 54, .bin false .eql (.t 52) (.t 53), none, [52, 53]⟩, ⟨some 13, .mov (.t 54), none, [54]⟩])
 (.seq
  (.region false [] [⟨some 55, .mov (.t 8), none, []⟩, ⟨some 56, .bin false .eql (.t 55) (.c (.int .i64 0)), none, [55]⟩, ⟨some 57, .mov (.t 13), none, []⟩, ⟨some 58, .bin true .eql (.t 56) (.t 57), none, [56, 57]⟩, ⟨some 59, .mov (.t 58), none, [58]⟩, ⟨some 60, .mov (.t 13), some (59, true), [13]⟩, ⟨some 61, .mov (.t 60), some (59, true), [60]⟩, ⟨some 62, .mov (.t 8), some (61, false), [8]⟩, ⟨some 63, .bin false .eql (.t 62) (.c (.int .i64 2)), some (61, false), [62]⟩, ⟨some 64, .pick (.t 61) (.c (.bool true)) (.t 63), some (59, true), [61, 63]⟩, ⟨some 65, .pick (.t 59) (.t 64) (.c (.bool false)), none, [59, 64]⟩, ⟨some 66, .mov (.t 65), none, [65]⟩, ⟨some 67, .mov (.t 10), some (66, true), [10]⟩, ⟨some 68, .bin false .eql (.t 67) (.c (.int .i64 2)), some (66, true), [67]⟩, ⟨some 69, .pick (.t 66) (.t 68) (.c (.bool false)), none, [66, 68]⟩, ⟨some 70, .mov (.t 69), none, [69]⟩, ⟨some 71, .mov (.t 12), some (70, true), [12]⟩, ⟨some 72, .bin false .eql (.t 71) (.c (.int .i64 2)), some (70, true), [71]⟩, ⟨some 73, .pick (.t 70) (.t 72) (.c (.bool false)), none, [70, 72]⟩, ⟨some 6, .mov (.t 73), none, [73]⟩])
 .ret))))))))
def rs_10 : List ARes := [.tmp 6]
theorem ac_10_ok : compCode Try.prog (Try.f10.body.getD .skip) = some ac_10.plain := by kernel_rfl
theorem ac_10_chk : ac_10.chk ⟨Try.f10.ntmps, []⟩ = true := by kernel_rfl
theorem ac_10_pairs : ac_10.pairs.map Prod.fst = ac_10.pairs.map Prod.snd := by kernel_rfl
theorem rs_10_ok : Try.f10.results.toList.mapM (compRes Try.prog) = some rs_10 := by kernel_rfl
theorem ok_10 {Γ : Env} (hΓ : EnvOk Try.prog Γ) (sp : Spec) (h : ∀ args mem r mem1, sp args mem = some (r, mem1) → wpA Γ mem.length ac_10 (finQ mem.length rs_10 r mem1) (entry 0 args) mem) : CallOk Try.prog 10 sp :=
  ok_of_body (fn := Try.f10) (c := Try.f10.body.getD .skip) hΓ mix_ok (by kernel_rfl) (by kernel_rfl) ac_10_ok ⟨ac_10_chk, ac_10_pairs⟩ rs_10_ok (by kernel_rfl) sp h

/-- chantry/chantrylaw17.FrameBytes -/
def ac_11 : ACode :=
 (.seq
  (.region false [] [⟨some 2, .box (.t 0), none, [0]⟩, ⟨some 4, .mov (.c (.bool false)), none, []⟩])
 (.seal_ 2
  (.seq
   (.seq
    (.region false [] [⟨some 13, .call 27 [], none, []⟩, ⟨some 14, .un .not (.t 13), none, [13]⟩])
   (.cond (.t 14)
     (.drop [1, 2, 14]
      (.seq
       (.region false [] [⟨some 4, .mov (.c (.bool false)), none, []⟩])
      .ret))
     (.drop [14]
      .skip)))
  (.seq
   (.seq
    (.region false [] [⟨some 15, .fad 4 (.t 2), none, []⟩, ⟨some 16, .ld false 1 (.t 15), none, [15]⟩, ⟨some 17, .len true (.t 16), none, [16]⟩, ⟨some 18, .bin false .gtr (.t 17) (.c (.int .i64 1200)), none, [17]⟩, ⟨some 19, .mov (.t 18), none, [18]⟩, ⟨some 20, .mov (.t 1), some (19, false), []⟩, ⟨some 21, .len false (.t 20), some (19, false), [20]⟩, ⟨some 22, .bin false .gtr (.t 21) (.c (.int .i64 1200)), some (19, false), [21]⟩, ⟨some 23, .pick (.t 19) (.c (.bool true)) (.t 22), none, [19, 22]⟩])
   (.cond (.t 23)
     (.drop [1, 2, 23]
      (.seq
       (.region false [] [⟨some 4, .mov (.c (.bool true)), none, []⟩])
      .ret))
     (.drop [23]
      .skip)))
  (.seq
   (.region false [] [⟨some 25, .ld true 5 (.t 2), none, []⟩, ⟨some 26, .call 28 [.t 25], none, [25]⟩, ⟨some 24, .mov (.t 26), none, [26]⟩, ⟨some 27, .ext 0 (.t 24), none, []⟩, ⟨some 28, .ext 1 (.t 24), none, [24]⟩, ⟨some 5, .mov (.t 27), none, [27]⟩, ⟨some 6, .mov (.t 28), none, [28]⟩])
  (.seq
   (.region false [] [⟨some 30, .ld true 5 (.t 2), none, []⟩, ⟨some 31, .call 29 [.t 30], none, [30]⟩, ⟨some 29, .mov (.t 31), none, [31]⟩, ⟨some 32, .ext 0 (.t 29), none, []⟩, ⟨some 33, .ext 1 (.t 29), none, [29]⟩, ⟨some 7, .mov (.t 32), none, [32]⟩, ⟨some 8, .mov (.t 33), none, [33]⟩])
  (.seq
   (.region false [] [⟨some 35, .mov (.t 1), none, []⟩, ⟨some 36, .call 30 [.t 35], none, [35]⟩, ⟨some 34, .mov (.t 36), none, [36]⟩, ⟨some 37, .ext 0 (.t 34), none, []⟩, ⟨some 38, .ext 1 (.t 34), none, [34]⟩, ⟨some 9, .alloc [.int .i64 0, .int .u8 0, .int .i64 0, .int .i64 0, .string ⟨#[]⟩], none, []⟩, ⟨none, .st 5 (.t 9) (.t 37), none, [37]⟩, ⟨some 10, .mov (.t 38), none, [38]⟩])
  (.seal_ 9
   (.seq
    (.region false [] [⟨some 40, .mov (.t 1), none, [1]⟩, ⟨some 41, .call 31 [.t 40], none, [40]⟩, ⟨some 39, .mov (.t 41), none, [41]⟩, ⟨some 42, .ext 0 (.t 39), none, []⟩, ⟨some 43, .ext 1 (.t 39), none, [39]⟩, ⟨some 11, .alloc [.int .i64 0, .int .u8 0, .int .i64 0, .int .i64 0, .string ⟨#[]⟩], none, []⟩, ⟨none, .st 5 (.t 11) (.t 42), none, [42]⟩, ⟨some 12, .mov (.t 43), none, [43]⟩])
   (.seal_ 11
    (.seq
     (.draws (.tak 0 ⟨some 44, .ld true 5 (.t 2), none, []⟩ (.tak 2 ⟨some 46, .ld true 5 (.t 2), none, []⟩ (.alt 1 ⟨some 45, .call 32 [.t 44], none, []⟩ (.alt 3 ⟨some 47, .call 33 [.t 46], none, []⟩ (.tak 4 ⟨some 48, .bin true .eql (.t 45) (.t 47), none, []⟩ (.tak 5 ⟨some 49, .mov (.t 48), none, []⟩ (.tak 6 ⟨some 50, .mov (.t 5), some (49, true), []⟩ (.tak 7 ⟨some 51, .b2s (.t 50), some (49, true), []⟩ (.tak 8 ⟨some 52, .mov (.t 7), some (49, true), []⟩ (.tak 9 ⟨some 53, .b2s (.t 52), some (49, true), []⟩ (.tak 10 ⟨some 54, .bin false .eql (.t 51) (.t 53), some (49, true), []⟩ (.tak 11 ⟨some 55, .pick (.t 49) (.t 54) (.c (.bool false)), none, []⟩ (.tak 12 ⟨some 56, .mov (.t 55), none, []⟩ (.tak 13 ⟨some 57, .mov (.t 6), some (56, true), []⟩ (.tak 14 ⟨some 58, .mov (.t 8), some (56, true), []⟩ (.tak 15 ⟨some 59, .bin false .eql (.t 57) (.t 58), some (56, true), []⟩ (.tak 16 ⟨some 60, .pick (.t 56) (.t 59) (.c (.bool false)), none, []⟩ (.tak 17 ⟨some 61, .mov (.t 60), none, []⟩ (.tak 18 ⟨some 62, .ld true 5 (.t 9), some (61, true), []⟩ (.tak 19 ⟨some 63, .ld true 5 (.t 11), some (61, true), []⟩ (.tak 20 ⟨some 64, .eqs false [.i, .i, .i, .i, .s] (.t 62) (.t 63), some (61, true), []⟩ (.tak 21 ⟨some 65, .pick (.t 61) (.t 64) (.c (.bool false)), none, []⟩ (.tak 22 ⟨some 66, .mov (.t 65), none, []⟩ (.tak 23 ⟨some 67, .mov (.t 10), some (66, true), []⟩ (.tak 24 ⟨some 68, .mov (.t 12), some (66, true), []⟩ (.tak 25 ⟨some 69, .bin false .eql (.t 67) (.t 68), some (66, true), []⟩ (.tak 26 ⟨some 70, .pick (.t 66) (.t 69) (.c (.bool false)), none, []⟩ (.tak 27 ⟨some 4, .mov (.t 70), none, []⟩ .done)))))))))))))))))))))))) .stop) .stop))) [[], [0], [], [2, 1], [1, 3], [4, 3], [5], [6, 5], [5], [8, 5], [7, 9, 5], [5, 10], [11, 5], [12], [12], [13, 14, 12], [12, 15], [16, 12], [17], [17], [18, 19, 17], [17, 20], [21, 17], [22], [22], [23, 24, 22], [22, 25], [26, 22, 0, 1, 2, 3, 4, 5, 6, 7, 8, 9, 10, 11, 12, 13, 14, 15, 16, 17, 18, 19, 20, 21, 22, 23, 24, 25, 26]] [⟨some 44, .ld true 5 (.t 2), none, []⟩, ⟨some 45, .call 32 [.t 44], none, []⟩, ⟨some 46, .ld true 5 (.t 2), none, []⟩, ⟨some 47, .call 33 [.t 46], none, []⟩, ⟨some 48, .bin true .eql (.t 45) (.t 47), none, []⟩, ⟨some 49, .mov (.t 48), none, []⟩, ⟨some 50, .mov (.t 5), some (49, true), []⟩, ⟨some 51, .b2s (.t 50), some (49, true), []⟩, ⟨some 52, .mov (.t 7), some (49, true), []⟩, ⟨some 53, .b2s (.t 52), some (49, true), []⟩, ⟨some 54, .bin false .eql (.t 51) (.t 53), some (49, true), []⟩, ⟨some 55, .pick (.t 49) (.t 54) (.c (.bool false)), none, []⟩, ⟨some 56, .mov (.t 55), none, []⟩, ⟨some 57, .mov (.t 6), some (56, true), []⟩, ⟨some 58, .mov (.t 8), some (56, true), []⟩, ⟨some 59, .bin false .eql (.t 57) (.t 58), some (56, true), []⟩, ⟨some 60, .pick (.t 56) (.t 59) (.c (.bool false)), none, []⟩, ⟨some 61, .mov (.t 60), none, []⟩, ⟨some 62, .ld true 5 (.t 9), some (61, true), []⟩, ⟨some 63, .ld true 5 (.t 11), some (61, true), []⟩, ⟨some 64, .eqs false [.i, .i, .i, .i, .s] (.t 62) (.t 63), some (61, true), []⟩, ⟨some 65, .pick (.t 61) (.t 64) (.c (.bool false)), none, []⟩, ⟨some 66, .mov (.t 65), none, []⟩, ⟨some 67, .mov (.t 10), some (66, true), []⟩, ⟨some 68, .mov (.t 12), some (66, true), []⟩, ⟨some 69, .bin false .eql (.t 67) (.t 68), some (66, true), []⟩, ⟨some 70, .pick (.t 66) (.t 69) (.c (.bool false)), none, []⟩, ⟨some 4, .mov (.t 70), none, []⟩])
    (.drop [2, 5, 6, 7, 8, 9, 10, 11, 12, 44, 45, 46, 47, 48, 49, 50, 51, 52, 53, 54, 55, 56, 57, 58, 59, 60, 61, 62, 63, 64, 65, 66, 67, 68, 69, 70]
     .ret))))))))))))
def rs_11 : List ARes := [.tmp 4]
theorem ac_11_ok : compCode Try.prog (Try.f11.body.getD .skip) = some ac_11.plain := by kernel_rfl
theorem ac_11_chk : ac_11.chk ⟨Try.f11.ntmps, []⟩ = true := by kernel_rfl
theorem ac_11_pairs : ac_11.pairs.map Prod.fst = ac_11.pairs.map Prod.snd := by kernel_rfl
theorem rs_11_ok : Try.f11.results.toList.mapM (compRes Try.prog) = some rs_11 := by kernel_rfl
theorem ok_11 {Γ : Env} (hΓ : EnvOk Try.prog Γ) (sp : Spec) (h : ∀ args mem r mem1, sp args mem = some (r, mem1) → wpA Γ mem.length ac_11 (finQ mem.length rs_11 r mem1) (entry 0 args) mem) : CallOk Try.prog 11 sp :=
  ok_of_body (fn := Try.f11) (c := Try.f11.body.getD .skip) hΓ mix_ok (by kernel_rfl) (by kernel_rfl) ac_11_ok ⟨ac_11_chk, ac_11_pairs⟩ rs_11_ok (by kernel_rfl) sp h

/-- chantry/chantrylaw17.FrameBack -/
def ac_12 : ACode :=
 (.seq
  (.region false [] [⟨some 3, .box (.t 0), none, [0]⟩, ⟨some 4, .box (.t 1), none, [1]⟩, ⟨some 6, .mov (.c (.bool false)), none, []⟩])
 (.seal_ 4
  (.seal_ 3
   (.seq
    (.seq
     (.region false [] [⟨some 17, .call 27 [], none, []⟩, ⟨some 18, .un .not (.t 17), none, [17]⟩])
    (.cond (.t 18)
      (.drop [2, 3, 4, 18]
       (.seq
        (.region false [] [⟨some 6, .mov (.c (.bool false)), none, []⟩])
       .ret))
      (.drop [18]
       .skip)))
   (.seq
    (.seq
     (.region false [] [⟨some 19, .fad 4 (.t 3), none, []⟩, ⟨some 20, .ld false 1 (.t 19), none, [19]⟩, ⟨some 21, .len true (.t 20), none, [20]⟩, ⟨some 22, .bin false .gtr (.t 21) (.c (.int .i64 1200)), none, [21]⟩, ⟨some 23, .mov (.t 22), none, [22]⟩, ⟨some 24, .fad 4 (.t 4), some (23, false), []⟩, ⟨some 25, .ld false 1 (.t 24), some (23, false), [24]⟩, ⟨some 26, .len true (.t 25), some (23, false), [25]⟩, ⟨some 27, .bin false .gtr (.t 26) (.c (.int .i64 1200)), some (23, false), [26]⟩, ⟨some 28, .pick (.t 23) (.c (.bool true)) (.t 27), none, [23, 27]⟩, ⟨some 29, .mov (.t 28), none, [28]⟩, ⟨some 30, .mov (.t 2), some (29, false), []⟩, ⟨some 31, .len false (.t 30), some (29, false), [30]⟩, ⟨some 32, .bin false .gtr (.t 31) (.c (.int .i64 1200)), some (29, false), [31]⟩, ⟨some 33, .pick (.t 29) (.c (.bool true)) (.t 32), none, [29, 32]⟩])
    (.cond (.t 33)
      (.drop [2, 3, 4, 33]
       (.seq
        (.region false [] [⟨some 6, .mov (.c (.bool true)), none, []⟩])
       .ret))
      (.drop [33]
       .skip)))
   (.seq
    (.region false [] [⟨some 35, .ld true 5 (.t 3), none, []⟩, ⟨some 36, .call 28 [.t 35], none, [35]⟩, ⟨some 34, .mov (.t 36), none, [36]⟩, ⟨some 37, .ext 0 (.t 34), none, []⟩, ⟨some 38, .ext 1 (.t 34), none, [34]⟩, ⟨some 7, .mov (.t 37), none, [37]⟩, ⟨some 8, .mov (.t 38), none, [38]⟩])
   (.seq
    (.region false [] [⟨some 40, .ld true 5 (.t 4), none, []⟩, ⟨some 41, .call 28 [.t 40], none, [40]⟩, ⟨some 39, .mov (.t 41), none, [41]⟩, ⟨some 42, .ext 0 (.t 39), none, []⟩, ⟨some 43, .ext 1 (.t 39), none, [39]⟩, ⟨some 9, .mov (.t 42), none, [42]⟩, ⟨some 10, .mov (.t 43), none, [43]⟩])
   (.seq
    (.seq
     (.region false [] [⟨some 44, .mov (.t 8), none, []⟩, ⟨some 45, .bin false .eql (.t 44) (.c (.int .i64 0)), none, [44]⟩])
    (.cond (.t 45)
      (.drop [45]
       (.seq
        (.region false [] [⟨some 47, .mov (.t 7), none, []⟩, ⟨some 48, .call 30 [.t 47], none, [47]⟩, ⟨some 46, .mov (.t 48), none, [48]⟩, ⟨some 49, .ext 0 (.t 46), none, []⟩, ⟨some 50, .ext 1 (.t 46), none, [46]⟩, ⟨some 11, .alloc [.int .i64 0, .int .u8 0, .int .i64 0, .int .i64 0, .string ⟨#[]⟩], none, []⟩, ⟨none, .st 5 (.t 11) (.t 49), none, [49]⟩, ⟨some 12, .mov (.t 50), none, [50]⟩])
       (.seal_ 11
        (.seq
         (.region false [] [⟨some 51, .mov (.t 12), none, [12]⟩, ⟨some 52, .bin false .neq (.t 51) (.c (.int .i64 0)), none, [51]⟩, ⟨some 53, .mov (.t 52), none, [52]⟩, ⟨some 54, .ld true 5 (.t 11), some (53, false), [11]⟩, ⟨some 55, .ld true 5 (.t 3), some (53, false), []⟩, ⟨some 56, .eqs true [.i, .i, .i, .i, .s] (.t 54) (.t 55), some (53, false), [54, 55]⟩, ⟨some 57, .pick (.t 53) (.c (.bool true)) (.t 56), none, [53, 56]⟩, ⟨some 58, .mov (.t 57), none, [57]⟩, ⟨some 59, .mov (.t 7), some (58, false), []⟩, ⟨some 60, .len false (.t 59), some (58, false), [59]⟩, ⟨some 61, .bin false .gtr (.t 60) (.c (.int .i64 1000)), some (58, false), [60]⟩, ⟨some 62, .pick (.t 58) (.c (.bool true)) (.t 61), none, [58, 61]⟩])
        (.cond (.t 62)
          (.drop [2, 3, 4, 7, 8, 9, 10, 62]
           (.seq
            (.region false [] [⟨some 6, .mov (.c (.bool false)), none, []⟩])
           .ret))
          (.drop [62]
           .skip))))))
      (.drop [45]
       .skip)))
   (.seq
    (.seq
     (.region false [] [⟨some 64, .mov (.t 2), none, []⟩, ⟨some 65, .call 30 [.t 64], none, [64]⟩, ⟨some 63, .mov (.t 65), none, [65]⟩, ⟨some 66, .ext 0 (.t 63), none, []⟩, ⟨some 67, .ext 1 (.t 63), none, [63]⟩, ⟨some 13, .alloc [.int .i64 0, .int .u8 0, .int .i64 0, .int .i64 0, .string ⟨#[]⟩], none, []⟩, ⟨none, .st 5 (.t 13) (.t 66), none, [66]⟩, ⟨some 14, .mov (.t 67), none, [67]⟩])
    (.seal_ 13
     (.seq
      (.region false [] [⟨some 68, .mov (.t 14), none, [14]⟩, ⟨some 69, .bin false .eql (.t 68) (.c (.int .i64 0)), none, [68]⟩])
     (.cond (.t 69)
       (.drop [69]
        (.seq
         (.region false [] [⟨some 71, .ld true 5 (.t 13), none, [13]⟩, ⟨some 72, .call 28 [.t 71], none, [71]⟩, ⟨some 70, .mov (.t 72), none, [72]⟩, ⟨some 73, .ext 0 (.t 70), none, []⟩, ⟨some 74, .ext 1 (.t 70), none, [70]⟩, ⟨some 15, .mov (.t 73), none, [73]⟩, ⟨some 16, .mov (.t 74), none, [74]⟩])
        (.seq
         (.region false [] [⟨some 75, .mov (.t 16), none, [16]⟩, ⟨some 76, .bin false .neq (.t 75) (.c (.int .i64 0)), none, [75]⟩, ⟨some 77, .mov (.t 76), none, [76]⟩, ⟨some 78, .mov (.t 15), some (77, false), [15]⟩, ⟨some 79, .b2s (.t 78), some (77, false), [78]⟩, ⟨some 80, .mov (.t 2), some (77, false), [2]⟩, ⟨some 81, .b2s (.t 80), some (77, false), [80]⟩, ⟨some 82, .bin false .neq (.t 79) (.t 81), some (77, false), [79, 81]⟩, ⟨some 83, .pick (.t 77) (.c (.bool true)) (.t 82), none, [77, 82]⟩])
        (.cond (.t 83)
          (.drop [3, 4, 7, 8, 9, 10, 83]
           (.seq
            (.region false [] [⟨some 6, .mov (.c (.bool false)), none, []⟩])
           .ret))
          (.drop [83]
           .skip)))))
       (.drop [2, 13, 69]
        .skip)))))
   (.seq
    (.draws (.tak 0 ⟨some 84, .mov (.t 8), none, []⟩ (.tak 1 ⟨some 85, .bin false .neq (.t 84) (.c (.int .i64 0)), none, []⟩ (.tak 2 ⟨some 86, .mov (.t 85), none, []⟩ (.tak 3 ⟨some 87, .mov (.t 10), some (86, false), []⟩ (.tak 4 ⟨some 88, .bin false .neq (.t 87) (.c (.int .i64 0)), some (86, false), []⟩ (.tak 5 ⟨some 89, .pick (.t 86) (.c (.bool true)) (.t 88), none, []⟩ (.tak 6 ⟨some 90, .mov (.t 89), none, []⟩ (.tak 7 ⟨some 91, .mov (.t 7), some (90, false), []⟩ (.tak 8 ⟨some 92, .b2s (.t 91), some (90, false), []⟩ (.tak 9 ⟨some 93, .mov (.t 9), some (90, false), []⟩ (.tak 10 ⟨some 94, .b2s (.t 93), some (90, false), []⟩ (.tak 11 ⟨some 95, .bin false .eql (.t 92) (.t 94), some (90, false), []⟩ (.tak 12 ⟨some 96, .ld true 5 (.t 3), some (90, false), []⟩ (.tak 13 ⟨some 97, .ld true 5 (.t 4), some (90, false), []⟩ (.tak 14 ⟨some 98, .eqs false [.i, .i, .i, .i, .s] (.t 96) (.t 97), some (90, false), []⟩ (.tak 15 ⟨some 99, .bin true .eql (.t 95) (.t 98), some (90, false), []⟩ (.tak 16 ⟨some 100, .pick (.t 90) (.c (.bool true)) (.t 99), none, []⟩ (.tak 17 ⟨some 6, .mov (.t 100), none, []⟩ .done)))))))))))))))))) [[], [0], [1], [2], [3, 2], [2, 4], [5, 2], [6], [7, 6], [6], [9, 6], [8, 10, 6], [6], [6], [12, 13, 6], [11, 14, 6], [6, 15], [16, 6, 0, 1, 2, 3, 4, 5, 6, 7, 8, 9, 10, 11, 12, 13, 14, 15, 16]] [⟨some 84, .mov (.t 8), none, []⟩, ⟨some 85, .bin false .neq (.t 84) (.c (.int .i64 0)), none, []⟩, ⟨some 86, .mov (.t 85), none, []⟩, ⟨some 87, .mov (.t 10), some (86, false), []⟩, ⟨some 88, .bin false .neq (.t 87) (.c (.int .i64 0)), some (86, false), []⟩, ⟨some 89, .pick (.t 86) (.c (.bool true)) (.t 88), none, []⟩, ⟨some 90, .mov (.t 89), none, []⟩, ⟨some 91, .mov (.t 7), some (90, false), []⟩, ⟨some 92, .b2s (.t 91), some (90, false), []⟩, ⟨some 93, .mov (.t 9), some (90, false), []⟩, ⟨some 94, .b2s (.t 93), some (90, false), []⟩, ⟨some 95, .bin false .eql (.t 92) (.t 94), some (90, false), []⟩, ⟨some 96, .ld true 5 (.t 3), some (90, false), []⟩, ⟨some 97, .ld true 5 (.t 4), some (90, false), []⟩, ⟨some 98, .eqs false [.i, .i, .i, .i, .s] (.t 96) (.t 97), some (90, false), []⟩, ⟨some 99, .bin true .eql (.t 95) (.t 98), some (90, false), []⟩, ⟨some 100, .pick (.t 90) (.c (.bool true)) (.t 99), none, []⟩, ⟨some 6, .mov (.t 100), none, []⟩])
   (.drop [3, 4, 7, 8, 9, 10, 84, 85, 86, 87, 88, 89, 90, 91, 92, 93, 94, 95, 96, 97, 98, 99, 100]
    .ret)))))))))))
def rs_12 : List ARes := [.tmp 6]
theorem ac_12_ok : compCode Try.prog (Try.f12.body.getD .skip) = some ac_12.plain := by kernel_rfl
theorem ac_12_chk : ac_12.chk ⟨Try.f12.ntmps, []⟩ = true := by kernel_rfl
theorem ac_12_pairs : ac_12.pairs.map Prod.fst = ac_12.pairs.map Prod.snd := by kernel_rfl
theorem rs_12_ok : Try.f12.results.toList.mapM (compRes Try.prog) = some rs_12 := by kernel_rfl
theorem ok_12 {Γ : Env} (hΓ : EnvOk Try.prog Γ) (sp : Spec) (h : ∀ args mem r mem1, sp args mem = some (r, mem1) → wpA Γ mem.length ac_12 (finQ mem.length rs_12 r mem1) (entry 0 args) mem) : CallOk Try.prog 12 sp :=
  ok_of_body (fn := Try.f12) (c := Try.f12.body.getD .skip) hΓ mix_ok (by kernel_rfl) (by kernel_rfl) ac_12_ok ⟨ac_12_chk, ac_12_pairs⟩ rs_12_ok (by kernel_rfl) sp h

/-- chantry/chantrylaw17.FrameKinds -/
def ac_13 : ACode :=
 (.seq
  (.region false [] [⟨some 2, .box (.t 0), none, [0]⟩, ⟨some 4, .mov (.c (.bool false)), none, []⟩])
 (.seal_ 2
  (.seq
   (.seq
    (.region false [] [⟨some 10, .call 27 [], none, []⟩, ⟨some 11, .un .not (.t 10), none, [10]⟩])
   (.cond (.t 11)
     (.drop [1, 2, 11]
      (.seq
       (.region false [] [⟨some 4, .mov (.c (.bool false)), none, []⟩])
      .ret))
     (.drop [11]
      .skip)))
  (.seq
   (.seq
    (.region false [] [⟨some 12, .fad 4 (.t 2), none, []⟩, ⟨some 13, .ld false 1 (.t 12), none, [12]⟩, ⟨some 14, .len true (.t 13), none, [13]⟩, ⟨some 15, .bin false .gtr (.t 14) (.c (.int .i64 1200)), none, [14]⟩])
   (.cond (.t 15)
     (.drop [1, 2, 15]
      (.seq
       (.region false [] [⟨some 4, .mov (.c (.bool true)), none, []⟩])
      .ret))
     (.drop [15]
      .skip)))
  (.seq
   (.region false [] [⟨some 17, .ld true 5 (.t 2), none, []⟩, ⟨some 18, .call 28 [.t 17], none, [17]⟩, ⟨some 16, .mov (.t 18), none, [18]⟩, ⟨some 19, .ext 0 (.t 16), none, []⟩, ⟨some 20, .ext 1 (.t 16), none, [16]⟩, ⟨some 5, .mov (.t 19), none, [19]⟩, ⟨some 6, .mov (.t 20), none, [20]⟩])
  (.seq
   (.region false [] [⟨some 21, .ld true 5 (.t 2), none, []⟩, ⟨some 7, .alloc [.int .i64 0, .int .u8 0, .int .i64 0, .int .i64 0, .string ⟨#[]⟩], none, []⟩, ⟨none, .st 5 (.t 7) (.t 21), none, [21]⟩])
  (.seq
   (.seq
    (.region false [] [⟨some 22, .mov (.t 1), none, [1]⟩, ⟨some 23, .bin false .rem (.t 22) (.c (.int .u8 5)), none, [22]⟩])
   (.block 0
    (.seq
     (.region false [] [⟨some 29, .bin false .eql (.t 23) (.c (.int .u8 0)), none, []⟩, ⟨some 28, .mov (.t 29), none, [29]⟩])
    (.cond (.t 28)
      (.drop [23, 28]
       (.region false [] [⟨some 30, .fad 0 (.t 7), none, []⟩, ⟨some 31, .fad 0 (.t 30), none, [30]⟩, ⟨some 32, .ld false 1 (.t 31), none, [31]⟩, ⟨some 33, .bin false .add (.t 32) (.c (.int .i64 1)), none, [32]⟩, ⟨some 34, .fad 0 (.t 7), none, []⟩, ⟨some 35, .fad 0 (.t 34), none, [34]⟩, ⟨none, .st 1 (.t 35) (.t 33), none, [33, 35]⟩]))
      (.drop [28]
       (.seq
        (.region false [] [⟨some 37, .bin false .eql (.t 23) (.c (.int .u8 1)), none, []⟩, ⟨some 36, .mov (.t 37), none, [37]⟩])
       (.cond (.t 36)
         (.drop [23, 36]
          (.region false [] [⟨some 38, .fad 0 (.t 7), none, []⟩, ⟨some 39, .fad 1 (.t 38), none, [38]⟩, ⟨some 40, .ld false 1 (.t 39), none, [39]⟩, ⟨some 41, .bin false .add (.t 40) (.c (.int .u8 1)), none, [40]⟩, ⟨some 42, .fad 0 (.t 7), none, []⟩, ⟨some 43, .fad 1 (.t 42), none, [42]⟩, ⟨none, .st 1 (.t 43) (.t 41), none, [41, 43]⟩]))
         (.drop [36]
          (.seq
           (.region false [] [⟨some 45, .bin false .eql (.t 23) (.c (.int .u8 2)), none, []⟩, ⟨some 44, .mov (.t 45), none, [45]⟩])
          (.cond (.t 44)
            (.drop [23, 44]
             (.region false [] [⟨some 46, .fad 0 (.t 7), none, []⟩, ⟨some 47, .fad 2 (.t 46), none, [46]⟩, ⟨some 48, .ld false 1 (.t 47), none, [47]⟩, ⟨some 49, .bin false .add (.t 48) (.c (.int .i64 1)), none, [48]⟩, ⟨some 50, .fad 0 (.t 7), none, []⟩, ⟨some 51, .fad 2 (.t 50), none, [50]⟩, ⟨none, .st 1 (.t 51) (.t 49), none, [49, 51]⟩]))
            (.drop [44]
             (.seq
              (.region false [] [⟨some 53, .bin false .eql (.t 23) (.c (.int .u8 3)), none, [23]⟩, ⟨some 52, .mov (.t 53), none, [53]⟩])
             (.cond (.t 52)
               (.drop [52]
                (.region false [] [⟨some 54, .fad 3 (.t 7), none, []⟩, ⟨some 55, .ld false 1 (.t 54), none, [54]⟩, ⟨some 56, .bin false .add (.t 55) (.c (.int .i64 1)), none, [55]⟩, ⟨some 57, .fad 3 (.t 7), none, []⟩, ⟨none, .st 1 (.t 57) (.t 56), none, [56, 57]⟩]))
               (.drop [52]
                (.region false [] [⟨some 24, .fad 4 (.t 7), none, []⟩, ⟨some 25, .ld false 1 (.t 24), none, [24]⟩, ⟨some 26, .bin false .add (.t 25) (.c (.string ⟨#[120]⟩)), none, [25]⟩, ⟨some 27, .fad 4 (.t 7), none, []⟩, ⟨none, .st 1 (.t 27) (.t 26), none, [26, 27]⟩])))))))))))))))
  (.seq
   (.region false [] [⟨some 59, .ld true 5 (.t 7), none, [7]⟩, ⟨some 60, .call 28 [.t 59], none, [59]⟩, ⟨some 58, .mov (.t 60), none, [60]⟩, ⟨some 61, .ext 0 (.t 58), none, []⟩, ⟨some 62, .ext 1 (.t 58), none, [58]⟩, ⟨some 8, .mov (.t 61), none, [61]⟩, ⟨some 9, .mov (.t 62), none, [62]⟩])
  (.seq
   (.region false [] [⟨some 63, .mov (.t 6), none, []⟩, ⟨some 64, .bin false .neq (.t 63) (.c (.int .i64 0)), none, [63]⟩, ⟨some 65, .mov (.t 64), none, [64]⟩, ⟨some 66, .mov (.t 9), some (65, false), [9]⟩, ⟨some 67, .bin false .neq (.t 66) (.c (.int .i64 0)), some (65, false), [66]⟩, ⟨some 68, .pick (.t 65) (.c (.bool true)) (.t 67), none, [65, 67]⟩, ⟨some 69, .mov (.t 68), none, [68]⟩, ⟨some 70, .mov (.t 5), some (69, false), [5]⟩, ⟨some 71, .b2s (.t 70), some (69, false), [70]⟩, ⟨some 72, .mov (.t 8), some (69, false), [8]⟩, ⟨some 73, .b2s (.t 72), some (69, false), [72]⟩, ⟨some 74, .bin false .neq (.t 71) (.t 73), some (69, false), [71, 73]⟩, ⟨some 75, .pick (.t 69) (.c (.bool true)) (.t 74), none, [69, 74]⟩, ⟨some 76, .mov (.t 75), none, [75]⟩, ⟨some 77, .mov (.t 6), some (76, true), [6]⟩, ⟨some 78, .bin false .eql (.t 77) (.c (.int .i64 0)), some (76, true), [77]⟩, ⟨some 79, .ld true 5 (.t 2), some (76, true), [2]⟩, ⟨some 80, .call 32 [.t 79], some (76, true), [79]⟩, ⟨some 81, .bin true .eql (.t 78) (.t 80), some (76, true), [78, 80]⟩, ⟨some 82, .pick (.t 76) (.t 81) (.c (.bool false)), none, [76, 81]⟩, ⟨some 4, .mov (.t 82), none, [82]⟩])
  .ret)))))))))
def rs_13 : List ARes := [.tmp 4]
theorem ac_13_ok : compCode Try.prog (Try.f13.body.getD .skip) = some ac_13.plain := by kernel_rfl
theorem ac_13_chk : ac_13.chk ⟨Try.f13.ntmps, []⟩ = true := by kernel_rfl
theorem ac_13_pairs : ac_13.pairs.map Prod.fst = ac_13.pairs.map Prod.snd := by kernel_rfl
theorem rs_13_ok : Try.f13.results.toList.mapM (compRes Try.prog) = some rs_13 := by kernel_rfl
theorem ok_13 {Γ : Env} (hΓ : EnvOk Try.prog Γ) (sp : Spec) (h : ∀ args mem r mem1, sp args mem = some (r, mem1) → wpA Γ mem.length ac_13 (finQ mem.length rs_13 r mem1) (entry 0 args) mem) : CallOk Try.prog 13 sp :=
  ok_of_body (fn := Try.f13) (c := Try.f13.body.getD .skip) hΓ mix_ok (by kernel_rfl) (by kernel_rfl) ac_13_ok ⟨ac_13_chk, ac_13_pairs⟩ rs_13_ok (by kernel_rfl) sp h

end Go.Proofs.Ytbhbpahbopjfeaa.Am
