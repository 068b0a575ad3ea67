/-
  THE FUNCTIONS' ABSTRACT CODE, as Lean's own reduction of compCode printed it, with notes (genac.py); each is held against the translation by the kernel.
-/
import Derived.Test.YtajpaagbfmjacaaGreatDoorProg
import Derived.Test.YtajpaagbfmjacaaGreatDoorZXE
namespace Go.Proofs.YtajpaagbfmjacaaGreatDoor.Am
set_option linter.unusedSimpArgs false
set_option linter.unusedVariables false
open Go Go.Proofs
set_option maxRecDepth 100000


/-- slices.Delete[[]chantry/table.Open,chantry/table.Open] -/
def ac_168 : ACode :=
 (.seq
  (.region false [] [⟨some 6, .mov (.c (.slice none 0 0)), none, []⟩])
 (.open_ 0
  (.seq
   (.region false [] [⟨some 8, .mov (.t 0), none, []⟩, ⟨some 9, .mov (.t 1), none, []⟩, ⟨some 10, .mov (.t 2), none, []⟩, ⟨some 11, .mov (.t 0), none, []⟩, ⟨some 12, .len false (.t 11), none, [11]⟩, ⟨some 13, .sl3 7 (.t 8) (some (.t 9)) (some (.t 10)) (some (.t 12)), none, [8, 9, 10, 12]⟩])
  (.seq
   (.seq
    (.region false [] [⟨some 14, .mov (.t 1), none, []⟩, ⟨some 15, .mov (.t 2), none, []⟩, ⟨some 16, .bin false .eql (.t 14) (.t 15), none, [14, 15]⟩])
   (.cond (.t 16)
     (.drop [1, 2, 16]
      (.seq
       (.region false [] [⟨some 17, .mov (.t 0), none, [0]⟩, ⟨some 6, .mov (.t 17), none, [17]⟩])
      (.close_ 6
       .ret)))
     (.drop [16]
      .skip)))
  (.seq
   (.region false [] [⟨some 18, .mov (.t 0), none, []⟩, ⟨some 19, .len false (.t 18), none, [18]⟩, ⟨some 7, .mov (.t 19), none, [19]⟩])
  (.seq
   (.draws (.tak 0 ⟨some 20, .mov (.t 0), none, []⟩ (.tak 1 ⟨some 21, .mov (.t 1), none, []⟩ (.tak 3 ⟨some 23, .mov (.t 0), none, []⟩ (.tak 4 ⟨some 24, .mov (.t 2), none, []⟩ (.alt 2 ⟨some 22, .slc false 7 (.t 20) none (some (.t 21)), none, []⟩ (.alt 5 ⟨some 25, .slo 7 (.t 23) (.t 24), none, []⟩ (.alt 6 ⟨some 26, .app 250 7 72 (.t 22) (.t 25), none, []⟩ (.tak 7 ⟨some 0, .mov (.t 26), none, []⟩ .done) .stop) .stop) (.alt 5 ⟨some 25, .slo 7 (.t 23) (.t 24), none, []⟩ (.alt 2 ⟨some 22, .slc false 7 (.t 20) none (some (.t 21)), none, []⟩ (.alt 6 ⟨some 26, .app 250 7 72 (.t 22) (.t 25), none, []⟩ (.tak 7 ⟨some 0, .mov (.t 26), none, []⟩ .done) .stop) .stop) .stop)))))) [[], [], [0, 1], [], [], [3, 4], [2, 5], [6, 6, 0, 1, 2, 3, 4, 5, 6]] [⟨some 20, .mov (.t 0), none, []⟩, ⟨some 21, .mov (.t 1), none, []⟩, ⟨some 22, .slc false 7 (.t 20) none (some (.t 21)), none, []⟩, ⟨some 23, .mov (.t 0), none, []⟩, ⟨some 24, .mov (.t 2), none, []⟩, ⟨some 25, .slo 7 (.t 23) (.t 24), none, []⟩, ⟨some 26, .app 250 7 72 (.t 22) (.t 25), none, []⟩, ⟨some 0, .mov (.t 26), none, []⟩])
  (.drop [1, 2, 20, 21, 22, 23, 24, 25, 26]
   (.seq
    (.region false [] [⟨some 27, .mov (.t 0), none, []⟩, ⟨some 28, .mov (.t 0), none, []⟩, ⟨some 29, .len false (.t 28), none, [28]⟩, ⟨some 30, .mov (.t 7), none, [7]⟩, ⟨some 31, .slc false 7 (.t 27) (some (.t 29)) (some (.t 30)), none, [27, 29, 30]⟩, ⟨none, .clr [.int .u8 0, .int .i64 0, .bool false, .bool false, .bool false, .slice none 0 0, .slice none 0 0] (.t 31), none, [31]⟩])
   (.seq
    (.region false [] [⟨some 32, .mov (.t 0), none, [0]⟩, ⟨some 6, .mov (.t 32), none, [32]⟩])
   (.close_ 6
    .ret))))))))))
def rs_168 : List ARes := [.tmp 6]
theorem g_168 : Good Tryz.prog 168 ac_168 rs_168 := ⟨Tryz.f168, Tryz.f168.body.getD .skip, by kernel_rfl, by kernel_rfl, by kernel_rfl, ⟨by kernel_rfl, by kernel_rfl⟩, by kernel_rfl, by kernel_rfl⟩
theorem ok_168 {Γ : Env} (hΓ : EnvOk Tryz.prog Γ) (sp : Spec) (h : WB Γ ac_168 rs_168 sp) : CallOk Tryz.prog 168 sp := g_168.ok hΓ mix_ok sp h

end Go.Proofs.YtajpaagbfmjacaaGreatDoor.Am
