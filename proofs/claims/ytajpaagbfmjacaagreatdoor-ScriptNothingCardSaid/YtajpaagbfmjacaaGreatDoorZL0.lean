/-
  What every row of this seat asks of the program.
-/
import Derived.Test.YtajpaagbfmjacaaGreatDoorZQ4
import Derived.Test.YtajpaagbfmjacaaGreatDoorRows
namespace Go.Proofs.YtajpaagbfmjacaaGreatDoor.Am
set_option linter.unusedSimpArgs false
set_option linter.unusedVariables false
open Go Go.Proofs Go.ChangeShapes Go.WideShapes Go.ChangeAt Go.RowKit

theorem own : ownKnob Tryz.prog.godebug = none := by kernel_rfl
theorem laidOut : laidOutB Tryz.prog = true := by kernel_rfl
theorem word_wf {x : Int} (h : (Lit.int .u64 x).wf = true) : 0 ≤ x ∧ x < 18446744073709551616 := by
  simp [Lit.wf, IntKind.min, IntKind.max, IntKind.signed, IntKind.bits] at h
  exact ⟨by omega, by omega⟩
theorem u16_wf {x : Int} (h : (Lit.int .u16 x).wf = true) : 0 ≤ x ∧ x < 65536 := wf_u16 h
theorem u8_wf {x : Int} (h : (Lit.int .u8 x).wf = true) : 0 ≤ x ∧ x < 256 := wf_u8 h

section
variable {H : Type} {enc : TypeId × Value → H}
theorem rd_3 : Rd enc Tryz.prog 3 1 (fun zs => ∃ n, zs = [.v (.int .i64 n)] ∧ (Lit.int .i64 n).wf = true) := rd_int Tryz.underlying3 (by kernel_rfl)
theorem rd_5 : Rd enc Tryz.prog 5 1 (fun zs => ∃ n, zs = [.v (.int .u8 n)] ∧ (Lit.int .u8 n).wf = true) := rd_int Tryz.underlying5 (by kernel_rfl)
theorem rd_9 : Rd enc Tryz.prog 9 1 (fun zs => ∃ s, zs = [.v (.string s)]) := rd_string Tryz.underlying9 (by kernel_rfl)
end
end Go.Proofs.YtajpaagbfmjacaaGreatDoor.Am
