/-
  WHAT THE DOCUMENT FIXES OF A SCRIPT is so.
-/
import Derived.Test.YtajpaagbfmjacaaGreatDoorZQ8
namespace Go.Proofs.YtajpaagbfmjacaaGreatDoor.Am
set_option linter.unusedSimpArgs false
set_option linter.unusedVariables false
open Go Go.Proofs
set_option maxRecDepth 1000000

theorem falive : runOk (envF Γ8) 8 [] [] (.ret (.v (.bool true)), []) = true := by kernel_rfl
def spTrue : Spec
  | [], [] => some (.ret (.v (.bool true)), [])
  | _, _ => none
attribute [simp] spTrue
theorem alive21_ok : CallOk Tryz.prog 8 spTrue := (spOf_ok (envF_ok Γ8_ok) (by kernel_rfl)).sub fun a m y h => by
  unfold spTrue at h
  split at h
  · cases h; exact runOk_some falive
  · cases h
end Go.Proofs.YtajpaagbfmjacaaGreatDoor.Am
