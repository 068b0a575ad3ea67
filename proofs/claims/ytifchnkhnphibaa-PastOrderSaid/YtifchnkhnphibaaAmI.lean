/-
  THE ABSTRACT MACHINE: more rules of evaluation.
-/
import Derived.Test.YtifchnkhnphibaaAmH
namespace Go.Proofs.Ytifchnkhnphibaa.Am
set_option linter.unusedSimpArgs false
set_option linter.unusedVariables false
open Go Go.Proofs

theorem wp_sealS {Γ : Env} {N : Nat} {Q : Post} {ts : Tm} {m : List Blk} {d : Nat} {a b : ACode} {p : Tm × List Blk} (h : sealA d ts m = some p) (k : wpA Γ N (.seq a b) Q p.1 p.2) : wpA Γ N (.seq (.seal_ d a) b) Q ts m := by
  simp only [wpA] at k ⊢; rw [h]; exact k
end Go.Proofs.Ytifchnkhnphibaa.Am
