/-
  A LOOP WHOSE WAY ON IS SHOWN ONCE: what comes behind it is a predicate of its own.
-/
import Derived.Test.YtjmgnodeohmboaaDoorAmJ
namespace Go.Proofs.YtjmgnodeohmboaaDoor.Am
set_option linter.unusedSimpArgs false
set_option linter.unusedVariables false
open Go Go.Proofs
variable {Γ : Env} {N : Nat} {Q : Post} {ts : Tm} {m : List Blk}
/-- I k is the state with at most k rounds to go; R what holds when the loop is left. -/
theorem wp_loopR {keep : List Nat} {b c : ACode} {i : Nat} (R : Tm → List Blk → Prop) (I : Nat → Tm → List Blk → Prop) (n : Nat) (h0 : into N keep (I n) ts m)
    (h1 : ∀ W : Tm → List Blk → Prop, (∀ ts m, R ts m → W ts m) → ∀ n ts m, I n ts m → wpA Γ N b (AExit.thenA (fun ts' m' => ∃ k, k < n ∧ into N keep (I k) ts' m') (AExit.inBlk i (AExit.thenA W Q))) ts m)
    (hr : ∀ ts m, R ts m → wpA Γ N c Q ts m) : wpA Γ N (.loop keep b) (AExit.inBlk i (AExit.thenA (wpA Γ N c Q) Q)) ts m := ⟨I, n, h0, h1 _ hr⟩
end Go.Proofs.YtjmgnodeohmboaaDoor.Am
