/-
  THE CLOSURE THAT DECODE DEFERS: behind a panic it recovers, and lays no fields and the error of the form.
-/
import Derived.Test.YtifchnkhnphibaaProg
import Derived.Test.YtifchnkhnphibaaAmF
import Derived.Tactics
import Derived.Tactics2
import Derived.Laws.Pointers
namespace Go.Proofs.Ytifchnkhnphibaa.Am
set_option linter.unusedSimpArgs false
set_option linter.unusedVariables false
open Go Go.Proofs

/-- What is laid. -/
def effForm : AV → Option (Value × Value)
  | .ifc _ _ => some (.slice none 0 0, .int .i64 4)
  | _ => none

theorem cell_of {w : World} {b : Nat} {z : Value} {t : TypeId} (h : w.heap[b]? = some (.cells #[z] t (0, 0))) : w.cell? ⟨b, 0, none⟩ = some z ∧ w.frozen? ⟨b, 0, none⟩ = false := by
  simp [World.cell?, World.frozen?, h]

theorem catch_form : Catches Try.prog 36 effForm := by
  have hn : Try.f36.ntmps = 6 := rfl
  have hr : Try.f36.results = #[] := rfl
  constructor
  · intro b1 b2 w
    refine callsD_of_wpS (fn := Try.f36) (by kernel_rfl) rfl fun c₀ cs hu => ?_
    have hc₀ : ({ c₀ with mode := .returning } : Frame) = c₀ := by rw [← hu]
    apply wpS_seq
    apply wpS_region
    simp [wpOpsS, go_sem, recoverD, hu, Exit.thenS, hn]
    apply wpS_seq
    apply wpS_region
    simp [wpOpsS, go_sem, Exit.thenS, cellP, Array.replicate]
    refine wpS_cond (t := false) (by simp [Act.eval]) ?_
    simp only [Bool.false_eq_true, if_false]
    refine wpS_of_wp (wp_skip ?_)
    simp [bodyPostS, results, hr, hc₀]
  · intro b1 b2 w F B v x y1 y2 z1 z2 t1 t2 hv he hne h1 h2
    unfold effForm at he
    split at he
    · rename_i t a
      cases he
      cases hv with
      | @ifc _ _ _ x hx =>
      refine callsD_of_wpS (fn := Try.f36) (by kernel_rfl) rfl fun c₀ cs hu => ?_
      apply wpS_seq
      apply wpS_region
      simp [wpOpsS, go_sem, recoverD, hu, Exit.thenS, hn]
      apply wpS_seq
      apply wpS_region
      simp [wpOpsS, go_sem, Exit.thenS, cellP, Array.replicate]
      refine wpS_cond (t := true) (by simp [Act.eval]) ?_
      simp only [if_true]
      obtain ⟨c1, f1⟩ := cell_of h1
      obtain ⟨c2, f2⟩ := cell_of (w := w.setCell ⟨b1, 0, none⟩ (.slice none 0 0)) (by rw [setCell_other _ _ _ _ (Ne.symm hne)]; exact h2)
      apply wpS_region
      simp [wpOpsS, go_sem, c1, f1, c2, f2, bodyPostS, results, hr]
    · cases he
end Go.Proofs.Ytifchnkhnphibaa.Am
