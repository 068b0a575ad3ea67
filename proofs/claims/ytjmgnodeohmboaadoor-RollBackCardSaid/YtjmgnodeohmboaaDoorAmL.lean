/-
  (AmK and AmL in one.) A REGION THAT DRAWS ITS ORDER, shown once: what comes behind it is a predicate of its own.
-/
import Derived.Test.YtjmgnodeohmboaaDoorAmJ
namespace Go.Proofs.YtjmgnodeohmboaaDoor.Am
set_option linter.unusedSimpArgs false
set_option linter.unusedVariables false
open Go Go.Proofs
variable {Γ : Env} {N : Nat} {Q : Post} {ts : Tm} {m : List Blk}
theorem into_mono {keep : List Nat} {J K : Tm → List Blk → Prop} (hk : ∀ ts m, J ts m → K ts m) (h : into N keep J ts m) : into N keep K ts m := by
  obtain ⟨ad, ids, h⟩ := h
  refine ⟨ad, ids, ?_⟩
  cases ha : adoptA ad ts m with
  | none => rw [ha] at h; exact h.elim
  | some p =>
    rw [ha] at h
    exact ⟨h.1, h.2.1, hk _ _ h.2.2⟩
theorem wp_drawsR {p : Plan} {pre : List (List Nat)} {ops : List AOper} {ks keep : List Nat} {c : ACode} (R : Tm → List Blk → Prop)
    (h : ∀ W : Tm → List Blk → Prop, (∀ ts m, into N keep R (tkill ks ts) m → W ts m) → wpA Γ N (.draws p pre ops) (AExit.thenA W Q) ts m)
    (hr : ∀ ts m, R ts m → wpA Γ N c Q ts m) : wpA Γ N (.seq (.draws p pre ops) (.drop ks (.pack keep c))) Q ts m := h _ fun _ _ hh => into_mono hr hh
theorem wp_drawsRS {p : Plan} {pre : List (List Nat)} {ops : List AOper} {ks keep : List Nat} {c d : ACode} (R : Tm → List Blk → Prop)
    (h : ∀ W : Tm → List Blk → Prop, (∀ ts m, into N keep R (tkill ks ts) m → W ts m) → wpA Γ N (.draws p pre ops) (AExit.thenA W Q) ts m)
    (hr : ∀ ts m, R ts m → wpA Γ N (.seq c d) Q ts m) : wpA Γ N (.seq (.draws p pre ops) (.seq (.drop ks (.pack keep c)) d)) Q ts m := h _ fun _ _ hh => into_mono hr hh
/-- The same, where something else goes ahead of the region. -/
theorem wp_thenDrawsR {a : ACode} {p : Plan} {pre : List (List Nat)} {ops : List AOper} {ks keep : List Nat} {c : ACode} (R : Tm → List Blk → Prop)
    (h : ∀ W : Tm → List Blk → Prop, (∀ ts m, into N keep R (tkill ks ts) m → W ts m) → wpA Γ N (.seq a (.draws p pre ops)) (AExit.thenA W Q) ts m)
    (hr : ∀ ts m, R ts m → wpA Γ N c Q ts m) : wpA Γ N (.seq a (.seq (.draws p pre ops) (.drop ks (.pack keep c)))) Q ts m := by
  have h1 := h _ fun _ _ hh => into_mono hr hh
  have e : ∀ (K W : Tm → List Blk → Prop), AExit.thenA K (AExit.thenA W Q) = AExit.thenA K Q := fun K W => by funext x; cases x <;> rfl
  have h2 : wpA Γ N a (AExit.thenA (wpA Γ N (.draws p pre ops) (AExit.thenA (fun ts m => into N keep (wpA Γ N c Q) (tkill ks ts) m) Q)) (AExit.thenA (fun ts m => into N keep (wpA Γ N c Q) (tkill ks ts) m) Q)) ts m := h1
  rw [e] at h2
  exact h2
/-- I k is the state with at most k rounds to go; R what holds when the loop is left. -/
theorem wp_loopR {keep : List Nat} {b c : ACode} {i : Nat} (R : Tm → List Blk → Prop) (I : Nat → Tm → List Blk → Prop) (n : Nat) (h0 : into N keep (I n) ts m)
    (h1 : ∀ W : Tm → List Blk → Prop, (∀ ts m, R ts m → W ts m) → ∀ n ts m, I n ts m → wpA Γ N b (AExit.thenA (fun ts' m' => ∃ k, k < n ∧ into N keep (I k) ts' m') (AExit.inBlk i (AExit.thenA W Q))) ts m)
    (hr : ∀ ts m, R ts m → wpA Γ N c Q ts m) : wpA Γ N (.loop keep b) (AExit.inBlk i (AExit.thenA (wpA Γ N c Q) Q)) ts m := ⟨I, n, h0, h1 _ hr⟩
end Go.Proofs.YtjmgnodeohmboaaDoor.Am
