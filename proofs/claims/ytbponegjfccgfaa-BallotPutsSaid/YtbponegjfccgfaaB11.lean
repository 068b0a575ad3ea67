/-
  WHAT ANY CAST DOES TO ANY BOX: THE SAME ON BOTH SIDES.
-/
import Derived.Test.YtbponegjfccgfaaB10
namespace Go.Proofs.Ytbponegjfccgfaa.Am
set_option linter.unusedSimpArgs false
set_option linter.unusedVariables false
open Go Go.Proofs
attribute [local irreducible] wpA
attribute [-simp] splice

theorem putC_mem {v : Int} {m : Nat} {l : List Ct} {c y : Ct} (h : y ∈ (putC v m l c).1) : y = c ∨ y ∈ l := by
  unfold putC at h
  split at h
  · exact .inr h
  · split at h
    · exact .inr h
    · split at h
      · exact .inr h
      · split at h
        · exact .inr h
        · exact mem_insK.1 h
theorem putC_len (v : Int) (m : Nat) (l : List Ct) (c : Ct) : (putC v m l c).1.length ≤ l.length + 1 := by
  unfold putC
  split
  · simp
  · split
    · simp
    · split
      · simp
      · split
        · simp
        · rw [insK_length]; exact Nat.le_refl _
noncomputable def spBallotPuts : Spec := spc (X := Int × Nat × List Ct × Ct) (fun p => ([avBox p.1 p.2.1 p.2.2.1, avCt p.2.2.2], []))
  (fun p => p.2.1 < 65536 ∧ (∀ y ∈ p.2.2.1, okCt y) ∧ okCt p.2.2.2) (fun _ => (.ret (.v (.bool true)), []))

set_option maxHeartbeats 16000000 in
theorem ballotPuts_ok : CallOk Try.prog 8 spBallotPuts := by
  refine ok_8 (Env.put_ok [] (Env.put_ok [] (Env.put_ok [] (Env.put_ok [] (Env.put_ok [] (Env.put_ok [] (Env.put_ok [] (Env.put_ok [] (Env.put_ok [] (Env.put_ok [] (Env.put_ok [] (Env.none_ok _) alive12_ok) theirsC_ok) oursC_ok) theirs1_ok) putC_ok) putCR_ok) chosen_ok) chosenR_ok) sameC_ok) forC_ok) forCR_ok) spBallotPuts (wb_spc ?_)
  rintro ⟨v, m, l, ⟨w, a, d⟩⟩ ⟨hm, hok, hc⟩
  simp only [avBox, avCt, cCt] at hm hok hc ⊢
  have hml : (m : Int) < 65536 := by omega
  unfold ac_8
  by_cases h60 : 60 < l.length
  · have c1 : decide ((60 : Int) < (l.length : Int)) = true := by rw [decide_eq_true_eq]; omega
    have c1n : decide (60 < l.length) = true := by simp [h60]
    repeat' first
        | with_reducible refine wp_regionS (seg_eval (by simp -dsimp -implicitDefEqProofs [spAliveB, c1, c1n]; rfl) ?_)
        | with_reducible refine wp_region (seg_eval (by simp -dsimp -implicitDefEqProofs [spAliveB, c1, c1n]; rfl) ?_)
        | with_reducible refine wp_drawsS (seg_eval (by simp -dsimp -implicitDefEqProofs [spAliveB, c1, c1n]; rfl) ?_)
        | with_reducible refine wp_draws (seg_eval (by simp -dsimp -implicitDefEqProofs [spAliveB, c1, c1n]; rfl) ?_)
        | with_reducible refine seg_fin ?_
        | with_reducible refine seg_pan ?_
        | with_reducible refine seg_both ?_ ?_
        | with_reducible refine seg_case (fun x h => ?_) (fun h => ?_)
        | with_reducible refine seg_gate (fun h => ?_) (fun h => ?_)
        | with_reducible refine seg_need ?_ ?_
        | with_reducible refine wp_assoc ?_ | with_reducible refine wp_skipS ?_ | with_reducible refine wp_retS ?_ | with_reducible refine wp_exitS ?_ | with_reducible refine wp_dropS (wp_eqT (by simp -dsimp -implicitDefEqProofs [spAliveB, c1, c1n]; rfl) ?_) | with_reducible refine wp_sealS (by simp -dsimp -implicitDefEqProofs [spAliveB, c1, c1n]; rfl) ?_ | with_reducible refine wp_seal (by simp -dsimp -implicitDefEqProofs [spAliveB, c1, c1n]; rfl) ?_ | with_reducible refine wp_closeS (by simp -dsimp -implicitDefEqProofs [spAliveB, c1, c1n]; rfl) ?_ | with_reducible refine wp_close (by simp -dsimp -implicitDefEqProofs [spAliveB, c1, c1n]; rfl) ?_ | with_reducible refine wp_conc_out ?_ | with_reducible refine wp_open_out ?_ | with_reducible refine wp_pack_out ?_ | with_reducible refine wp_blockS ?_ | with_reducible refine wp_skip' ?_ | with_reducible refine wp_ret' ?_ | with_reducible refine wp_exit' ?_ | with_reducible refine wp_drop (wp_eqT (by simp -dsimp -implicitDefEqProofs [spAliveB, c1, c1n]; rfl) ?_) | with_reducible refine wp_block' ?_
        | with_reducible refine wp_condVS (by simp -dsimp -implicitDefEqProofs [spAliveB, c1, c1n]; rfl) ?_
        | with_reducible refine wp_condV (by simp -dsimp -implicitDefEqProofs [spAliveB, c1, c1n]; rfl) ?_
        | with_reducible refine cond_t ?_ | with_reducible refine cond_f ?_ | with_reducible refine cond_v (fun h => ?_) (fun h => ?_)
        | with_reducible refine post_then ?_ | with_reducible refine post_thenE ?_ | with_reducible refine post_thenP ?_ | with_reducible refine post_blkP ?_ | with_reducible refine post_thenR ?_ | with_reducible refine post_blkN ?_ | with_reducible refine post_blkE ?_ | with_reducible refine post_blkF rfl ?_ | with_reducible refine post_blkR ?_
        | with_reducible refine seg_eval (by simp -dsimp -implicitDefEqProofs [spAliveB, c1, c1n]; rfl) ?_
    all_goals first
      | exact post_fin rfl rfl ⟨[], [], rfl, rfl, rfl, rfl⟩
      | trace_state
  · have c1 : decide ((60 : Int) < (l.length : Int)) = false := by rw [decide_eq_false_iff_not]; omega
    have c1n : decide (60 < l.length) = false := by simp; omega
    have hP := putCAt v m l w a d
    rw [if_pos ⟨hm, by omega, hok, hc⟩] at hP
    have hC := convCAt v m l
    rw [if_pos (by omega)] at hC
    have hpl := putC_len v m l ⟨w, a, d⟩
    have hC2 := convCAt v m (putC v m l ⟨w, a, d⟩).1
    rw [if_pos (by omega)] at hC2
    have hS := sameCAt v m (putC v m l ⟨w, a, d⟩).1 v m (putC v m l ⟨w, a, d⟩).1
    rw [if_pos ⟨by omega, by omega⟩, sameC_iff.2 ⟨rfl, rfl, rfl⟩] at hS
    have hF := forCAt v m l a d
    rw [if_pos ⟨hm, by omega, hok⟩] at hF
    have hH := chosenAt v m l
    rw [if_pos ⟨hm, by omega, hok⟩] at hH
    generalize putC v m l ⟨w, a, d⟩ = p at *
    obtain ⟨l', e⟩ := p
    generalize forC v m l a d = f at *
    generalize chosenC v m l = ch at *
    obtain ⟨⟨ca, ci⟩, cb⟩ := ch
    simp only at hP hC2 hS hF hH
    repeat' first
        | with_reducible refine wp_regionS (seg_eval (by simp -dsimp -implicitDefEqProofs [spAliveB, spCt1, c1, c1n, hP, hC, hC2, hS, hF, hH, eqCells_bi]; rfl) ?_)
        | with_reducible refine wp_region (seg_eval (by simp -dsimp -implicitDefEqProofs [spAliveB, spCt1, c1, c1n, hP, hC, hC2, hS, hF, hH, eqCells_bi]; rfl) ?_)
        | with_reducible refine wp_drawsS (seg_eval (by simp -dsimp -implicitDefEqProofs [spAliveB, spCt1, c1, c1n, hP, hC, hC2, hS, hF, hH, eqCells_bi]; rfl) ?_)
        | with_reducible refine wp_draws (seg_eval (by simp -dsimp -implicitDefEqProofs [spAliveB, spCt1, c1, c1n, hP, hC, hC2, hS, hF, hH, eqCells_bi]; rfl) ?_)
        | with_reducible refine seg_fin ?_
        | with_reducible refine seg_pan ?_
        | with_reducible refine seg_both ?_ ?_
        | with_reducible refine seg_case (fun x h => ?_) (fun h => ?_)
        | with_reducible refine seg_gate (fun h => ?_) (fun h => ?_)
        | with_reducible refine seg_need ?_ ?_
        | with_reducible refine wp_assoc ?_ | with_reducible refine wp_skipS ?_ | with_reducible refine wp_retS ?_ | with_reducible refine wp_exitS ?_ | with_reducible refine wp_dropS (wp_eqT (by simp -dsimp -implicitDefEqProofs [spAliveB, spCt1, c1, c1n, hP, hC, hC2, hS, hF, hH, eqCells_bi]; rfl) ?_) | with_reducible refine wp_sealS (by simp -dsimp -implicitDefEqProofs [spAliveB, spCt1, c1, c1n, hP, hC, hC2, hS, hF, hH, eqCells_bi]; rfl) ?_ | with_reducible refine wp_seal (by simp -dsimp -implicitDefEqProofs [spAliveB, spCt1, c1, c1n, hP, hC, hC2, hS, hF, hH, eqCells_bi]; rfl) ?_ | with_reducible refine wp_closeS (by simp -dsimp -implicitDefEqProofs [spAliveB, spCt1, c1, c1n, hP, hC, hC2, hS, hF, hH, eqCells_bi]; rfl) ?_ | with_reducible refine wp_close (by simp -dsimp -implicitDefEqProofs [spAliveB, spCt1, c1, c1n, hP, hC, hC2, hS, hF, hH, eqCells_bi]; rfl) ?_ | with_reducible refine wp_conc_out ?_ | with_reducible refine wp_open_out ?_ | with_reducible refine wp_pack_out ?_ | with_reducible refine wp_blockS ?_ | with_reducible refine wp_skip' ?_ | with_reducible refine wp_ret' ?_ | with_reducible refine wp_exit' ?_ | with_reducible refine wp_drop (wp_eqT (by simp -dsimp -implicitDefEqProofs [spAliveB, spCt1, c1, c1n, hP, hC, hC2, hS, hF, hH, eqCells_bi]; rfl) ?_) | with_reducible refine wp_block' ?_
        | with_reducible refine wp_condVS (by simp -dsimp -implicitDefEqProofs [spAliveB, spCt1, c1, c1n, hP, hC, hC2, hS, hF, hH, eqCells_bi]; rfl) ?_
        | with_reducible refine wp_condV (by simp -dsimp -implicitDefEqProofs [spAliveB, spCt1, c1, c1n, hP, hC, hC2, hS, hF, hH, eqCells_bi]; rfl) ?_
        | with_reducible refine cond_t ?_ | with_reducible refine cond_f ?_ | with_reducible refine cond_v (fun h => ?_) (fun h => ?_)
        | with_reducible refine post_then ?_ | with_reducible refine post_thenE ?_ | with_reducible refine post_thenP ?_ | with_reducible refine post_blkP ?_ | with_reducible refine post_thenR ?_ | with_reducible refine post_blkN ?_ | with_reducible refine post_blkE ?_ | with_reducible refine post_blkF rfl ?_ | with_reducible refine post_blkR ?_
        | with_reducible refine seg_eval (by simp -dsimp -implicitDefEqProofs [spAliveB, spCt1, c1, c1n, hP, hC, hC2, hS, hF, hH, eqCells_bi]; rfl) ?_
    all_goals first
      | exact post_fin rfl rfl ⟨[], [], rfl, rfl, rfl, rfl⟩
      | trace_state
end Go.Proofs.Ytbponegjfccgfaa.Am
