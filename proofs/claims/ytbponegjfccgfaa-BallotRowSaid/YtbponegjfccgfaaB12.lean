/-
  CASTS IN A ROW: THE SAME ON BOTH SIDES.
-/
import Derived.Test.YtbponegjfccgfaaB11
import Derived.Test.YtbponegjfccgfaaCodeR
namespace Go.Proofs.Ytbponegjfccgfaa.Am
set_option linter.unusedSimpArgs false
set_option linter.unusedVariables false
open Go Go.Proofs
attribute [local irreducible] wpA
attribute [-simp] splice

noncomputable def spBallotRow : Spec := spc (X := Int × Nat × List Ct) (fun p => ([.agg [.v (.int .i64 p.1), .v (.int .u16 (p.2.1 : Nat))], .fsl 3 (p.2.2.map avCt)], []))
  (fun p => p.2.1 < 65536 ∧ (∀ y ∈ p.2.2, okCt y) ∧ p.2.2.length ≤ maxLen) (fun _ => (.ret (.v (.bool true)), []))

set_option maxHeartbeats 40000000 in
theorem ballotRow_ok : CallOk Try.prog 9 spBallotRow := by
  refine okp_9 (Env.put_ok [] (Env.put_ok [] (Env.put_ok [] (Env.put_ok [] (Env.put_ok [] (Env.put_ok [] (Env.put_ok [] (Env.put_ok [] (Env.none_ok _) alive12_ok) (CallOk.fixD [.agg [.no, .no, .k 3]] oursC_ok)) theirs1_ok) (CallOk.fixD [.agg [.no, .no, .k 3]] putC_ok)) (CallOk.fixD [.agg [.no, .no, .k 3]] putCR_ok)) chosen_ok) chosenR_ok) sameC_ok) spBallotRow (wb_spc ?_)
  rintro ⟨v, m, ms⟩ ⟨hm, hms, hmx⟩
  simp only at hm hms hmx ⊢
  have hml : (m : Int) < 65536 := by omega
  have hxl : ms.length ≤ 9223372036854775807 := by have := hmx; unfold maxLen at this; omega
  unfold acp_9
  repeat' first
      | with_reducible refine wp_regionS (seg_eval (by simp -dsimp -implicitDefEqProofs [spAliveB]; rfl) ?_)
      | with_reducible refine wp_region (seg_eval (by simp -dsimp -implicitDefEqProofs [spAliveB]; rfl) ?_)
      | with_reducible refine wp_drawsS (seg_eval (by simp -dsimp -implicitDefEqProofs [spAliveB]; rfl) ?_)
      | with_reducible refine wp_draws (seg_eval (by simp -dsimp -implicitDefEqProofs [spAliveB]; rfl) ?_)
      | with_reducible refine seg_fin ?_
      | with_reducible refine seg_pan ?_
      | with_reducible refine seg_both ?_ ?_
      | with_reducible refine seg_case (fun x h => ?_) (fun h => ?_)
      | with_reducible refine seg_gate (fun h => ?_) (fun h => ?_)
      | with_reducible refine seg_need ?_ ?_
      | with_reducible refine wp_assoc ?_ | with_reducible refine wp_skipS ?_ | with_reducible refine wp_retS ?_ | with_reducible refine wp_exitS ?_ | with_reducible refine wp_dropS (wp_eqT (by simp -dsimp -implicitDefEqProofs [spAliveB]; rfl) ?_) | with_reducible refine wp_sealS (by simp -dsimp -implicitDefEqProofs [spAliveB]; rfl) ?_ | with_reducible refine wp_seal (by simp -dsimp -implicitDefEqProofs [spAliveB]; rfl) ?_ | with_reducible refine wp_closeS (by simp -dsimp -implicitDefEqProofs [spAliveB]; rfl) ?_ | with_reducible refine wp_close (by simp -dsimp -implicitDefEqProofs [spAliveB]; rfl) ?_ | with_reducible refine wp_conc_out ?_ | with_reducible refine wp_open_out ?_ | with_reducible refine wp_pack_out ?_ | with_reducible refine wp_blockS ?_ | with_reducible refine wp_skip' ?_ | with_reducible refine wp_ret' ?_ | with_reducible refine wp_exit' ?_ | with_reducible refine wp_drop (wp_eqT (by simp -dsimp -implicitDefEqProofs [spAliveB]; rfl) ?_) | with_reducible refine wp_block' ?_
      | with_reducible refine wp_condVS (by simp -dsimp -implicitDefEqProofs [spAliveB]; rfl) ?_
      | with_reducible refine wp_condV (by simp -dsimp -implicitDefEqProofs [spAliveB]; rfl) ?_
      | with_reducible refine cond_t ?_ | with_reducible refine cond_f ?_ | with_reducible refine cond_v (fun h => ?_) (fun h => ?_)
      | with_reducible refine post_then ?_ | with_reducible refine post_thenE ?_ | with_reducible refine post_thenP ?_ | with_reducible refine post_blkP ?_ | with_reducible refine post_thenR ?_ | with_reducible refine post_blkN ?_ | with_reducible refine post_blkE ?_ | with_reducible refine post_blkF rfl ?_ | with_reducible refine post_blkR ?_
      | with_reducible refine seg_eval (by simp -dsimp -implicitDefEqProofs [spAliveB]; rfl) ?_
  refine wp_loop' (fun j ts mm => ∃ (i : Nat) (l : List Ct), i + j = ms.length ∧ l.length ≤ i ∧ i ≤ 60 ∧ (∀ y ∈ l, okCt y) ∧
    ts = [(1, .fsl 3 (ms.map avCt)), (5, .ptr 0 0 0), (6, .ptr 1 0 0), (7, .v (.int .i64 i))] ∧
    ((l = [] ∧ mm = [.var [.v (.int .i64 v), .v (.int .u16 (m : Nat)), .v (.slice none 0 0)], .var [.v (.int .i64 v), .v (.int .u16 (m : Nat)), .v (.slice none 0 0)]]) ∨
     mm = [.var [.v (.int .i64 v), .v (.int .u16 (m : Nat)), .fsl 3 (l.map avCt)], .var [.v (.int .i64 v), .v (.int .u16 (m : Nat)), .fsl 3 (l.map avCt)]])) ms.length ?_ ?_
  · exact ⟨[], [1, 2], rfl, rfl, 0, [], by omega, by simp, by omega, by simp, by simp, .inl ⟨rfl, by simp⟩⟩
  · rintro j ts mm ⟨i, l, hi, hll, hi60, hok, rfl, hmm⟩
    by_cases hlt : i < ms.length
    · have hd : decide ((i : Int) < (ms.length : Int)) = true := by rw [decide_eq_true_eq]; omega
      have hd2 : decide (i < ms.length) = true := by simp [hlt]
      by_cases h60 : i < 60
      · have hd4 : decide ((i : Int) < 60) = true := by rw [decide_eq_true_eq]; omega
        have hd5 : decide (i < 60) = true := by simp [h60]
        obtain ⟨x, hx⟩ : ∃ x, ms[i]? = some x := ⟨_, List.getElem?_eq_getElem (by omega)⟩
        have hc := hms x (List.mem_of_getElem? hx)
        have h64 : IntKind.wrap .i64 ((i : Int) + 1) = ((i + 1 : Nat) : Int) := by rw [IntWalk.i64_in _ (by omega)]; rfl
        obtain ⟨w, a, d⟩ := x
        have hP := putCAt v m l w a d
        rw [if_pos ⟨hm, by omega, hok, hc⟩] at hP
        have hpm : ∀ y ∈ (putC v m l ⟨w, a, d⟩).1, okCt y := fun y hy => by
          rcases putC_mem hy with rfl | hy
          · exact hc
          · exact hok y hy
        have hpl := putC_len v m l ⟨w, a, d⟩
        have hC2 := convCAt v m (putC v m l ⟨w, a, d⟩).1
        rw [if_pos (by omega)] at hC2
        have hS := sameCAt v m (putC v m l ⟨w, a, d⟩).1 v m (putC v m l ⟨w, a, d⟩).1
        rw [if_pos ⟨by omega, by omega⟩, sameC_iff.2 ⟨rfl, rfl, rfl⟩] at hS
        have hH := chosenAt v m (putC v m l ⟨w, a, d⟩).1
        rw [if_pos ⟨hm, by omega, hpm⟩] at hH
        generalize putC v m l ⟨w, a, d⟩ = p at *
        obtain ⟨l', e⟩ := p
        simp only at hP hC2 hS hH hpm hpl
        generalize chosenC v m l' = ch at *
        obtain ⟨⟨ca, ci⟩, cb⟩ := ch
        simp only at hH
        rcases hmm with ⟨hl0, rfl⟩ | rfl
        · rw [hl0] at hP
          simp only [List.map_nil] at hP
          repeat' first
              | with_reducible refine wp_regionS (seg_eval (by simp -dsimp -implicitDefEqProofs [avCt, cCt, spCt1, hd, hd2, hd4, hd5, h64, hx, hP, hC2, hS, hH, eqCells_bi]; rfl) ?_)
              | with_reducible refine wp_region (seg_eval (by simp -dsimp -implicitDefEqProofs [avCt, cCt, spCt1, hd, hd2, hd4, hd5, h64, hx, hP, hC2, hS, hH, eqCells_bi]; rfl) ?_)
              | with_reducible refine seg_fin ?_
              | with_reducible refine seg_pan ?_
              | with_reducible refine seg_both ?_ ?_
              | with_reducible refine seg_case (fun x h => ?_) (fun h => ?_)
              | with_reducible refine seg_gate (fun h => ?_) (fun h => ?_)
              | with_reducible refine seg_need ?_ ?_
              | with_reducible refine wp_assoc ?_ | with_reducible refine wp_skipS ?_ | with_reducible refine wp_retS ?_ | with_reducible refine wp_exitS ?_ | with_reducible refine wp_dropS (wp_eqT (by simp -dsimp -implicitDefEqProofs [avCt, cCt, spCt1, hd, hd2, hd4, hd5, h64, hx, hP, hC2, hS, hH, eqCells_bi]; rfl) ?_) | with_reducible refine wp_sealS (by simp -dsimp -implicitDefEqProofs [avCt, cCt, spCt1, hd, hd2, hd4, hd5, h64, hx, hP, hC2, hS, hH, eqCells_bi]; rfl) ?_ | with_reducible refine wp_seal (by simp -dsimp -implicitDefEqProofs [avCt, cCt, spCt1, hd, hd2, hd4, hd5, h64, hx, hP, hC2, hS, hH, eqCells_bi]; rfl) ?_ | with_reducible refine wp_closeS (by simp -dsimp -implicitDefEqProofs [avCt, cCt, spCt1, hd, hd2, hd4, hd5, h64, hx, hP, hC2, hS, hH, eqCells_bi]; rfl) ?_ | with_reducible refine wp_close (by simp -dsimp -implicitDefEqProofs [avCt, cCt, spCt1, hd, hd2, hd4, hd5, h64, hx, hP, hC2, hS, hH, eqCells_bi]; rfl) ?_ | with_reducible refine wp_conc_out ?_ | with_reducible refine wp_open_out ?_ | with_reducible refine wp_pack_out ?_ | with_reducible refine wp_blockS ?_ | with_reducible refine wp_skip' ?_ | with_reducible refine wp_ret' ?_ | with_reducible refine wp_exit' ?_ | with_reducible refine wp_drop (wp_eqT (by simp -dsimp -implicitDefEqProofs [avCt, cCt, spCt1, hd, hd2, hd4, hd5, h64, hx, hP, hC2, hS, hH, eqCells_bi]; rfl) ?_) | with_reducible refine wp_block' ?_
              | with_reducible refine wp_condVS (by simp -dsimp -implicitDefEqProofs [avCt, cCt, spCt1, hd, hd2, hd4, hd5, h64, hx, hP, hC2, hS, hH, eqCells_bi]; rfl) ?_
              | with_reducible refine wp_condV (by simp -dsimp -implicitDefEqProofs [avCt, cCt, spCt1, hd, hd2, hd4, hd5, h64, hx, hP, hC2, hS, hH, eqCells_bi]; rfl) ?_
              | with_reducible refine cond_t ?_ | with_reducible refine cond_f ?_ | with_reducible refine cond_v (fun h => ?_) (fun h => ?_)
              | with_reducible refine post_then ?_ | with_reducible refine post_thenE ?_ | with_reducible refine post_thenP ?_ | with_reducible refine post_blkP ?_ | with_reducible refine post_thenR ?_ | with_reducible refine post_blkN ?_ | with_reducible refine post_blkE ?_ | with_reducible refine post_blkF rfl ?_ | with_reducible refine post_blkR ?_
              | with_reducible refine seg_eval (by simp -dsimp -implicitDefEqProofs [avCt, cCt, spCt1, hd, hd2, hd4, hd5, h64, hx, hP, hC2, hS, hH, eqCells_bi]; rfl) ?_
          refine wp_drawsR (fun ts mm => ts = [(1, .fsl 3 (ms.map avCt)), (5, .ptr 0 0 0), (6, .ptr 1 0 0), (7, .v (.int .i64 i)), (8, .ptr 2 0 0), (9, .v (.int .i64 e))] ∧ mm = [.var [.v (.int .i64 v), .v (.int .u16 (m : Nat)), .v (.slice none 0 0)], .var [.v (.int .i64 v), .v (.int .u16 (m : Nat)), .v (.slice none 0 0)], .var [.v (.int .i64 v), .v (.int .u16 (m : Nat)), .fsl 3 (l'.map avCt)]]) ?_ ?_
          · intro W hW
            repeat' first
                | with_reducible refine wp_regionS (seg_eval (by simp -dsimp -implicitDefEqProofs [avCt, cCt, spCt1, hd, hd2, hd4, hd5, h64, hx, hP, hC2, hS, hH, eqCells_bi]; rfl) ?_)
                | with_reducible refine wp_region (seg_eval (by simp -dsimp -implicitDefEqProofs [avCt, cCt, spCt1, hd, hd2, hd4, hd5, h64, hx, hP, hC2, hS, hH, eqCells_bi]; rfl) ?_)
                | with_reducible refine wp_drawsS (seg_eval (by simp -dsimp -implicitDefEqProofs [avCt, cCt, spCt1, hd, hd2, hd4, hd5, h64, hx, hP, hC2, hS, hH, eqCells_bi]; rfl) ?_)
                | with_reducible refine wp_draws (seg_eval (by simp -dsimp -implicitDefEqProofs [avCt, cCt, spCt1, hd, hd2, hd4, hd5, h64, hx, hP, hC2, hS, hH, eqCells_bi]; rfl) ?_)
                | with_reducible refine seg_fin ?_
                | with_reducible refine seg_pan ?_
                | with_reducible refine seg_both ?_ ?_
                | with_reducible refine seg_case (fun x h => ?_) (fun h => ?_)
                | with_reducible refine seg_gate (fun h => ?_) (fun h => ?_)
                | with_reducible refine seg_need ?_ ?_
                | with_reducible refine wp_assoc ?_ | with_reducible refine wp_skipS ?_ | with_reducible refine wp_retS ?_ | with_reducible refine wp_exitS ?_ | with_reducible refine wp_dropS (wp_eqT (by simp -dsimp -implicitDefEqProofs [avCt, cCt, spCt1, hd, hd2, hd4, hd5, h64, hx, hP, hC2, hS, hH, eqCells_bi]; rfl) ?_) | with_reducible refine wp_sealS (by simp -dsimp -implicitDefEqProofs [avCt, cCt, spCt1, hd, hd2, hd4, hd5, h64, hx, hP, hC2, hS, hH, eqCells_bi]; rfl) ?_ | with_reducible refine wp_seal (by simp -dsimp -implicitDefEqProofs [avCt, cCt, spCt1, hd, hd2, hd4, hd5, h64, hx, hP, hC2, hS, hH, eqCells_bi]; rfl) ?_ | with_reducible refine wp_closeS (by simp -dsimp -implicitDefEqProofs [avCt, cCt, spCt1, hd, hd2, hd4, hd5, h64, hx, hP, hC2, hS, hH, eqCells_bi]; rfl) ?_ | with_reducible refine wp_close (by simp -dsimp -implicitDefEqProofs [avCt, cCt, spCt1, hd, hd2, hd4, hd5, h64, hx, hP, hC2, hS, hH, eqCells_bi]; rfl) ?_ | with_reducible refine wp_conc_out ?_ | with_reducible refine wp_open_out ?_ | with_reducible refine wp_pack_out ?_ | with_reducible refine wp_blockS ?_ | with_reducible refine wp_skip' ?_ | with_reducible refine wp_ret' ?_ | with_reducible refine wp_exit' ?_ | with_reducible refine wp_drop (wp_eqT (by simp -dsimp -implicitDefEqProofs [avCt, cCt, spCt1, hd, hd2, hd4, hd5, h64, hx, hP, hC2, hS, hH, eqCells_bi]; rfl) ?_) | with_reducible refine wp_block' ?_
                | with_reducible refine wp_condVS (by simp -dsimp -implicitDefEqProofs [avCt, cCt, spCt1, hd, hd2, hd4, hd5, h64, hx, hP, hC2, hS, hH, eqCells_bi]; rfl) ?_
                | with_reducible refine wp_condV (by simp -dsimp -implicitDefEqProofs [avCt, cCt, spCt1, hd, hd2, hd4, hd5, h64, hx, hP, hC2, hS, hH, eqCells_bi]; rfl) ?_
                | with_reducible refine cond_t ?_ | with_reducible refine cond_f ?_ | with_reducible refine cond_v (fun h => ?_) (fun h => ?_)
                | with_reducible refine post_then ?_ | with_reducible refine post_thenE ?_ | with_reducible refine post_thenP ?_ | with_reducible refine post_blkP ?_ | with_reducible refine post_thenR ?_ | with_reducible refine post_blkN ?_ | with_reducible refine post_blkE ?_ | with_reducible refine post_blkF rfl ?_ | with_reducible refine post_blkR ?_
                | with_reducible refine seg_eval (by simp -dsimp -implicitDefEqProofs [avCt, cCt, spCt1, hd, hd2, hd4, hd5, h64, hx, hP, hC2, hS, hH, eqCells_bi]; rfl) ?_
            all_goals first
              | omega
              | exact hW _ _ ⟨[], [0, 1, 2], rfl, rfl, by simp [avCt, cCt], by simp⟩
              | trace_state
          rintro ts mm ⟨rfl, rfl⟩
          repeat' first
              | with_reducible refine wp_regionS (seg_eval (by simp -dsimp -implicitDefEqProofs [avCt, cCt, spCt1, hd, hd2, hd4, hd5, h64, hx, hP, hC2, hS, hH, eqCells_bi]; rfl) ?_)
              | with_reducible refine wp_region (seg_eval (by simp -dsimp -implicitDefEqProofs [avCt, cCt, spCt1, hd, hd2, hd4, hd5, h64, hx, hP, hC2, hS, hH, eqCells_bi]; rfl) ?_)
              | with_reducible refine seg_fin ?_
              | with_reducible refine seg_pan ?_
              | with_reducible refine seg_both ?_ ?_
              | with_reducible refine seg_case (fun x h => ?_) (fun h => ?_)
              | with_reducible refine seg_gate (fun h => ?_) (fun h => ?_)
              | with_reducible refine seg_need ?_ ?_
              | with_reducible refine wp_assoc ?_ | with_reducible refine wp_skipS ?_ | with_reducible refine wp_retS ?_ | with_reducible refine wp_exitS ?_ | with_reducible refine wp_dropS (wp_eqT (by simp -dsimp -implicitDefEqProofs [avCt, cCt, spCt1, hd, hd2, hd4, hd5, h64, hx, hP, hC2, hS, hH, eqCells_bi]; rfl) ?_) | with_reducible refine wp_sealS (by simp -dsimp -implicitDefEqProofs [avCt, cCt, spCt1, hd, hd2, hd4, hd5, h64, hx, hP, hC2, hS, hH, eqCells_bi]; rfl) ?_ | with_reducible refine wp_seal (by simp -dsimp -implicitDefEqProofs [avCt, cCt, spCt1, hd, hd2, hd4, hd5, h64, hx, hP, hC2, hS, hH, eqCells_bi]; rfl) ?_ | with_reducible refine wp_closeS (by simp -dsimp -implicitDefEqProofs [avCt, cCt, spCt1, hd, hd2, hd4, hd5, h64, hx, hP, hC2, hS, hH, eqCells_bi]; rfl) ?_ | with_reducible refine wp_close (by simp -dsimp -implicitDefEqProofs [avCt, cCt, spCt1, hd, hd2, hd4, hd5, h64, hx, hP, hC2, hS, hH, eqCells_bi]; rfl) ?_ | with_reducible refine wp_conc_out ?_ | with_reducible refine wp_open_out ?_ | with_reducible refine wp_pack_out ?_ | with_reducible refine wp_blockS ?_ | with_reducible refine wp_skip' ?_ | with_reducible refine wp_ret' ?_ | with_reducible refine wp_exit' ?_ | with_reducible refine wp_drop (wp_eqT (by simp -dsimp -implicitDefEqProofs [avCt, cCt, spCt1, hd, hd2, hd4, hd5, h64, hx, hP, hC2, hS, hH, eqCells_bi]; rfl) ?_) | with_reducible refine wp_block' ?_
              | with_reducible refine wp_condVS (by simp -dsimp -implicitDefEqProofs [avCt, cCt, spCt1, hd, hd2, hd4, hd5, h64, hx, hP, hC2, hS, hH, eqCells_bi]; rfl) ?_
              | with_reducible refine wp_condV (by simp -dsimp -implicitDefEqProofs [avCt, cCt, spCt1, hd, hd2, hd4, hd5, h64, hx, hP, hC2, hS, hH, eqCells_bi]; rfl) ?_
              | with_reducible refine cond_t ?_ | with_reducible refine cond_f ?_ | with_reducible refine cond_v (fun h => ?_) (fun h => ?_)
              | with_reducible refine post_then ?_ | with_reducible refine post_thenE ?_ | with_reducible refine post_thenP ?_ | with_reducible refine post_blkP ?_ | with_reducible refine post_thenR ?_ | with_reducible refine post_blkN ?_ | with_reducible refine post_blkE ?_ | with_reducible refine post_blkF rfl ?_ | with_reducible refine post_blkR ?_
              | with_reducible refine seg_eval (by simp -dsimp -implicitDefEqProofs [avCt, cCt, spCt1, hd, hd2, hd4, hd5, h64, hx, hP, hC2, hS, hH, eqCells_bi]; rfl) ?_
          refine wp_drawsR (fun ts mm => ts = [(1, .fsl 3 (ms.map avCt)), (5, .ptr 0 0 0), (6, .ptr 1 0 0), (7, .v (.int .i64 i)), (8, .ptr 2 0 0), (9, .v (.int .i64 e)), (10, .ptr 3 0 0), (11, .v (.int .i64 e))] ∧ mm = [.var [.v (.int .i64 v), .v (.int .u16 (m : Nat)), .v (.slice none 0 0)], .var [.v (.int .i64 v), .v (.int .u16 (m : Nat)), .v (.slice none 0 0)], .var [.v (.int .i64 v), .v (.int .u16 (m : Nat)), .fsl 3 (l'.map avCt)], .var [.v (.int .i64 v), .v (.int .u16 (m : Nat)), .fsl 3 (l'.map avCt)]]) ?_ ?_
          · intro W hW
            repeat' first
                | with_reducible refine wp_regionS (seg_eval (by simp -dsimp -implicitDefEqProofs [avCt, cCt, spCt1, hd, hd2, hd4, hd5, h64, hx, hP, hC2, hS, hH, eqCells_bi]; rfl) ?_)
                | with_reducible refine wp_region (seg_eval (by simp -dsimp -implicitDefEqProofs [avCt, cCt, spCt1, hd, hd2, hd4, hd5, h64, hx, hP, hC2, hS, hH, eqCells_bi]; rfl) ?_)
                | with_reducible refine wp_drawsS (seg_eval (by simp -dsimp -implicitDefEqProofs [avCt, cCt, spCt1, hd, hd2, hd4, hd5, h64, hx, hP, hC2, hS, hH, eqCells_bi]; rfl) ?_)
                | with_reducible refine wp_draws (seg_eval (by simp -dsimp -implicitDefEqProofs [avCt, cCt, spCt1, hd, hd2, hd4, hd5, h64, hx, hP, hC2, hS, hH, eqCells_bi]; rfl) ?_)
                | with_reducible refine seg_fin ?_
                | with_reducible refine seg_pan ?_
                | with_reducible refine seg_both ?_ ?_
                | with_reducible refine seg_case (fun x h => ?_) (fun h => ?_)
                | with_reducible refine seg_gate (fun h => ?_) (fun h => ?_)
                | with_reducible refine seg_need ?_ ?_
                | with_reducible refine wp_assoc ?_ | with_reducible refine wp_skipS ?_ | with_reducible refine wp_retS ?_ | with_reducible refine wp_exitS ?_ | with_reducible refine wp_dropS (wp_eqT (by simp -dsimp -implicitDefEqProofs [avCt, cCt, spCt1, hd, hd2, hd4, hd5, h64, hx, hP, hC2, hS, hH, eqCells_bi]; rfl) ?_) | with_reducible refine wp_sealS (by simp -dsimp -implicitDefEqProofs [avCt, cCt, spCt1, hd, hd2, hd4, hd5, h64, hx, hP, hC2, hS, hH, eqCells_bi]; rfl) ?_ | with_reducible refine wp_seal (by simp -dsimp -implicitDefEqProofs [avCt, cCt, spCt1, hd, hd2, hd4, hd5, h64, hx, hP, hC2, hS, hH, eqCells_bi]; rfl) ?_ | with_reducible refine wp_closeS (by simp -dsimp -implicitDefEqProofs [avCt, cCt, spCt1, hd, hd2, hd4, hd5, h64, hx, hP, hC2, hS, hH, eqCells_bi]; rfl) ?_ | with_reducible refine wp_close (by simp -dsimp -implicitDefEqProofs [avCt, cCt, spCt1, hd, hd2, hd4, hd5, h64, hx, hP, hC2, hS, hH, eqCells_bi]; rfl) ?_ | with_reducible refine wp_conc_out ?_ | with_reducible refine wp_open_out ?_ | with_reducible refine wp_pack_out ?_ | with_reducible refine wp_blockS ?_ | with_reducible refine wp_skip' ?_ | with_reducible refine wp_ret' ?_ | with_reducible refine wp_exit' ?_ | with_reducible refine wp_drop (wp_eqT (by simp -dsimp -implicitDefEqProofs [avCt, cCt, spCt1, hd, hd2, hd4, hd5, h64, hx, hP, hC2, hS, hH, eqCells_bi]; rfl) ?_) | with_reducible refine wp_block' ?_
                | with_reducible refine wp_condVS (by simp -dsimp -implicitDefEqProofs [avCt, cCt, spCt1, hd, hd2, hd4, hd5, h64, hx, hP, hC2, hS, hH, eqCells_bi]; rfl) ?_
                | with_reducible refine wp_condV (by simp -dsimp -implicitDefEqProofs [avCt, cCt, spCt1, hd, hd2, hd4, hd5, h64, hx, hP, hC2, hS, hH, eqCells_bi]; rfl) ?_
                | with_reducible refine cond_t ?_ | with_reducible refine cond_f ?_ | with_reducible refine cond_v (fun h => ?_) (fun h => ?_)
                | with_reducible refine post_then ?_ | with_reducible refine post_thenE ?_ | with_reducible refine post_thenP ?_ | with_reducible refine post_blkP ?_ | with_reducible refine post_thenR ?_ | with_reducible refine post_blkN ?_ | with_reducible refine post_blkE ?_ | with_reducible refine post_blkF rfl ?_ | with_reducible refine post_blkR ?_
                | with_reducible refine seg_eval (by simp -dsimp -implicitDefEqProofs [avCt, cCt, spCt1, hd, hd2, hd4, hd5, h64, hx, hP, hC2, hS, hH, eqCells_bi]; rfl) ?_
            all_goals first
              | omega
              | exact hW _ _ ⟨[], [0, 1, 2, 3], rfl, rfl, by simp [avCt, cCt], by simp⟩
              | trace_state
          rintro ts mm ⟨rfl, rfl⟩
          repeat' first
              | with_reducible refine wp_regionS (seg_eval (by simp -dsimp -implicitDefEqProofs [avCt, cCt, spCt1, hd, hd2, hd4, hd5, h64, hx, hP, hC2, hS, hH, eqCells_bi]; rfl) ?_)
              | with_reducible refine wp_region (seg_eval (by simp -dsimp -implicitDefEqProofs [avCt, cCt, spCt1, hd, hd2, hd4, hd5, h64, hx, hP, hC2, hS, hH, eqCells_bi]; rfl) ?_)
              | with_reducible refine seg_fin ?_
              | with_reducible refine seg_pan ?_
              | with_reducible refine seg_both ?_ ?_
              | with_reducible refine seg_case (fun x h => ?_) (fun h => ?_)
              | with_reducible refine seg_gate (fun h => ?_) (fun h => ?_)
              | with_reducible refine seg_need ?_ ?_
              | with_reducible refine wp_assoc ?_ | with_reducible refine wp_skipS ?_ | with_reducible refine wp_retS ?_ | with_reducible refine wp_exitS ?_ | with_reducible refine wp_dropS (wp_eqT (by simp -dsimp -implicitDefEqProofs [avCt, cCt, spCt1, hd, hd2, hd4, hd5, h64, hx, hP, hC2, hS, hH, eqCells_bi]; rfl) ?_) | with_reducible refine wp_sealS (by simp -dsimp -implicitDefEqProofs [avCt, cCt, spCt1, hd, hd2, hd4, hd5, h64, hx, hP, hC2, hS, hH, eqCells_bi]; rfl) ?_ | with_reducible refine wp_seal (by simp -dsimp -implicitDefEqProofs [avCt, cCt, spCt1, hd, hd2, hd4, hd5, h64, hx, hP, hC2, hS, hH, eqCells_bi]; rfl) ?_ | with_reducible refine wp_closeS (by simp -dsimp -implicitDefEqProofs [avCt, cCt, spCt1, hd, hd2, hd4, hd5, h64, hx, hP, hC2, hS, hH, eqCells_bi]; rfl) ?_ | with_reducible refine wp_close (by simp -dsimp -implicitDefEqProofs [avCt, cCt, spCt1, hd, hd2, hd4, hd5, h64, hx, hP, hC2, hS, hH, eqCells_bi]; rfl) ?_ | with_reducible refine wp_conc_out ?_ | with_reducible refine wp_open_out ?_ | with_reducible refine wp_pack_out ?_ | with_reducible refine wp_blockS ?_ | with_reducible refine wp_skip' ?_ | with_reducible refine wp_ret' ?_ | with_reducible refine wp_exit' ?_ | with_reducible refine wp_drop (wp_eqT (by simp -dsimp -implicitDefEqProofs [avCt, cCt, spCt1, hd, hd2, hd4, hd5, h64, hx, hP, hC2, hS, hH, eqCells_bi]; rfl) ?_) | with_reducible refine wp_block' ?_
              | with_reducible refine wp_condVS (by simp -dsimp -implicitDefEqProofs [avCt, cCt, spCt1, hd, hd2, hd4, hd5, h64, hx, hP, hC2, hS, hH, eqCells_bi]; rfl) ?_
              | with_reducible refine wp_condV (by simp -dsimp -implicitDefEqProofs [avCt, cCt, spCt1, hd, hd2, hd4, hd5, h64, hx, hP, hC2, hS, hH, eqCells_bi]; rfl) ?_
              | with_reducible refine cond_t ?_ | with_reducible refine cond_f ?_ | with_reducible refine cond_v (fun h => ?_) (fun h => ?_)
              | with_reducible refine post_then ?_ | with_reducible refine post_thenE ?_ | with_reducible refine post_thenP ?_ | with_reducible refine post_blkP ?_ | with_reducible refine post_thenR ?_ | with_reducible refine post_blkN ?_ | with_reducible refine post_blkE ?_ | with_reducible refine post_blkF rfl ?_ | with_reducible refine post_blkR ?_
              | with_reducible refine seg_eval (by simp -dsimp -implicitDefEqProofs [avCt, cCt, spCt1, hd, hd2, hd4, hd5, h64, hx, hP, hC2, hS, hH, eqCells_bi]; rfl) ?_
          refine wp_drawsR (fun ts mm => ts = [(1, .fsl 3 (ms.map avCt)), (5, .ptr 0 0 0), (6, .ptr 1 0 0), (7, .v (.int .i64 i)), (82, .v (.bool false))] ∧ mm = [.var [.v (.int .i64 v), .v (.int .u16 (m : Nat)), .fsl 3 (l'.map avCt)], .var [.v (.int .i64 v), .v (.int .u16 (m : Nat)), .fsl 3 (l'.map avCt)]]) ?_ ?_
          · intro W hW
            repeat' first
                | with_reducible refine wp_regionS (seg_eval (by simp -dsimp -implicitDefEqProofs [avCt, cCt, spCt1, hd, hd2, hd4, hd5, h64, hx, hP, hC2, hS, hH, eqCells_bi]; rfl) ?_)
                | with_reducible refine wp_region (seg_eval (by simp -dsimp -implicitDefEqProofs [avCt, cCt, spCt1, hd, hd2, hd4, hd5, h64, hx, hP, hC2, hS, hH, eqCells_bi]; rfl) ?_)
                | with_reducible refine wp_drawsS (seg_eval (by simp -dsimp -implicitDefEqProofs [avCt, cCt, spCt1, hd, hd2, hd4, hd5, h64, hx, hP, hC2, hS, hH, eqCells_bi]; rfl) ?_)
                | with_reducible refine wp_draws (seg_eval (by simp -dsimp -implicitDefEqProofs [avCt, cCt, spCt1, hd, hd2, hd4, hd5, h64, hx, hP, hC2, hS, hH, eqCells_bi]; rfl) ?_)
                | with_reducible refine seg_fin ?_
                | with_reducible refine seg_pan ?_
                | with_reducible refine seg_both ?_ ?_
                | with_reducible refine seg_case (fun x h => ?_) (fun h => ?_)
                | with_reducible refine seg_gate (fun h => ?_) (fun h => ?_)
                | with_reducible refine seg_need ?_ ?_
                | with_reducible refine wp_assoc ?_ | with_reducible refine wp_skipS ?_ | with_reducible refine wp_retS ?_ | with_reducible refine wp_exitS ?_ | with_reducible refine wp_dropS (wp_eqT (by simp -dsimp -implicitDefEqProofs [avCt, cCt, spCt1, hd, hd2, hd4, hd5, h64, hx, hP, hC2, hS, hH, eqCells_bi]; rfl) ?_) | with_reducible refine wp_sealS (by simp -dsimp -implicitDefEqProofs [avCt, cCt, spCt1, hd, hd2, hd4, hd5, h64, hx, hP, hC2, hS, hH, eqCells_bi]; rfl) ?_ | with_reducible refine wp_seal (by simp -dsimp -implicitDefEqProofs [avCt, cCt, spCt1, hd, hd2, hd4, hd5, h64, hx, hP, hC2, hS, hH, eqCells_bi]; rfl) ?_ | with_reducible refine wp_closeS (by simp -dsimp -implicitDefEqProofs [avCt, cCt, spCt1, hd, hd2, hd4, hd5, h64, hx, hP, hC2, hS, hH, eqCells_bi]; rfl) ?_ | with_reducible refine wp_close (by simp -dsimp -implicitDefEqProofs [avCt, cCt, spCt1, hd, hd2, hd4, hd5, h64, hx, hP, hC2, hS, hH, eqCells_bi]; rfl) ?_ | with_reducible refine wp_conc_out ?_ | with_reducible refine wp_open_out ?_ | with_reducible refine wp_pack_out ?_ | with_reducible refine wp_blockS ?_ | with_reducible refine wp_skip' ?_ | with_reducible refine wp_ret' ?_ | with_reducible refine wp_exit' ?_ | with_reducible refine wp_drop (wp_eqT (by simp -dsimp -implicitDefEqProofs [avCt, cCt, spCt1, hd, hd2, hd4, hd5, h64, hx, hP, hC2, hS, hH, eqCells_bi]; rfl) ?_) | with_reducible refine wp_block' ?_
                | with_reducible refine wp_condVS (by simp -dsimp -implicitDefEqProofs [avCt, cCt, spCt1, hd, hd2, hd4, hd5, h64, hx, hP, hC2, hS, hH, eqCells_bi]; rfl) ?_
                | with_reducible refine wp_condV (by simp -dsimp -implicitDefEqProofs [avCt, cCt, spCt1, hd, hd2, hd4, hd5, h64, hx, hP, hC2, hS, hH, eqCells_bi]; rfl) ?_
                | with_reducible refine cond_t ?_ | with_reducible refine cond_f ?_ | with_reducible refine cond_v (fun h => ?_) (fun h => ?_)
                | with_reducible refine post_then ?_ | with_reducible refine post_thenE ?_ | with_reducible refine post_thenP ?_ | with_reducible refine post_blkP ?_ | with_reducible refine post_thenR ?_ | with_reducible refine post_blkN ?_ | with_reducible refine post_blkE ?_ | with_reducible refine post_blkF rfl ?_ | with_reducible refine post_blkR ?_
                | with_reducible refine seg_eval (by simp -dsimp -implicitDefEqProofs [avCt, cCt, spCt1, hd, hd2, hd4, hd5, h64, hx, hP, hC2, hS, hH, eqCells_bi]; rfl) ?_
            all_goals first
              | omega
              | exact hW _ _ ⟨[], [0, 1], rfl, rfl, by simp [avCt, cCt], by simp⟩
              | trace_state
          rintro ts mm ⟨rfl, rfl⟩
          repeat' first
              | with_reducible refine wp_regionS (seg_eval (by simp -dsimp -implicitDefEqProofs [avCt, cCt, spCt1, hd, hd2, hd4, hd5, h64, hx, hP, hC2, hS, hH, eqCells_bi]; rfl) ?_)
              | with_reducible refine wp_region (seg_eval (by simp -dsimp -implicitDefEqProofs [avCt, cCt, spCt1, hd, hd2, hd4, hd5, h64, hx, hP, hC2, hS, hH, eqCells_bi]; rfl) ?_)
              | with_reducible refine wp_drawsS (seg_eval (by simp -dsimp -implicitDefEqProofs [avCt, cCt, spCt1, hd, hd2, hd4, hd5, h64, hx, hP, hC2, hS, hH, eqCells_bi]; rfl) ?_)
              | with_reducible refine wp_draws (seg_eval (by simp -dsimp -implicitDefEqProofs [avCt, cCt, spCt1, hd, hd2, hd4, hd5, h64, hx, hP, hC2, hS, hH, eqCells_bi]; rfl) ?_)
              | with_reducible refine seg_fin ?_
              | with_reducible refine seg_pan ?_
              | with_reducible refine seg_both ?_ ?_
              | with_reducible refine seg_case (fun x h => ?_) (fun h => ?_)
              | with_reducible refine seg_gate (fun h => ?_) (fun h => ?_)
              | with_reducible refine seg_need ?_ ?_
              | with_reducible refine wp_assoc ?_ | with_reducible refine wp_skipS ?_ | with_reducible refine wp_retS ?_ | with_reducible refine wp_exitS ?_ | with_reducible refine wp_dropS (wp_eqT (by simp -dsimp -implicitDefEqProofs [avCt, cCt, spCt1, hd, hd2, hd4, hd5, h64, hx, hP, hC2, hS, hH, eqCells_bi]; rfl) ?_) | with_reducible refine wp_sealS (by simp -dsimp -implicitDefEqProofs [avCt, cCt, spCt1, hd, hd2, hd4, hd5, h64, hx, hP, hC2, hS, hH, eqCells_bi]; rfl) ?_ | with_reducible refine wp_seal (by simp -dsimp -implicitDefEqProofs [avCt, cCt, spCt1, hd, hd2, hd4, hd5, h64, hx, hP, hC2, hS, hH, eqCells_bi]; rfl) ?_ | with_reducible refine wp_closeS (by simp -dsimp -implicitDefEqProofs [avCt, cCt, spCt1, hd, hd2, hd4, hd5, h64, hx, hP, hC2, hS, hH, eqCells_bi]; rfl) ?_ | with_reducible refine wp_close (by simp -dsimp -implicitDefEqProofs [avCt, cCt, spCt1, hd, hd2, hd4, hd5, h64, hx, hP, hC2, hS, hH, eqCells_bi]; rfl) ?_ | with_reducible refine wp_conc_out ?_ | with_reducible refine wp_open_out ?_ | with_reducible refine wp_pack_out ?_ | with_reducible refine wp_blockS ?_ | with_reducible refine wp_skip' ?_ | with_reducible refine wp_ret' ?_ | with_reducible refine wp_exit' ?_ | with_reducible refine wp_drop (wp_eqT (by simp -dsimp -implicitDefEqProofs [avCt, cCt, spCt1, hd, hd2, hd4, hd5, h64, hx, hP, hC2, hS, hH, eqCells_bi]; rfl) ?_) | with_reducible refine wp_block' ?_
              | with_reducible refine wp_condVS (by simp -dsimp -implicitDefEqProofs [avCt, cCt, spCt1, hd, hd2, hd4, hd5, h64, hx, hP, hC2, hS, hH, eqCells_bi]; rfl) ?_
              | with_reducible refine wp_condV (by simp -dsimp -implicitDefEqProofs [avCt, cCt, spCt1, hd, hd2, hd4, hd5, h64, hx, hP, hC2, hS, hH, eqCells_bi]; rfl) ?_
              | with_reducible refine cond_t ?_ | with_reducible refine cond_f ?_ | with_reducible refine cond_v (fun h => ?_) (fun h => ?_)
              | with_reducible refine post_then ?_ | with_reducible refine post_thenE ?_ | with_reducible refine post_thenP ?_ | with_reducible refine post_blkP ?_ | with_reducible refine post_thenR ?_ | with_reducible refine post_blkN ?_ | with_reducible refine post_blkE ?_ | with_reducible refine post_blkF rfl ?_ | with_reducible refine post_blkR ?_
              | with_reducible refine seg_eval (by simp -dsimp -implicitDefEqProofs [avCt, cCt, spCt1, hd, hd2, hd4, hd5, h64, hx, hP, hC2, hS, hH, eqCells_bi]; rfl) ?_
          all_goals first
            | omega
            | exact ⟨j - 1, by omega, [], [0, 1], rfl, rfl, i + 1, l', by omega, by omega, by omega, hpm, by simp, .inr (by simp)⟩
            | trace_state
        · repeat' first
              | with_reducible refine wp_regionS (seg_eval (by simp -dsimp -implicitDefEqProofs [avCt, cCt, spCt1, hd, hd2, hd4, hd5, h64, hx, hP, hC2, hS, hH, eqCells_bi]; rfl) ?_)
              | with_reducible refine wp_region (seg_eval (by simp -dsimp -implicitDefEqProofs [avCt, cCt, spCt1, hd, hd2, hd4, hd5, h64, hx, hP, hC2, hS, hH, eqCells_bi]; rfl) ?_)
              | with_reducible refine seg_fin ?_
              | with_reducible refine seg_pan ?_
              | with_reducible refine seg_both ?_ ?_
              | with_reducible refine seg_case (fun x h => ?_) (fun h => ?_)
              | with_reducible refine seg_gate (fun h => ?_) (fun h => ?_)
              | with_reducible refine seg_need ?_ ?_
              | with_reducible refine wp_assoc ?_ | with_reducible refine wp_skipS ?_ | with_reducible refine wp_retS ?_ | with_reducible refine wp_exitS ?_ | with_reducible refine wp_dropS (wp_eqT (by simp -dsimp -implicitDefEqProofs [avCt, cCt, spCt1, hd, hd2, hd4, hd5, h64, hx, hP, hC2, hS, hH, eqCells_bi]; rfl) ?_) | with_reducible refine wp_sealS (by simp -dsimp -implicitDefEqProofs [avCt, cCt, spCt1, hd, hd2, hd4, hd5, h64, hx, hP, hC2, hS, hH, eqCells_bi]; rfl) ?_ | with_reducible refine wp_seal (by simp -dsimp -implicitDefEqProofs [avCt, cCt, spCt1, hd, hd2, hd4, hd5, h64, hx, hP, hC2, hS, hH, eqCells_bi]; rfl) ?_ | with_reducible refine wp_closeS (by simp -dsimp -implicitDefEqProofs [avCt, cCt, spCt1, hd, hd2, hd4, hd5, h64, hx, hP, hC2, hS, hH, eqCells_bi]; rfl) ?_ | with_reducible refine wp_close (by simp -dsimp -implicitDefEqProofs [avCt, cCt, spCt1, hd, hd2, hd4, hd5, h64, hx, hP, hC2, hS, hH, eqCells_bi]; rfl) ?_ | with_reducible refine wp_conc_out ?_ | with_reducible refine wp_open_out ?_ | with_reducible refine wp_pack_out ?_ | with_reducible refine wp_blockS ?_ | with_reducible refine wp_skip' ?_ | with_reducible refine wp_ret' ?_ | with_reducible refine wp_exit' ?_ | with_reducible refine wp_drop (wp_eqT (by simp -dsimp -implicitDefEqProofs [avCt, cCt, spCt1, hd, hd2, hd4, hd5, h64, hx, hP, hC2, hS, hH, eqCells_bi]; rfl) ?_) | with_reducible refine wp_block' ?_
              | with_reducible refine wp_condVS (by simp -dsimp -implicitDefEqProofs [avCt, cCt, spCt1, hd, hd2, hd4, hd5, h64, hx, hP, hC2, hS, hH, eqCells_bi]; rfl) ?_
              | with_reducible refine wp_condV (by simp -dsimp -implicitDefEqProofs [avCt, cCt, spCt1, hd, hd2, hd4, hd5, h64, hx, hP, hC2, hS, hH, eqCells_bi]; rfl) ?_
              | with_reducible refine cond_t ?_ | with_reducible refine cond_f ?_ | with_reducible refine cond_v (fun h => ?_) (fun h => ?_)
              | with_reducible refine post_then ?_ | with_reducible refine post_thenE ?_ | with_reducible refine post_thenP ?_ | with_reducible refine post_blkP ?_ | with_reducible refine post_thenR ?_ | with_reducible refine post_blkN ?_ | with_reducible refine post_blkE ?_ | with_reducible refine post_blkF rfl ?_ | with_reducible refine post_blkR ?_
              | with_reducible refine seg_eval (by simp -dsimp -implicitDefEqProofs [avCt, cCt, spCt1, hd, hd2, hd4, hd5, h64, hx, hP, hC2, hS, hH, eqCells_bi]; rfl) ?_
          refine wp_drawsR (fun ts mm => ts = [(1, .fsl 3 (ms.map avCt)), (5, .ptr 0 0 0), (6, .ptr 1 0 0), (7, .v (.int .i64 i)), (8, .ptr 2 0 0), (9, .v (.int .i64 e))] ∧ mm = [.var [.v (.int .i64 v), .v (.int .u16 (m : Nat)), .fsl 3 (l.map avCt)], .var [.v (.int .i64 v), .v (.int .u16 (m : Nat)), .fsl 3 (l.map avCt)], .var [.v (.int .i64 v), .v (.int .u16 (m : Nat)), .fsl 3 (l'.map avCt)]]) ?_ ?_
          · intro W hW
            repeat' first
                | with_reducible refine wp_regionS (seg_eval (by simp -dsimp -implicitDefEqProofs [avCt, cCt, spCt1, hd, hd2, hd4, hd5, h64, hx, hP, hC2, hS, hH, eqCells_bi]; rfl) ?_)
                | with_reducible refine wp_region (seg_eval (by simp -dsimp -implicitDefEqProofs [avCt, cCt, spCt1, hd, hd2, hd4, hd5, h64, hx, hP, hC2, hS, hH, eqCells_bi]; rfl) ?_)
                | with_reducible refine wp_drawsS (seg_eval (by simp -dsimp -implicitDefEqProofs [avCt, cCt, spCt1, hd, hd2, hd4, hd5, h64, hx, hP, hC2, hS, hH, eqCells_bi]; rfl) ?_)
                | with_reducible refine wp_draws (seg_eval (by simp -dsimp -implicitDefEqProofs [avCt, cCt, spCt1, hd, hd2, hd4, hd5, h64, hx, hP, hC2, hS, hH, eqCells_bi]; rfl) ?_)
                | with_reducible refine seg_fin ?_
                | with_reducible refine seg_pan ?_
                | with_reducible refine seg_both ?_ ?_
                | with_reducible refine seg_case (fun x h => ?_) (fun h => ?_)
                | with_reducible refine seg_gate (fun h => ?_) (fun h => ?_)
                | with_reducible refine seg_need ?_ ?_
                | with_reducible refine wp_assoc ?_ | with_reducible refine wp_skipS ?_ | with_reducible refine wp_retS ?_ | with_reducible refine wp_exitS ?_ | with_reducible refine wp_dropS (wp_eqT (by simp -dsimp -implicitDefEqProofs [avCt, cCt, spCt1, hd, hd2, hd4, hd5, h64, hx, hP, hC2, hS, hH, eqCells_bi]; rfl) ?_) | with_reducible refine wp_sealS (by simp -dsimp -implicitDefEqProofs [avCt, cCt, spCt1, hd, hd2, hd4, hd5, h64, hx, hP, hC2, hS, hH, eqCells_bi]; rfl) ?_ | with_reducible refine wp_seal (by simp -dsimp -implicitDefEqProofs [avCt, cCt, spCt1, hd, hd2, hd4, hd5, h64, hx, hP, hC2, hS, hH, eqCells_bi]; rfl) ?_ | with_reducible refine wp_closeS (by simp -dsimp -implicitDefEqProofs [avCt, cCt, spCt1, hd, hd2, hd4, hd5, h64, hx, hP, hC2, hS, hH, eqCells_bi]; rfl) ?_ | with_reducible refine wp_close (by simp -dsimp -implicitDefEqProofs [avCt, cCt, spCt1, hd, hd2, hd4, hd5, h64, hx, hP, hC2, hS, hH, eqCells_bi]; rfl) ?_ | with_reducible refine wp_conc_out ?_ | with_reducible refine wp_open_out ?_ | with_reducible refine wp_pack_out ?_ | with_reducible refine wp_blockS ?_ | with_reducible refine wp_skip' ?_ | with_reducible refine wp_ret' ?_ | with_reducible refine wp_exit' ?_ | with_reducible refine wp_drop (wp_eqT (by simp -dsimp -implicitDefEqProofs [avCt, cCt, spCt1, hd, hd2, hd4, hd5, h64, hx, hP, hC2, hS, hH, eqCells_bi]; rfl) ?_) | with_reducible refine wp_block' ?_
                | with_reducible refine wp_condVS (by simp -dsimp -implicitDefEqProofs [avCt, cCt, spCt1, hd, hd2, hd4, hd5, h64, hx, hP, hC2, hS, hH, eqCells_bi]; rfl) ?_
                | with_reducible refine wp_condV (by simp -dsimp -implicitDefEqProofs [avCt, cCt, spCt1, hd, hd2, hd4, hd5, h64, hx, hP, hC2, hS, hH, eqCells_bi]; rfl) ?_
                | with_reducible refine cond_t ?_ | with_reducible refine cond_f ?_ | with_reducible refine cond_v (fun h => ?_) (fun h => ?_)
                | with_reducible refine post_then ?_ | with_reducible refine post_thenE ?_ | with_reducible refine post_thenP ?_ | with_reducible refine post_blkP ?_ | with_reducible refine post_thenR ?_ | with_reducible refine post_blkN ?_ | with_reducible refine post_blkE ?_ | with_reducible refine post_blkF rfl ?_ | with_reducible refine post_blkR ?_
                | with_reducible refine seg_eval (by simp -dsimp -implicitDefEqProofs [avCt, cCt, spCt1, hd, hd2, hd4, hd5, h64, hx, hP, hC2, hS, hH, eqCells_bi]; rfl) ?_
            all_goals first
              | omega
              | exact hW _ _ ⟨[], [0, 1, 2], rfl, rfl, by simp [avCt, cCt], by simp⟩
              | trace_state
          rintro ts mm ⟨rfl, rfl⟩
          repeat' first
              | with_reducible refine wp_regionS (seg_eval (by simp -dsimp -implicitDefEqProofs [avCt, cCt, spCt1, hd, hd2, hd4, hd5, h64, hx, hP, hC2, hS, hH, eqCells_bi]; rfl) ?_)
              | with_reducible refine wp_region (seg_eval (by simp -dsimp -implicitDefEqProofs [avCt, cCt, spCt1, hd, hd2, hd4, hd5, h64, hx, hP, hC2, hS, hH, eqCells_bi]; rfl) ?_)
              | with_reducible refine seg_fin ?_
              | with_reducible refine seg_pan ?_
              | with_reducible refine seg_both ?_ ?_
              | with_reducible refine seg_case (fun x h => ?_) (fun h => ?_)
              | with_reducible refine seg_gate (fun h => ?_) (fun h => ?_)
              | with_reducible refine seg_need ?_ ?_
              | with_reducible refine wp_assoc ?_ | with_reducible refine wp_skipS ?_ | with_reducible refine wp_retS ?_ | with_reducible refine wp_exitS ?_ | with_reducible refine wp_dropS (wp_eqT (by simp -dsimp -implicitDefEqProofs [avCt, cCt, spCt1, hd, hd2, hd4, hd5, h64, hx, hP, hC2, hS, hH, eqCells_bi]; rfl) ?_) | with_reducible refine wp_sealS (by simp -dsimp -implicitDefEqProofs [avCt, cCt, spCt1, hd, hd2, hd4, hd5, h64, hx, hP, hC2, hS, hH, eqCells_bi]; rfl) ?_ | with_reducible refine wp_seal (by simp -dsimp -implicitDefEqProofs [avCt, cCt, spCt1, hd, hd2, hd4, hd5, h64, hx, hP, hC2, hS, hH, eqCells_bi]; rfl) ?_ | with_reducible refine wp_closeS (by simp -dsimp -implicitDefEqProofs [avCt, cCt, spCt1, hd, hd2, hd4, hd5, h64, hx, hP, hC2, hS, hH, eqCells_bi]; rfl) ?_ | with_reducible refine wp_close (by simp -dsimp -implicitDefEqProofs [avCt, cCt, spCt1, hd, hd2, hd4, hd5, h64, hx, hP, hC2, hS, hH, eqCells_bi]; rfl) ?_ | with_reducible refine wp_conc_out ?_ | with_reducible refine wp_open_out ?_ | with_reducible refine wp_pack_out ?_ | with_reducible refine wp_blockS ?_ | with_reducible refine wp_skip' ?_ | with_reducible refine wp_ret' ?_ | with_reducible refine wp_exit' ?_ | with_reducible refine wp_drop (wp_eqT (by simp -dsimp -implicitDefEqProofs [avCt, cCt, spCt1, hd, hd2, hd4, hd5, h64, hx, hP, hC2, hS, hH, eqCells_bi]; rfl) ?_) | with_reducible refine wp_block' ?_
              | with_reducible refine wp_condVS (by simp -dsimp -implicitDefEqProofs [avCt, cCt, spCt1, hd, hd2, hd4, hd5, h64, hx, hP, hC2, hS, hH, eqCells_bi]; rfl) ?_
              | with_reducible refine wp_condV (by simp -dsimp -implicitDefEqProofs [avCt, cCt, spCt1, hd, hd2, hd4, hd5, h64, hx, hP, hC2, hS, hH, eqCells_bi]; rfl) ?_
              | with_reducible refine cond_t ?_ | with_reducible refine cond_f ?_ | with_reducible refine cond_v (fun h => ?_) (fun h => ?_)
              | with_reducible refine post_then ?_ | with_reducible refine post_thenE ?_ | with_reducible refine post_thenP ?_ | with_reducible refine post_blkP ?_ | with_reducible refine post_thenR ?_ | with_reducible refine post_blkN ?_ | with_reducible refine post_blkE ?_ | with_reducible refine post_blkF rfl ?_ | with_reducible refine post_blkR ?_
              | with_reducible refine seg_eval (by simp -dsimp -implicitDefEqProofs [avCt, cCt, spCt1, hd, hd2, hd4, hd5, h64, hx, hP, hC2, hS, hH, eqCells_bi]; rfl) ?_
          refine wp_drawsR (fun ts mm => ts = [(1, .fsl 3 (ms.map avCt)), (5, .ptr 0 0 0), (6, .ptr 1 0 0), (7, .v (.int .i64 i)), (8, .ptr 2 0 0), (9, .v (.int .i64 e)), (10, .ptr 3 0 0), (11, .v (.int .i64 e))] ∧ mm = [.var [.v (.int .i64 v), .v (.int .u16 (m : Nat)), .fsl 3 (l.map avCt)], .var [.v (.int .i64 v), .v (.int .u16 (m : Nat)), .fsl 3 (l.map avCt)], .var [.v (.int .i64 v), .v (.int .u16 (m : Nat)), .fsl 3 (l'.map avCt)], .var [.v (.int .i64 v), .v (.int .u16 (m : Nat)), .fsl 3 (l'.map avCt)]]) ?_ ?_
          · intro W hW
            repeat' first
                | with_reducible refine wp_regionS (seg_eval (by simp -dsimp -implicitDefEqProofs [avCt, cCt, spCt1, hd, hd2, hd4, hd5, h64, hx, hP, hC2, hS, hH, eqCells_bi]; rfl) ?_)
                | with_reducible refine wp_region (seg_eval (by simp -dsimp -implicitDefEqProofs [avCt, cCt, spCt1, hd, hd2, hd4, hd5, h64, hx, hP, hC2, hS, hH, eqCells_bi]; rfl) ?_)
                | with_reducible refine wp_drawsS (seg_eval (by simp -dsimp -implicitDefEqProofs [avCt, cCt, spCt1, hd, hd2, hd4, hd5, h64, hx, hP, hC2, hS, hH, eqCells_bi]; rfl) ?_)
                | with_reducible refine wp_draws (seg_eval (by simp -dsimp -implicitDefEqProofs [avCt, cCt, spCt1, hd, hd2, hd4, hd5, h64, hx, hP, hC2, hS, hH, eqCells_bi]; rfl) ?_)
                | with_reducible refine seg_fin ?_
                | with_reducible refine seg_pan ?_
                | with_reducible refine seg_both ?_ ?_
                | with_reducible refine seg_case (fun x h => ?_) (fun h => ?_)
                | with_reducible refine seg_gate (fun h => ?_) (fun h => ?_)
                | with_reducible refine seg_need ?_ ?_
                | with_reducible refine wp_assoc ?_ | with_reducible refine wp_skipS ?_ | with_reducible refine wp_retS ?_ | with_reducible refine wp_exitS ?_ | with_reducible refine wp_dropS (wp_eqT (by simp -dsimp -implicitDefEqProofs [avCt, cCt, spCt1, hd, hd2, hd4, hd5, h64, hx, hP, hC2, hS, hH, eqCells_bi]; rfl) ?_) | with_reducible refine wp_sealS (by simp -dsimp -implicitDefEqProofs [avCt, cCt, spCt1, hd, hd2, hd4, hd5, h64, hx, hP, hC2, hS, hH, eqCells_bi]; rfl) ?_ | with_reducible refine wp_seal (by simp -dsimp -implicitDefEqProofs [avCt, cCt, spCt1, hd, hd2, hd4, hd5, h64, hx, hP, hC2, hS, hH, eqCells_bi]; rfl) ?_ | with_reducible refine wp_closeS (by simp -dsimp -implicitDefEqProofs [avCt, cCt, spCt1, hd, hd2, hd4, hd5, h64, hx, hP, hC2, hS, hH, eqCells_bi]; rfl) ?_ | with_reducible refine wp_close (by simp -dsimp -implicitDefEqProofs [avCt, cCt, spCt1, hd, hd2, hd4, hd5, h64, hx, hP, hC2, hS, hH, eqCells_bi]; rfl) ?_ | with_reducible refine wp_conc_out ?_ | with_reducible refine wp_open_out ?_ | with_reducible refine wp_pack_out ?_ | with_reducible refine wp_blockS ?_ | with_reducible refine wp_skip' ?_ | with_reducible refine wp_ret' ?_ | with_reducible refine wp_exit' ?_ | with_reducible refine wp_drop (wp_eqT (by simp -dsimp -implicitDefEqProofs [avCt, cCt, spCt1, hd, hd2, hd4, hd5, h64, hx, hP, hC2, hS, hH, eqCells_bi]; rfl) ?_) | with_reducible refine wp_block' ?_
                | with_reducible refine wp_condVS (by simp -dsimp -implicitDefEqProofs [avCt, cCt, spCt1, hd, hd2, hd4, hd5, h64, hx, hP, hC2, hS, hH, eqCells_bi]; rfl) ?_
                | with_reducible refine wp_condV (by simp -dsimp -implicitDefEqProofs [avCt, cCt, spCt1, hd, hd2, hd4, hd5, h64, hx, hP, hC2, hS, hH, eqCells_bi]; rfl) ?_
                | with_reducible refine cond_t ?_ | with_reducible refine cond_f ?_ | with_reducible refine cond_v (fun h => ?_) (fun h => ?_)
                | with_reducible refine post_then ?_ | with_reducible refine post_thenE ?_ | with_reducible refine post_thenP ?_ | with_reducible refine post_blkP ?_ | with_reducible refine post_thenR ?_ | with_reducible refine post_blkN ?_ | with_reducible refine post_blkE ?_ | with_reducible refine post_blkF rfl ?_ | with_reducible refine post_blkR ?_
                | with_reducible refine seg_eval (by simp -dsimp -implicitDefEqProofs [avCt, cCt, spCt1, hd, hd2, hd4, hd5, h64, hx, hP, hC2, hS, hH, eqCells_bi]; rfl) ?_
            all_goals first
              | omega
              | exact hW _ _ ⟨[], [0, 1, 2, 3], rfl, rfl, by simp [avCt, cCt], by simp⟩
              | trace_state
          rintro ts mm ⟨rfl, rfl⟩
          repeat' first
              | with_reducible refine wp_regionS (seg_eval (by simp -dsimp -implicitDefEqProofs [avCt, cCt, spCt1, hd, hd2, hd4, hd5, h64, hx, hP, hC2, hS, hH, eqCells_bi]; rfl) ?_)
              | with_reducible refine wp_region (seg_eval (by simp -dsimp -implicitDefEqProofs [avCt, cCt, spCt1, hd, hd2, hd4, hd5, h64, hx, hP, hC2, hS, hH, eqCells_bi]; rfl) ?_)
              | with_reducible refine seg_fin ?_
              | with_reducible refine seg_pan ?_
              | with_reducible refine seg_both ?_ ?_
              | with_reducible refine seg_case (fun x h => ?_) (fun h => ?_)
              | with_reducible refine seg_gate (fun h => ?_) (fun h => ?_)
              | with_reducible refine seg_need ?_ ?_
              | with_reducible refine wp_assoc ?_ | with_reducible refine wp_skipS ?_ | with_reducible refine wp_retS ?_ | with_reducible refine wp_exitS ?_ | with_reducible refine wp_dropS (wp_eqT (by simp -dsimp -implicitDefEqProofs [avCt, cCt, spCt1, hd, hd2, hd4, hd5, h64, hx, hP, hC2, hS, hH, eqCells_bi]; rfl) ?_) | with_reducible refine wp_sealS (by simp -dsimp -implicitDefEqProofs [avCt, cCt, spCt1, hd, hd2, hd4, hd5, h64, hx, hP, hC2, hS, hH, eqCells_bi]; rfl) ?_ | with_reducible refine wp_seal (by simp -dsimp -implicitDefEqProofs [avCt, cCt, spCt1, hd, hd2, hd4, hd5, h64, hx, hP, hC2, hS, hH, eqCells_bi]; rfl) ?_ | with_reducible refine wp_closeS (by simp -dsimp -implicitDefEqProofs [avCt, cCt, spCt1, hd, hd2, hd4, hd5, h64, hx, hP, hC2, hS, hH, eqCells_bi]; rfl) ?_ | with_reducible refine wp_close (by simp -dsimp -implicitDefEqProofs [avCt, cCt, spCt1, hd, hd2, hd4, hd5, h64, hx, hP, hC2, hS, hH, eqCells_bi]; rfl) ?_ | with_reducible refine wp_conc_out ?_ | with_reducible refine wp_open_out ?_ | with_reducible refine wp_pack_out ?_ | with_reducible refine wp_blockS ?_ | with_reducible refine wp_skip' ?_ | with_reducible refine wp_ret' ?_ | with_reducible refine wp_exit' ?_ | with_reducible refine wp_drop (wp_eqT (by simp -dsimp -implicitDefEqProofs [avCt, cCt, spCt1, hd, hd2, hd4, hd5, h64, hx, hP, hC2, hS, hH, eqCells_bi]; rfl) ?_) | with_reducible refine wp_block' ?_
              | with_reducible refine wp_condVS (by simp -dsimp -implicitDefEqProofs [avCt, cCt, spCt1, hd, hd2, hd4, hd5, h64, hx, hP, hC2, hS, hH, eqCells_bi]; rfl) ?_
              | with_reducible refine wp_condV (by simp -dsimp -implicitDefEqProofs [avCt, cCt, spCt1, hd, hd2, hd4, hd5, h64, hx, hP, hC2, hS, hH, eqCells_bi]; rfl) ?_
              | with_reducible refine cond_t ?_ | with_reducible refine cond_f ?_ | with_reducible refine cond_v (fun h => ?_) (fun h => ?_)
              | with_reducible refine post_then ?_ | with_reducible refine post_thenE ?_ | with_reducible refine post_thenP ?_ | with_reducible refine post_blkP ?_ | with_reducible refine post_thenR ?_ | with_reducible refine post_blkN ?_ | with_reducible refine post_blkE ?_ | with_reducible refine post_blkF rfl ?_ | with_reducible refine post_blkR ?_
              | with_reducible refine seg_eval (by simp -dsimp -implicitDefEqProofs [avCt, cCt, spCt1, hd, hd2, hd4, hd5, h64, hx, hP, hC2, hS, hH, eqCells_bi]; rfl) ?_
          refine wp_drawsR (fun ts mm => ts = [(1, .fsl 3 (ms.map avCt)), (5, .ptr 0 0 0), (6, .ptr 1 0 0), (7, .v (.int .i64 i)), (82, .v (.bool false))] ∧ mm = [.var [.v (.int .i64 v), .v (.int .u16 (m : Nat)), .fsl 3 (l'.map avCt)], .var [.v (.int .i64 v), .v (.int .u16 (m : Nat)), .fsl 3 (l'.map avCt)]]) ?_ ?_
          · intro W hW
            repeat' first
                | with_reducible refine wp_regionS (seg_eval (by simp -dsimp -implicitDefEqProofs [avCt, cCt, spCt1, hd, hd2, hd4, hd5, h64, hx, hP, hC2, hS, hH, eqCells_bi]; rfl) ?_)
                | with_reducible refine wp_region (seg_eval (by simp -dsimp -implicitDefEqProofs [avCt, cCt, spCt1, hd, hd2, hd4, hd5, h64, hx, hP, hC2, hS, hH, eqCells_bi]; rfl) ?_)
                | with_reducible refine wp_drawsS (seg_eval (by simp -dsimp -implicitDefEqProofs [avCt, cCt, spCt1, hd, hd2, hd4, hd5, h64, hx, hP, hC2, hS, hH, eqCells_bi]; rfl) ?_)
                | with_reducible refine wp_draws (seg_eval (by simp -dsimp -implicitDefEqProofs [avCt, cCt, spCt1, hd, hd2, hd4, hd5, h64, hx, hP, hC2, hS, hH, eqCells_bi]; rfl) ?_)
                | with_reducible refine seg_fin ?_
                | with_reducible refine seg_pan ?_
                | with_reducible refine seg_both ?_ ?_
                | with_reducible refine seg_case (fun x h => ?_) (fun h => ?_)
                | with_reducible refine seg_gate (fun h => ?_) (fun h => ?_)
                | with_reducible refine seg_need ?_ ?_
                | with_reducible refine wp_assoc ?_ | with_reducible refine wp_skipS ?_ | with_reducible refine wp_retS ?_ | with_reducible refine wp_exitS ?_ | with_reducible refine wp_dropS (wp_eqT (by simp -dsimp -implicitDefEqProofs [avCt, cCt, spCt1, hd, hd2, hd4, hd5, h64, hx, hP, hC2, hS, hH, eqCells_bi]; rfl) ?_) | with_reducible refine wp_sealS (by simp -dsimp -implicitDefEqProofs [avCt, cCt, spCt1, hd, hd2, hd4, hd5, h64, hx, hP, hC2, hS, hH, eqCells_bi]; rfl) ?_ | with_reducible refine wp_seal (by simp -dsimp -implicitDefEqProofs [avCt, cCt, spCt1, hd, hd2, hd4, hd5, h64, hx, hP, hC2, hS, hH, eqCells_bi]; rfl) ?_ | with_reducible refine wp_closeS (by simp -dsimp -implicitDefEqProofs [avCt, cCt, spCt1, hd, hd2, hd4, hd5, h64, hx, hP, hC2, hS, hH, eqCells_bi]; rfl) ?_ | with_reducible refine wp_close (by simp -dsimp -implicitDefEqProofs [avCt, cCt, spCt1, hd, hd2, hd4, hd5, h64, hx, hP, hC2, hS, hH, eqCells_bi]; rfl) ?_ | with_reducible refine wp_conc_out ?_ | with_reducible refine wp_open_out ?_ | with_reducible refine wp_pack_out ?_ | with_reducible refine wp_blockS ?_ | with_reducible refine wp_skip' ?_ | with_reducible refine wp_ret' ?_ | with_reducible refine wp_exit' ?_ | with_reducible refine wp_drop (wp_eqT (by simp -dsimp -implicitDefEqProofs [avCt, cCt, spCt1, hd, hd2, hd4, hd5, h64, hx, hP, hC2, hS, hH, eqCells_bi]; rfl) ?_) | with_reducible refine wp_block' ?_
                | with_reducible refine wp_condVS (by simp -dsimp -implicitDefEqProofs [avCt, cCt, spCt1, hd, hd2, hd4, hd5, h64, hx, hP, hC2, hS, hH, eqCells_bi]; rfl) ?_
                | with_reducible refine wp_condV (by simp -dsimp -implicitDefEqProofs [avCt, cCt, spCt1, hd, hd2, hd4, hd5, h64, hx, hP, hC2, hS, hH, eqCells_bi]; rfl) ?_
                | with_reducible refine cond_t ?_ | with_reducible refine cond_f ?_ | with_reducible refine cond_v (fun h => ?_) (fun h => ?_)
                | with_reducible refine post_then ?_ | with_reducible refine post_thenE ?_ | with_reducible refine post_thenP ?_ | with_reducible refine post_blkP ?_ | with_reducible refine post_thenR ?_ | with_reducible refine post_blkN ?_ | with_reducible refine post_blkE ?_ | with_reducible refine post_blkF rfl ?_ | with_reducible refine post_blkR ?_
                | with_reducible refine seg_eval (by simp -dsimp -implicitDefEqProofs [avCt, cCt, spCt1, hd, hd2, hd4, hd5, h64, hx, hP, hC2, hS, hH, eqCells_bi]; rfl) ?_
            all_goals first
              | omega
              | exact hW _ _ ⟨[], [0, 1], rfl, rfl, by simp [avCt, cCt], by simp⟩
              | trace_state
          rintro ts mm ⟨rfl, rfl⟩
          repeat' first
              | with_reducible refine wp_regionS (seg_eval (by simp -dsimp -implicitDefEqProofs [avCt, cCt, spCt1, hd, hd2, hd4, hd5, h64, hx, hP, hC2, hS, hH, eqCells_bi]; rfl) ?_)
              | with_reducible refine wp_region (seg_eval (by simp -dsimp -implicitDefEqProofs [avCt, cCt, spCt1, hd, hd2, hd4, hd5, h64, hx, hP, hC2, hS, hH, eqCells_bi]; rfl) ?_)
              | with_reducible refine wp_drawsS (seg_eval (by simp -dsimp -implicitDefEqProofs [avCt, cCt, spCt1, hd, hd2, hd4, hd5, h64, hx, hP, hC2, hS, hH, eqCells_bi]; rfl) ?_)
              | with_reducible refine wp_draws (seg_eval (by simp -dsimp -implicitDefEqProofs [avCt, cCt, spCt1, hd, hd2, hd4, hd5, h64, hx, hP, hC2, hS, hH, eqCells_bi]; rfl) ?_)
              | with_reducible refine seg_fin ?_
              | with_reducible refine seg_pan ?_
              | with_reducible refine seg_both ?_ ?_
              | with_reducible refine seg_case (fun x h => ?_) (fun h => ?_)
              | with_reducible refine seg_gate (fun h => ?_) (fun h => ?_)
              | with_reducible refine seg_need ?_ ?_
              | with_reducible refine wp_assoc ?_ | with_reducible refine wp_skipS ?_ | with_reducible refine wp_retS ?_ | with_reducible refine wp_exitS ?_ | with_reducible refine wp_dropS (wp_eqT (by simp -dsimp -implicitDefEqProofs [avCt, cCt, spCt1, hd, hd2, hd4, hd5, h64, hx, hP, hC2, hS, hH, eqCells_bi]; rfl) ?_) | with_reducible refine wp_sealS (by simp -dsimp -implicitDefEqProofs [avCt, cCt, spCt1, hd, hd2, hd4, hd5, h64, hx, hP, hC2, hS, hH, eqCells_bi]; rfl) ?_ | with_reducible refine wp_seal (by simp -dsimp -implicitDefEqProofs [avCt, cCt, spCt1, hd, hd2, hd4, hd5, h64, hx, hP, hC2, hS, hH, eqCells_bi]; rfl) ?_ | with_reducible refine wp_closeS (by simp -dsimp -implicitDefEqProofs [avCt, cCt, spCt1, hd, hd2, hd4, hd5, h64, hx, hP, hC2, hS, hH, eqCells_bi]; rfl) ?_ | with_reducible refine wp_close (by simp -dsimp -implicitDefEqProofs [avCt, cCt, spCt1, hd, hd2, hd4, hd5, h64, hx, hP, hC2, hS, hH, eqCells_bi]; rfl) ?_ | with_reducible refine wp_conc_out ?_ | with_reducible refine wp_open_out ?_ | with_reducible refine wp_pack_out ?_ | with_reducible refine wp_blockS ?_ | with_reducible refine wp_skip' ?_ | with_reducible refine wp_ret' ?_ | with_reducible refine wp_exit' ?_ | with_reducible refine wp_drop (wp_eqT (by simp -dsimp -implicitDefEqProofs [avCt, cCt, spCt1, hd, hd2, hd4, hd5, h64, hx, hP, hC2, hS, hH, eqCells_bi]; rfl) ?_) | with_reducible refine wp_block' ?_
              | with_reducible refine wp_condVS (by simp -dsimp -implicitDefEqProofs [avCt, cCt, spCt1, hd, hd2, hd4, hd5, h64, hx, hP, hC2, hS, hH, eqCells_bi]; rfl) ?_
              | with_reducible refine wp_condV (by simp -dsimp -implicitDefEqProofs [avCt, cCt, spCt1, hd, hd2, hd4, hd5, h64, hx, hP, hC2, hS, hH, eqCells_bi]; rfl) ?_
              | with_reducible refine cond_t ?_ | with_reducible refine cond_f ?_ | with_reducible refine cond_v (fun h => ?_) (fun h => ?_)
              | with_reducible refine post_then ?_ | with_reducible refine post_thenE ?_ | with_reducible refine post_thenP ?_ | with_reducible refine post_blkP ?_ | with_reducible refine post_thenR ?_ | with_reducible refine post_blkN ?_ | with_reducible refine post_blkE ?_ | with_reducible refine post_blkF rfl ?_ | with_reducible refine post_blkR ?_
              | with_reducible refine seg_eval (by simp -dsimp -implicitDefEqProofs [avCt, cCt, spCt1, hd, hd2, hd4, hd5, h64, hx, hP, hC2, hS, hH, eqCells_bi]; rfl) ?_
          all_goals first
            | omega
            | exact ⟨j - 1, by omega, [], [0, 1], rfl, rfl, i + 1, l', by omega, by omega, by omega, hpm, by simp, .inr (by simp)⟩
            | trace_state
      · have hd4 : decide ((i : Int) < 60) = false := by rw [decide_eq_false_iff_not]; omega
        have hd5 : decide (i < 60) = false := by simp; omega
        repeat' first
            | with_reducible refine wp_regionS (seg_eval (by simp -dsimp -implicitDefEqProofs [hd, hd2, hd4, hd5]; rfl) ?_)
            | with_reducible refine wp_region (seg_eval (by simp -dsimp -implicitDefEqProofs [hd, hd2, hd4, hd5]; rfl) ?_)
            | with_reducible refine wp_drawsS (seg_eval (by simp -dsimp -implicitDefEqProofs [hd, hd2, hd4, hd5]; rfl) ?_)
            | with_reducible refine wp_draws (seg_eval (by simp -dsimp -implicitDefEqProofs [hd, hd2, hd4, hd5]; rfl) ?_)
            | with_reducible refine seg_fin ?_
            | with_reducible refine seg_pan ?_
            | with_reducible refine seg_both ?_ ?_
            | with_reducible refine seg_case (fun x h => ?_) (fun h => ?_)
            | with_reducible refine seg_gate (fun h => ?_) (fun h => ?_)
            | with_reducible refine seg_need ?_ ?_
            | with_reducible refine wp_assoc ?_ | with_reducible refine wp_skipS ?_ | with_reducible refine wp_retS ?_ | with_reducible refine wp_exitS ?_ | with_reducible refine wp_dropS (wp_eqT (by simp -dsimp -implicitDefEqProofs [hd, hd2, hd4, hd5]; rfl) ?_) | with_reducible refine wp_sealS (by simp -dsimp -implicitDefEqProofs [hd, hd2, hd4, hd5]; rfl) ?_ | with_reducible refine wp_seal (by simp -dsimp -implicitDefEqProofs [hd, hd2, hd4, hd5]; rfl) ?_ | with_reducible refine wp_closeS (by simp -dsimp -implicitDefEqProofs [hd, hd2, hd4, hd5]; rfl) ?_ | with_reducible refine wp_close (by simp -dsimp -implicitDefEqProofs [hd, hd2, hd4, hd5]; rfl) ?_ | with_reducible refine wp_conc_out ?_ | with_reducible refine wp_open_out ?_ | with_reducible refine wp_pack_out ?_ | with_reducible refine wp_blockS ?_ | with_reducible refine wp_skip' ?_ | with_reducible refine wp_ret' ?_ | with_reducible refine wp_exit' ?_ | with_reducible refine wp_drop (wp_eqT (by simp -dsimp -implicitDefEqProofs [hd, hd2, hd4, hd5]; rfl) ?_) | with_reducible refine wp_block' ?_
            | with_reducible refine wp_condVS (by simp -dsimp -implicitDefEqProofs [hd, hd2, hd4, hd5]; rfl) ?_
            | with_reducible refine wp_condV (by simp -dsimp -implicitDefEqProofs [hd, hd2, hd4, hd5]; rfl) ?_
            | with_reducible refine cond_t ?_ | with_reducible refine cond_f ?_ | with_reducible refine cond_v (fun h => ?_) (fun h => ?_)
            | with_reducible refine post_then ?_ | with_reducible refine post_thenE ?_ | with_reducible refine post_thenP ?_ | with_reducible refine post_blkP ?_ | with_reducible refine post_thenR ?_ | with_reducible refine post_blkN ?_ | with_reducible refine post_blkE ?_ | with_reducible refine post_blkF rfl ?_ | with_reducible refine post_blkR ?_
            | with_reducible refine seg_eval (by simp -dsimp -implicitDefEqProofs [hd, hd2, hd4, hd5]; rfl) ?_
        all_goals first
          | omega
          | exact post_fin rfl rfl ⟨[], [], rfl, rfl, rfl, rfl⟩
          | trace_state
    · have hd : decide ((i : Int) < (ms.length : Int)) = false := by rw [decide_eq_false_iff_not]; omega
      have hd2 : decide (i < ms.length) = false := by simp [hlt]
      repeat' first
          | with_reducible refine wp_regionS (seg_eval (by simp -dsimp -implicitDefEqProofs [hd, hd2]; rfl) ?_)
          | with_reducible refine wp_region (seg_eval (by simp -dsimp -implicitDefEqProofs [hd, hd2]; rfl) ?_)
          | with_reducible refine wp_drawsS (seg_eval (by simp -dsimp -implicitDefEqProofs [hd, hd2]; rfl) ?_)
          | with_reducible refine wp_draws (seg_eval (by simp -dsimp -implicitDefEqProofs [hd, hd2]; rfl) ?_)
          | with_reducible refine seg_fin ?_
          | with_reducible refine seg_pan ?_
          | with_reducible refine seg_both ?_ ?_
          | with_reducible refine seg_case (fun x h => ?_) (fun h => ?_)
          | with_reducible refine seg_gate (fun h => ?_) (fun h => ?_)
          | with_reducible refine seg_need ?_ ?_
          | with_reducible refine wp_assoc ?_ | with_reducible refine wp_skipS ?_ | with_reducible refine wp_retS ?_ | with_reducible refine wp_exitS ?_ | with_reducible refine wp_dropS (wp_eqT (by simp -dsimp -implicitDefEqProofs [hd, hd2]; rfl) ?_) | with_reducible refine wp_sealS (by simp -dsimp -implicitDefEqProofs [hd, hd2]; rfl) ?_ | with_reducible refine wp_seal (by simp -dsimp -implicitDefEqProofs [hd, hd2]; rfl) ?_ | with_reducible refine wp_closeS (by simp -dsimp -implicitDefEqProofs [hd, hd2]; rfl) ?_ | with_reducible refine wp_close (by simp -dsimp -implicitDefEqProofs [hd, hd2]; rfl) ?_ | with_reducible refine wp_conc_out ?_ | with_reducible refine wp_open_out ?_ | with_reducible refine wp_pack_out ?_ | with_reducible refine wp_blockS ?_ | with_reducible refine wp_skip' ?_ | with_reducible refine wp_ret' ?_ | with_reducible refine wp_exit' ?_ | with_reducible refine wp_drop (wp_eqT (by simp -dsimp -implicitDefEqProofs [hd, hd2]; rfl) ?_) | with_reducible refine wp_block' ?_
          | with_reducible refine wp_condVS (by simp -dsimp -implicitDefEqProofs [hd, hd2]; rfl) ?_
          | with_reducible refine wp_condV (by simp -dsimp -implicitDefEqProofs [hd, hd2]; rfl) ?_
          | with_reducible refine cond_t ?_ | with_reducible refine cond_f ?_ | with_reducible refine cond_v (fun h => ?_) (fun h => ?_)
          | with_reducible refine post_then ?_ | with_reducible refine post_thenE ?_ | with_reducible refine post_thenP ?_ | with_reducible refine post_blkP ?_ | with_reducible refine post_thenR ?_ | with_reducible refine post_blkN ?_ | with_reducible refine post_blkE ?_ | with_reducible refine post_blkF rfl ?_ | with_reducible refine post_blkR ?_
          | with_reducible refine seg_eval (by simp -dsimp -implicitDefEqProofs [hd, hd2]; rfl) ?_
      all_goals first
        | omega
        | exact post_fin rfl rfl ⟨[], [], rfl, rfl, rfl, rfl⟩
        | trace_state
end Go.Proofs.Ytbponegjfccgfaa.Am
