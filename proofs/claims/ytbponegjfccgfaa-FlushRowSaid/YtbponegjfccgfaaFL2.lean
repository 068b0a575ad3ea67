/-
  MARKS IN A ROW: THE SAME ON BOTH SIDES.
-/
import Derived.Test.YtbponegjfccgfaaFL1
namespace Go.Proofs.Ytbponegjfccgfaa.Am
set_option linter.unusedSimpArgs false
set_option linter.unusedVariables false
open Go Go.Proofs
attribute [local irreducible] wpA
attribute [-simp] splice

noncomputable def spFlushRow : Spec := spc (X := Int × List Mk) (fun p => ([.v (.int .u16 p.1), .fsl 17 (p.2.map avMk)], []))
  (fun p => 0 ≤ p.1 ∧ p.1 < 65536 ∧ (∀ y ∈ p.2, okMk y) ∧ p.2.length ≤ maxLen) (fun _ => (.ret (.v (.bool true)), []))

set_option maxHeartbeats 40000000 in
theorem flushRow_ok : CallOk Try.prog 4 spFlushRow := by
  refine ok_4 (Env.put_ok [] (Env.put_ok [] (Env.put_ok [] (Env.put_ok [] (Env.put_ok [] (Env.put_ok [] (Env.put_ok [] (Env.none_ok _) alive13_ok) oursF_ok) (CallOk.fixD [.agg [.no, .k 17]] putF_ok)) (CallOk.fixD [.agg [.no, .k 17]] putFR_ok)) target_ok) targetR_ok) sameF_ok) spFlushRow (wb_spc ?_)
  rintro ⟨s, ms⟩ ⟨hs0, hs1, hms, hmx⟩
  simp only at hs0 hs1 hms hmx ⊢
  unfold ac_4
  repeat' first
      | with_reducible refine wp_regionS (seg_eval (by simp -dsimp -implicitDefEqProofs [spAlive]; rfl) ?_)
      | with_reducible refine wp_region (seg_eval (by simp -dsimp -implicitDefEqProofs [spAlive]; rfl) ?_)
      | with_reducible refine wp_drawsS (seg_eval (by simp -dsimp -implicitDefEqProofs [spAlive]; rfl) ?_)
      | with_reducible refine wp_draws (seg_eval (by simp -dsimp -implicitDefEqProofs [spAlive]; rfl) ?_)
      | with_reducible refine seg_fin ?_
      | with_reducible refine seg_pan ?_
      | with_reducible refine seg_both ?_ ?_
      | with_reducible refine seg_case (fun x h => ?_) (fun h => ?_)
      | with_reducible refine seg_gate (fun h => ?_) (fun h => ?_)
      | with_reducible refine seg_need ?_ ?_
      | with_reducible refine wp_assoc ?_ | with_reducible refine wp_skipS ?_ | with_reducible refine wp_retS ?_ | with_reducible refine wp_exitS ?_ | with_reducible refine wp_dropS (wp_eqT (by simp -dsimp -implicitDefEqProofs [spAlive]; rfl) ?_) | with_reducible refine wp_sealS (by simp -dsimp -implicitDefEqProofs [spAlive]; rfl) ?_ | with_reducible refine wp_seal (by simp -dsimp -implicitDefEqProofs [spAlive]; rfl) ?_ | with_reducible refine wp_closeS (by simp -dsimp -implicitDefEqProofs [spAlive]; rfl) ?_ | with_reducible refine wp_close (by simp -dsimp -implicitDefEqProofs [spAlive]; rfl) ?_ | with_reducible refine wp_conc_out ?_ | with_reducible refine wp_open_out ?_ | with_reducible refine wp_pack_out ?_ | with_reducible refine wp_blockS ?_ | with_reducible refine wp_skip' ?_ | with_reducible refine wp_ret' ?_ | with_reducible refine wp_exit' ?_ | with_reducible refine wp_drop (wp_eqT (by simp -dsimp -implicitDefEqProofs [spAlive]; rfl) ?_) | with_reducible refine wp_block' ?_
      | with_reducible refine wp_condVS (by simp -dsimp -implicitDefEqProofs [spAlive]; rfl) ?_
      | with_reducible refine wp_condV (by simp -dsimp -implicitDefEqProofs [spAlive]; rfl) ?_
      | with_reducible refine cond_t ?_ | with_reducible refine cond_f ?_ | with_reducible refine cond_v (fun h => ?_) (fun h => ?_)
      | with_reducible refine post_then ?_ | with_reducible refine post_thenE ?_ | with_reducible refine post_thenP ?_ | with_reducible refine post_blkP ?_ | with_reducible refine post_thenR ?_ | with_reducible refine post_blkN ?_ | with_reducible refine post_blkE ?_ | with_reducible refine post_blkF rfl ?_ | with_reducible refine post_blkR ?_
      | with_reducible refine seg_eval (by simp -dsimp -implicitDefEqProofs [spAlive]; rfl) ?_
  refine wp_loop' (fun j ts mm => ∃ (i : Nat) (l : List Mk), i + j = ms.length ∧ l.length ≤ i ∧ i ≤ 40 ∧ (∀ y ∈ l, okMk y) ∧
    ts = [(1, .fsl 17 (ms.map avMk)), (5, .ptr 0 0 0), (6, .ptr 1 0 0), (7, .v (.int .i64 i))] ∧
    ((l = [] ∧ mm = [.var [.v (.int .u16 s), .v (.slice none 0 0)], .var [.v (.int .u16 s), .v (.slice none 0 0)]]) ∨
     mm = [.var [.v (.int .u16 s), .fsl 17 (l.map avMk)], .var [.v (.int .u16 s), .fsl 17 (l.map avMk)]])) ms.length ?_ ?_
  · exact ⟨[], [0, 1], rfl, rfl, 0, [], by omega, by simp, by omega, by simp, by simp, .inl ⟨rfl, by simp⟩⟩
  · rintro j ts mm ⟨i, l, hi, hll, hi40, hok, rfl, hmm⟩
    have hml : ms.length ≤ 9223372036854775807 := by have := hmx; unfold maxLen at this; omega
    by_cases hlt : i < ms.length
    · have hd : decide ((i : Int) < (ms.length : Int)) = true := by rw [decide_eq_true_eq]; omega
      have hd2 : decide (i < ms.length) = true := by simp [hlt]
      by_cases h40 : i < 40
      · have hd4 : decide ((i : Int) < 40) = true := by rw [decide_eq_true_eq]; omega
        have hd5 : decide (i < 40) = true := by simp [h40]
        obtain ⟨x, hx⟩ : ∃ x, ms[i]? = some x := ⟨_, List.getElem?_eq_getElem (by omega)⟩
        have hm := hms x (List.mem_of_getElem? hx)
        have h64 : IntKind.wrap .i64 ((i : Int) + 1) = ((i + 1 : Nat) : Int) := by rw [IntWalk.i64_in _ (by omega)]; rfl
        obtain ⟨w, v⟩ := x
        have hvl : v.length = 16 := hm.2.2.1
        have hP := putFAt s l w v
        rw [if_pos ⟨hs0, hs1, by omega, hok, hm⟩] at hP
        have hpm : ∀ y ∈ (putF s.toNat l ⟨w, v⟩).1, okMk y := fun y hy => by
          rcases putF_mem hy with rfl | hy
          · exact hm
          · exact hok y hy
        have hpl := putF_len s.toNat l ⟨w, v⟩
        have hT := targetAt s (putF s.toNat l ⟨w, v⟩).1
        rw [if_pos ⟨hs0, hs1, by omega, hpm⟩] at hT
        have htl := (okV_target (s := s.toNat) hpm).1
        have heq := eqCells_16 htl htl
        rw [eqV_self] at heq
        have hC2 := convFAt s (putF s.toNat l ⟨w, v⟩).1
        rw [if_pos ⟨by omega, hpm⟩] at hC2
        have hS := sameFAt s (putF s.toNat l ⟨w, v⟩).1 s (putF s.toNat l ⟨w, v⟩).1
        rw [if_pos ⟨hs0, hs0, by omega, by omega, hpm, hpm⟩, sameF_iff.2 ⟨rfl, rfl⟩] at hS
        generalize (putF s.toNat l ⟨w, v⟩).1 = l' at *
        generalize (putF s.toNat l ⟨w, v⟩).2 = e at *
        generalize targetF s.toNat l' = t at *
        obtain ⟨t, b⟩ := t
        simp only at hT htl heq
        rcases hmm with ⟨rfl, rfl⟩ | rfl
        all_goals (
          try simp only [List.map_nil] at hP
          repeat' first
              | with_reducible refine wp_regionS (seg_eval (by simp -dsimp -implicitDefEqProofs [zV_rest, avMk, cMk, hd, hd2, hd4, hd5, h64, hx, hvl, hP, hC2, hT, hS, htl, heq]; rfl) ?_)
              | with_reducible refine wp_region (seg_eval (by simp -dsimp -implicitDefEqProofs [zV_rest, avMk, cMk, hd, hd2, hd4, hd5, h64, hx, hvl, hP, hC2, hT, hS, htl, heq]; rfl) ?_)
              | with_reducible refine wp_drawsS (seg_eval (by simp -dsimp -implicitDefEqProofs [zV_rest, avMk, cMk, hd, hd2, hd4, hd5, h64, hx, hvl, hP, hC2, hT, hS, htl, heq]; rfl) ?_)
              | with_reducible refine wp_draws (seg_eval (by simp -dsimp -implicitDefEqProofs [zV_rest, avMk, cMk, hd, hd2, hd4, hd5, h64, hx, hvl, hP, hC2, hT, hS, htl, heq]; rfl) ?_)
              | with_reducible refine seg_fin ?_
              | with_reducible refine seg_pan ?_
              | with_reducible refine seg_both ?_ ?_
              | with_reducible refine seg_case (fun x h => ?_) (fun h => ?_)
              | with_reducible refine seg_gate (fun h => ?_) (fun h => ?_)
              | with_reducible refine seg_need ?_ ?_
              | with_reducible refine wp_assoc ?_ | with_reducible refine wp_skipS ?_ | with_reducible refine wp_retS ?_ | with_reducible refine wp_exitS ?_ | with_reducible refine wp_dropS (wp_eqT (by simp -dsimp -implicitDefEqProofs [zV_rest, avMk, cMk, hd, hd2, hd4, hd5, h64, hx, hvl, hP, hC2, hT, hS, htl, heq]; rfl) ?_) | with_reducible refine wp_sealS (by simp -dsimp -implicitDefEqProofs [zV_rest, avMk, cMk, hd, hd2, hd4, hd5, h64, hx, hvl, hP, hC2, hT, hS, htl, heq]; rfl) ?_ | with_reducible refine wp_seal (by simp -dsimp -implicitDefEqProofs [zV_rest, avMk, cMk, hd, hd2, hd4, hd5, h64, hx, hvl, hP, hC2, hT, hS, htl, heq]; rfl) ?_ | with_reducible refine wp_closeS (by simp -dsimp -implicitDefEqProofs [zV_rest, avMk, cMk, hd, hd2, hd4, hd5, h64, hx, hvl, hP, hC2, hT, hS, htl, heq]; rfl) ?_ | with_reducible refine wp_close (by simp -dsimp -implicitDefEqProofs [zV_rest, avMk, cMk, hd, hd2, hd4, hd5, h64, hx, hvl, hP, hC2, hT, hS, htl, heq]; rfl) ?_ | with_reducible refine wp_conc_out ?_ | with_reducible refine wp_open_out ?_ | with_reducible refine wp_pack_out ?_ | with_reducible refine wp_blockS ?_ | with_reducible refine wp_skip' ?_ | with_reducible refine wp_ret' ?_ | with_reducible refine wp_exit' ?_ | with_reducible refine wp_drop (wp_eqT (by simp -dsimp -implicitDefEqProofs [zV_rest, avMk, cMk, hd, hd2, hd4, hd5, h64, hx, hvl, hP, hC2, hT, hS, htl, heq]; rfl) ?_) | with_reducible refine wp_block' ?_
              | with_reducible refine wp_condVS (by simp -dsimp -implicitDefEqProofs [zV_rest, avMk, cMk, hd, hd2, hd4, hd5, h64, hx, hvl, hP, hC2, hT, hS, htl, heq]; rfl) ?_
              | with_reducible refine wp_condV (by simp -dsimp -implicitDefEqProofs [zV_rest, avMk, cMk, hd, hd2, hd4, hd5, h64, hx, hvl, hP, hC2, hT, hS, htl, heq]; rfl) ?_
              | with_reducible refine cond_t ?_ | with_reducible refine cond_f ?_ | with_reducible refine cond_v (fun h => ?_) (fun h => ?_)
              | with_reducible refine post_then ?_ | with_reducible refine post_thenE ?_ | with_reducible refine post_thenP ?_ | with_reducible refine post_blkP ?_ | with_reducible refine post_thenR ?_ | with_reducible refine post_blkN ?_ | with_reducible refine post_blkE ?_ | with_reducible refine post_blkF rfl ?_ | with_reducible refine post_blkR ?_
              | with_reducible refine seg_eval (by simp -dsimp -implicitDefEqProofs [zV_rest, avMk, cMk, hd, hd2, hd4, hd5, h64, hx, hvl, hP, hC2, hT, hS, htl, heq]; rfl) ?_
          all_goals first
            | omega
            | exact ⟨j - 1, by omega, [], [0, 1], by simp, by simp, i + 1, l', by omega, by first | omega | (simp only [List.length_nil] at hpl; omega), by omega, hpm, by simp [avMk, cMk], .inr (by simp)⟩
            | trace_state)
      · have hd4 : decide ((i : Int) < 40) = false := by rw [decide_eq_false_iff_not]; omega
        have hd5 : decide (i < 40) = false := by simp; omega
        rcases hmm with ⟨rfl, rfl⟩ | rfl
        all_goals (
          repeat' first
              | with_reducible refine wp_regionS (seg_eval (by simp -dsimp -implicitDefEqProofs [hd, hd2, hd4, hd5]; rfl) ?_)
              | with_reducible refine wp_region (seg_eval (by simp -dsimp -implicitDefEqProofs [hd, hd2, hd4, hd5]; rfl) ?_)
              | with_reducible refine wp_drawsS (seg_eval (by simp -dsimp -implicitDefEqProofs [hd, hd2, hd4, hd5]; rfl) ?_)
              | with_reducible refine wp_draws (seg_eval (by simp -dsimp -implicitDefEqProofs [hd, hd2, hd4, hd5]; rfl) ?_)
              | with_reducible refine seg_fin ?_
              | with_reducible refine seg_pan ?_
              | with_reducible refine seg_both ?_ ?_
              | with_reducible refine seg_case (fun x h => ?_) (fun h => ?_)
              | with_reducible refine seg_gate (fun h => ?_) (fun h => ?_)
              | with_reducible refine seg_need ?_ ?_
              | with_reducible refine wp_assoc ?_ | with_reducible refine wp_skipS ?_ | with_reducible refine wp_retS ?_ | with_reducible refine wp_exitS ?_ | with_reducible refine wp_dropS (wp_eqT (by simp -dsimp -implicitDefEqProofs [hd, hd2, hd4, hd5]; rfl) ?_) | with_reducible refine wp_sealS (by simp -dsimp -implicitDefEqProofs [hd, hd2, hd4, hd5]; rfl) ?_ | with_reducible refine wp_seal (by simp -dsimp -implicitDefEqProofs [hd, hd2, hd4, hd5]; rfl) ?_ | with_reducible refine wp_closeS (by simp -dsimp -implicitDefEqProofs [hd, hd2, hd4, hd5]; rfl) ?_ | with_reducible refine wp_close (by simp -dsimp -implicitDefEqProofs [hd, hd2, hd4, hd5]; rfl) ?_ | with_reducible refine wp_conc_out ?_ | with_reducible refine wp_open_out ?_ | with_reducible refine wp_pack_out ?_ | with_reducible refine wp_blockS ?_ | with_reducible refine wp_skip' ?_ | with_reducible refine wp_ret' ?_ | with_reducible refine wp_exit' ?_ | with_reducible refine wp_drop (wp_eqT (by simp -dsimp -implicitDefEqProofs [hd, hd2, hd4, hd5]; rfl) ?_) | with_reducible refine wp_block' ?_
              | with_reducible refine wp_condVS (by simp -dsimp -implicitDefEqProofs [hd, hd2, hd4, hd5]; rfl) ?_
              | with_reducible refine wp_condV (by simp -dsimp -implicitDefEqProofs [hd, hd2, hd4, hd5]; rfl) ?_
              | with_reducible refine cond_t ?_ | with_reducible refine cond_f ?_ | with_reducible refine cond_v (fun h => ?_) (fun h => ?_)
              | with_reducible refine post_then ?_ | with_reducible refine post_thenE ?_ | with_reducible refine post_thenP ?_ | with_reducible refine post_blkP ?_ | with_reducible refine post_thenR ?_ | with_reducible refine post_blkN ?_ | with_reducible refine post_blkE ?_ | with_reducible refine post_blkF rfl ?_ | with_reducible refine post_blkR ?_
              | with_reducible refine seg_eval (by simp -dsimp -implicitDefEqProofs [hd, hd2, hd4, hd5]; rfl) ?_
          all_goals first
            | omega
            | exact post_fin rfl rfl ⟨[], [], rfl, rfl, rfl, rfl⟩
            | trace_state)
    · have hd : decide ((i : Int) < (ms.length : Int)) = false := by rw [decide_eq_false_iff_not]; omega
      have hd2 : decide (i < ms.length) = false := by simp [hlt]
      rcases hmm with ⟨rfl, rfl⟩ | rfl
      all_goals (
        repeat' first
            | with_reducible refine wp_regionS (seg_eval (by simp -dsimp -implicitDefEqProofs [hd, hd2]; rfl) ?_)
            | with_reducible refine wp_region (seg_eval (by simp -dsimp -implicitDefEqProofs [hd, hd2]; rfl) ?_)
            | with_reducible refine wp_drawsS (seg_eval (by simp -dsimp -implicitDefEqProofs [hd, hd2]; rfl) ?_)
            | with_reducible refine wp_draws (seg_eval (by simp -dsimp -implicitDefEqProofs [hd, hd2]; rfl) ?_)
            | with_reducible refine seg_fin ?_
            | with_reducible refine seg_pan ?_
            | with_reducible refine seg_both ?_ ?_
            | with_reducible refine seg_case (fun x h => ?_) (fun h => ?_)
            | with_reducible refine seg_gate (fun h => ?_) (fun h => ?_)
            | with_reducible refine seg_need ?_ ?_
            | with_reducible refine wp_assoc ?_ | with_reducible refine wp_skipS ?_ | with_reducible refine wp_retS ?_ | with_reducible refine wp_exitS ?_ | with_reducible refine wp_dropS (wp_eqT (by simp -dsimp -implicitDefEqProofs [hd, hd2]; rfl) ?_) | with_reducible refine wp_sealS (by simp -dsimp -implicitDefEqProofs [hd, hd2]; rfl) ?_ | with_reducible refine wp_seal (by simp -dsimp -implicitDefEqProofs [hd, hd2]; rfl) ?_ | with_reducible refine wp_closeS (by simp -dsimp -implicitDefEqProofs [hd, hd2]; rfl) ?_ | with_reducible refine wp_close (by simp -dsimp -implicitDefEqProofs [hd, hd2]; rfl) ?_ | with_reducible refine wp_conc_out ?_ | with_reducible refine wp_open_out ?_ | with_reducible refine wp_pack_out ?_ | with_reducible refine wp_blockS ?_ | with_reducible refine wp_skip' ?_ | with_reducible refine wp_ret' ?_ | with_reducible refine wp_exit' ?_ | with_reducible refine wp_drop (wp_eqT (by simp -dsimp -implicitDefEqProofs [hd, hd2]; rfl) ?_) | with_reducible refine wp_block' ?_
            | with_reducible refine wp_condVS (by simp -dsimp -implicitDefEqProofs [hd, hd2]; rfl) ?_
            | with_reducible refine wp_condV (by simp -dsimp -implicitDefEqProofs [hd, hd2]; rfl) ?_
            | with_reducible refine cond_t ?_ | with_reducible refine cond_f ?_ | with_reducible refine cond_v (fun h => ?_) (fun h => ?_)
            | with_reducible refine post_then ?_ | with_reducible refine post_thenE ?_ | with_reducible refine post_thenP ?_ | with_reducible refine post_blkP ?_ | with_reducible refine post_thenR ?_ | with_reducible refine post_blkN ?_ | with_reducible refine post_blkE ?_ | with_reducible refine post_blkF rfl ?_ | with_reducible refine post_blkR ?_
            | with_reducible refine seg_eval (by simp -dsimp -implicitDefEqProofs [hd, hd2]; rfl) ?_
        all_goals first
          | omega
          | exact post_fin rfl rfl ⟨[], [], rfl, rfl, rfl, rfl⟩
          | trace_state)
end Go.Proofs.Ytbponegjfccgfaa.Am
