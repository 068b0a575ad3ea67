/-
  The law RollPaths, as a contract.
-/
import Derived.Test.YtjmgnodeohmboaaDoorR8
namespace Go.Proofs.YtjmgnodeohmboaaDoor.Am
set_option linter.unusedSimpArgs false
set_option linter.unusedVariables false
open Go Go.Proofs
attribute [local irreducible] wpA
attribute [-simp] splice

noncomputable def spLawP : Spec := spc (X := (Int × Nat) × List (Bool × Int)) (fun p => ([avRo p.1, .fsl 2 (p.2.map avCh)], [])) (fun p => p.1.2 < 65536 ∧ (∀ y ∈ p.2, okCh y) ∧ p.2.length ≤ maxLen) (fun _ => (.ret (.v (.bool true)), []))

set_option maxHeartbeats 8000000 in
theorem rollPaths_ok : CallOk Tryd.prog 6 spLawP := by
  refine okp_6 (Env.put_ok [] (Env.put_ok [] (Env.put_ok [] (Env.put_ok [] (Env.none_ok _) alive_ok) changes_ok) path_ok) pathR_ok) spLawP (wb_spc ?_)
  rintro ⟨⟨v, m⟩, l⟩ ⟨hm, hok, hmx⟩
  simp only [avRo] at hm hok hmx ⊢
  unfold acp_6
  by_cases hl : l.length ≤ 100
  · have c1 : decide ((100 : Int) < (l.length : Int)) = false := by rw [decide_eq_false_iff_not]; omega
    have c2 : decide (100 < l.length) = false := by simp; omega
    have hl1 : l.length ≤ 1000000 := by omega
    have hl2 : l.length ≤ 1000 := by omega
    have hpl := pathV_len (v, m) l
    repeat' with_reducible first
      | refine wp_regionS (seg_eval (by simp -dsimp -implicitDefEqProofs [spYes, c1, c2]; rfl) ?_)
      | refine wp_region (seg_eval (by simp -dsimp -implicitDefEqProofs [spYes, c1, c2]; rfl) ?_)
      | refine seg_fin ?_
      | refine seg_pan ?_
      | refine seg_both ?_ ?_
      | refine seg_case (fun x h => ?_) (fun h => ?_)
      | refine seg_gate (fun h => ?_) (fun h => ?_)
      | refine seg_need ?_ ?_
      | refine wp_assoc ?_ | refine wp_skipS ?_ | refine wp_retS ?_ | refine wp_exitS ?_ | refine wp_dropS (wp_eqT (by simp -dsimp -implicitDefEqProofs; rfl) ?_) | refine wp_sealS (by simp -dsimp -implicitDefEqProofs; rfl) ?_ | refine wp_seal (by simp -dsimp -implicitDefEqProofs; rfl) ?_ | refine wp_pack_out ?_ | refine wp_blockS ?_ | refine wp_skip' ?_ | refine wp_ret' ?_ | refine wp_exit' ?_ | refine wp_drop (wp_eqT (by simp -dsimp -implicitDefEqProofs; rfl) ?_) | refine wp_block' ?_
      | refine wp_condVS (by simp -dsimp -implicitDefEqProofs; rfl) ?_
      | refine wp_condV (by simp -dsimp -implicitDefEqProofs; rfl) ?_
      | refine cond_t ?_ | refine cond_f ?_ | refine cond_v (fun h => ?_) (fun h => ?_)
      | refine post_then ?_ | refine post_thenE ?_ | refine post_thenP ?_ | refine post_blkP ?_ | refine post_thenR ?_ | refine post_blkN ?_ | refine post_blkE ?_ | refine post_blkF rfl ?_ | refine post_blkR ?_
      | refine seg_eval (by simp -dsimp -implicitDefEqProofs [spYes, c1, c2]; rfl) ?_
    refine wp_drawsR (fun ts mm => ts = [(5, .fsl 2 ((pathV (v, m) l).map avRo)), (6, .fsl 2 ((pathV (v, m) l).map avRo))] ∧ mm = []) ?_ ?_
    · intro W hW
      repeat' with_reducible first
        | refine wp_regionS (seg_eval (by simp -dsimp -implicitDefEqProofs [changesAt, pathAt, hm, hl1, hl2]; rfl) ?_)
        | refine wp_region (seg_eval (by simp -dsimp -implicitDefEqProofs [changesAt, pathAt, hm, hl1, hl2]; rfl) ?_)
        | refine wp_drawsS (seg_eval (by simp -dsimp -implicitDefEqProofs [changesAt, pathAt, hm, hl1, hl2]; rfl) ?_)
        | refine wp_draws (seg_eval (by simp -dsimp -implicitDefEqProofs [changesAt, pathAt, hm, hl1, hl2]; rfl) ?_)
        | refine seg_fin ?_
        | refine seg_pan ?_
        | refine seg_both ?_ ?_
        | refine seg_case (fun x h => ?_) (fun h => ?_)
        | refine seg_gate (fun h => ?_) (fun h => ?_)
        | refine seg_need ?_ ?_
        | refine wp_assoc ?_ | refine wp_skipS ?_ | refine wp_retS ?_ | refine wp_exitS ?_ | refine wp_dropS (wp_eqT (by simp -dsimp -implicitDefEqProofs; rfl) ?_) | refine wp_sealS (by simp -dsimp -implicitDefEqProofs; rfl) ?_ | refine wp_seal (by simp -dsimp -implicitDefEqProofs; rfl) ?_ | refine wp_pack_out ?_ | refine wp_blockS ?_ | refine wp_skip' ?_ | refine wp_ret' ?_ | refine wp_exit' ?_ | refine wp_drop (wp_eqT (by simp -dsimp -implicitDefEqProofs; rfl) ?_) | refine wp_block' ?_
        | refine wp_condVS (by simp -dsimp -implicitDefEqProofs; rfl) ?_
        | refine wp_condV (by simp -dsimp -implicitDefEqProofs; rfl) ?_
        | refine cond_t ?_ | refine cond_f ?_ | refine cond_v (fun h => ?_) (fun h => ?_)
        | refine post_then ?_ | refine post_thenE ?_ | refine post_thenP ?_ | refine post_blkP ?_ | refine post_thenR ?_ | refine post_blkN ?_ | refine post_blkE ?_ | refine post_blkF rfl ?_ | refine post_blkR ?_
        | refine seg_eval (by simp -dsimp -implicitDefEqProofs [changesAt, pathAt, hm, hl1, hl2]; rfl) ?_
      all_goals first
        | omega
        | exact ⟨fun b h => hok _ h, fun b h => hok _ h⟩
        | exact hW _ _ ⟨[], [], rfl, rfl, by simp, by simp⟩
        | trace_state
    · rintro ts mm ⟨rfl, rfl⟩
      obtain ⟨L, hL⟩ : ∃ L, L = pathV (v, m) l := ⟨_, rfl⟩
      rw [← hL] at hpl ⊢
      repeat' with_reducible first
        | refine wp_regionS (seg_eval (by simp -dsimp -implicitDefEqProofs; rfl) ?_)
        | refine wp_region (seg_eval (by simp -dsimp -implicitDefEqProofs; rfl) ?_)
        | refine seg_fin ?_
        | refine seg_pan ?_
        | refine seg_both ?_ ?_
        | refine seg_case (fun x h => ?_) (fun h => ?_)
        | refine seg_gate (fun h => ?_) (fun h => ?_)
        | refine seg_need ?_ ?_
        | refine wp_assoc ?_ | refine wp_skipS ?_ | refine wp_retS ?_ | refine wp_exitS ?_ | refine wp_dropS (wp_eqT (by simp -dsimp -implicitDefEqProofs; rfl) ?_) | refine wp_sealS (by simp -dsimp -implicitDefEqProofs; rfl) ?_ | refine wp_seal (by simp -dsimp -implicitDefEqProofs; rfl) ?_ | refine wp_pack_out ?_ | refine wp_blockS ?_ | refine wp_skip' ?_ | refine wp_ret' ?_ | refine wp_exit' ?_ | refine wp_drop (wp_eqT (by simp -dsimp -implicitDefEqProofs; rfl) ?_) | refine wp_block' ?_
        | refine wp_condVS (by simp -dsimp -implicitDefEqProofs; rfl) ?_
        | refine wp_condV (by simp -dsimp -implicitDefEqProofs; rfl) ?_
        | refine cond_t ?_ | refine cond_f ?_ | refine cond_v (fun h => ?_) (fun h => ?_)
        | refine post_then ?_ | refine post_thenE ?_ | refine post_thenP ?_ | refine post_blkP ?_ | refine post_thenR ?_ | refine post_blkN ?_ | refine post_blkE ?_ | refine post_blkF rfl ?_ | refine post_blkR ?_
        | refine seg_eval (by simp -dsimp -implicitDefEqProofs; rfl) ?_
      refine wp_loop' (fun j ts mm => ∃ i : Nat, i + j = L.length ∧ ts = [(5, .fsl 2 (L.map avRo)), (6, .fsl 2 (L.map avRo)), (26, .v (.int .i64 L.length)), (27, .v (.int .i64 i))] ∧ mm = []) L.length ?_ ?_
      · exact ⟨[], [], by simp, by simp, 0, by omega, by simp, by simp⟩
      · rintro j ts mm ⟨i, hi, rfl, rfl⟩
        by_cases hlt : i < L.length
        · obtain ⟨x, hx⟩ : ∃ x, L[i]? = some x := ⟨_, List.getElem?_eq_getElem (by omega)⟩
          have hd : decide ((i : Int) < (L.length : Int)) = true := by rw [decide_eq_true_eq]; omega
          have hd2 : decide (i < L.length) = true := by simp [hlt]
          have h64 : IntKind.wrap .i64 ((i : Int) + 1) = ((i + 1 : Nat) : Int) := by rw [IntWalk.i64_in _ (by omega)]; rfl
          repeat' with_reducible first
            | refine wp_regionS (seg_eval (by simp -dsimp -implicitDefEqProofs [avRo, hd, hd2, h64, hx]; rfl) ?_)
            | refine wp_region (seg_eval (by simp -dsimp -implicitDefEqProofs [avRo, hd, hd2, h64, hx]; rfl) ?_)
            | refine wp_drawsS (seg_eval (by simp -dsimp -implicitDefEqProofs [avRo, hd, hd2, h64, hx]; rfl) ?_)
            | refine wp_draws (seg_eval (by simp -dsimp -implicitDefEqProofs [avRo, hd, hd2, h64, hx]; rfl) ?_)
            | refine seg_fin ?_
            | refine seg_pan ?_
            | refine seg_both ?_ ?_
            | refine seg_case (fun x h => ?_) (fun h => ?_)
            | refine seg_gate (fun h => ?_) (fun h => ?_)
            | refine seg_need ?_ ?_
            | refine wp_assoc ?_ | refine wp_skipS ?_ | refine wp_retS ?_ | refine wp_exitS ?_ | refine wp_dropS (wp_eqT (by simp -dsimp -implicitDefEqProofs; rfl) ?_) | refine wp_sealS (by simp -dsimp -implicitDefEqProofs; rfl) ?_ | refine wp_seal (by simp -dsimp -implicitDefEqProofs; rfl) ?_ | refine wp_pack_out ?_ | refine wp_blockS ?_ | refine wp_skip' ?_ | refine wp_ret' ?_ | refine wp_exit' ?_ | refine wp_drop (wp_eqT (by simp -dsimp -implicitDefEqProofs; rfl) ?_) | refine wp_block' ?_
            | refine wp_condVS (by simp -dsimp -implicitDefEqProofs; rfl) ?_
            | refine wp_condV (by simp -dsimp -implicitDefEqProofs; rfl) ?_
            | refine cond_t ?_ | refine cond_f ?_ | refine cond_v (fun h => ?_) (fun h => ?_)
            | refine post_then ?_ | refine post_thenE ?_ | refine post_thenP ?_ | refine post_blkP ?_ | refine post_thenR ?_ | refine post_blkN ?_ | refine post_blkE ?_ | refine post_blkF rfl ?_ | refine post_blkR ?_
            | refine seg_eval (by simp -dsimp -implicitDefEqProofs [avRo, hd, hd2, h64, hx]; rfl) ?_
          all_goals first
            | omega
            | exact ⟨j - 1, by omega, [], [], by simp, by simp, i + 1, by omega, by simp [avRo], by simp⟩
            | trace_state
        · have hd : decide ((i : Int) < (L.length : Int)) = false := by rw [decide_eq_false_iff_not]; omega
          have hd2 : decide (i < L.length) = false := by simp [hlt]
          repeat' with_reducible first
            | refine wp_regionS (seg_eval (by simp -dsimp -implicitDefEqProofs [hd, hd2]; rfl) ?_)
            | refine wp_region (seg_eval (by simp -dsimp -implicitDefEqProofs [hd, hd2]; rfl) ?_)
            | refine wp_drawsS (seg_eval (by simp -dsimp -implicitDefEqProofs [hd, hd2]; rfl) ?_)
            | refine wp_draws (seg_eval (by simp -dsimp -implicitDefEqProofs [hd, hd2]; rfl) ?_)
            | refine seg_fin ?_
            | refine seg_pan ?_
            | refine seg_both ?_ ?_
            | refine seg_case (fun x h => ?_) (fun h => ?_)
            | refine seg_gate (fun h => ?_) (fun h => ?_)
            | refine seg_need ?_ ?_
            | refine wp_assoc ?_ | refine wp_skipS ?_ | refine wp_retS ?_ | refine wp_exitS ?_ | refine wp_dropS (wp_eqT (by simp -dsimp -implicitDefEqProofs; rfl) ?_) | refine wp_sealS (by simp -dsimp -implicitDefEqProofs; rfl) ?_ | refine wp_seal (by simp -dsimp -implicitDefEqProofs; rfl) ?_ | refine wp_pack_out ?_ | refine wp_blockS ?_ | refine wp_skip' ?_ | refine wp_ret' ?_ | refine wp_exit' ?_ | refine wp_drop (wp_eqT (by simp -dsimp -implicitDefEqProofs; rfl) ?_) | refine wp_block' ?_
            | refine wp_condVS (by simp -dsimp -implicitDefEqProofs; rfl) ?_
            | refine wp_condV (by simp -dsimp -implicitDefEqProofs; rfl) ?_
            | refine cond_t ?_ | refine cond_f ?_ | refine cond_v (fun h => ?_) (fun h => ?_)
            | refine post_then ?_ | refine post_thenE ?_ | refine post_thenP ?_ | refine post_blkP ?_ | refine post_thenR ?_ | refine post_blkN ?_ | refine post_blkE ?_ | refine post_blkF rfl ?_ | refine post_blkR ?_
            | refine seg_eval (by simp -dsimp -implicitDefEqProofs [hd, hd2]; rfl) ?_
          all_goals first
            | omega
            | exact post_fin rfl rfl ⟨[], [], rfl, rfl, rfl, rfl⟩
            | trace_state
  · have c1 : decide ((100 : Int) < (l.length : Int)) = true := by rw [decide_eq_true_eq]; omega
    have c2 : decide (100 < l.length) = true := by simp; omega
    repeat' with_reducible first
      | refine wp_regionS (seg_eval (by simp -dsimp -implicitDefEqProofs [spYes, c1, c2]; rfl) ?_)
      | refine wp_region (seg_eval (by simp -dsimp -implicitDefEqProofs [spYes, c1, c2]; rfl) ?_)
      | refine wp_drawsS (seg_eval (by simp -dsimp -implicitDefEqProofs [spYes, c1, c2]; rfl) ?_)
      | refine wp_draws (seg_eval (by simp -dsimp -implicitDefEqProofs [spYes, c1, c2]; rfl) ?_)
      | refine seg_fin ?_
      | refine seg_pan ?_
      | refine seg_both ?_ ?_
      | refine seg_case (fun x h => ?_) (fun h => ?_)
      | refine seg_gate (fun h => ?_) (fun h => ?_)
      | refine seg_need ?_ ?_
      | refine wp_assoc ?_ | refine wp_skipS ?_ | refine wp_retS ?_ | refine wp_exitS ?_ | refine wp_dropS (wp_eqT (by simp -dsimp -implicitDefEqProofs; rfl) ?_) | refine wp_sealS (by simp -dsimp -implicitDefEqProofs; rfl) ?_ | refine wp_seal (by simp -dsimp -implicitDefEqProofs; rfl) ?_ | refine wp_pack_out ?_ | refine wp_blockS ?_ | refine wp_skip' ?_ | refine wp_ret' ?_ | refine wp_exit' ?_ | refine wp_drop (wp_eqT (by simp -dsimp -implicitDefEqProofs; rfl) ?_) | refine wp_block' ?_
      | refine wp_condVS (by simp -dsimp -implicitDefEqProofs; rfl) ?_
      | refine wp_condV (by simp -dsimp -implicitDefEqProofs; rfl) ?_
      | refine cond_t ?_ | refine cond_f ?_ | refine cond_v (fun h => ?_) (fun h => ?_)
      | refine post_then ?_ | refine post_thenE ?_ | refine post_thenP ?_ | refine post_blkP ?_ | refine post_thenR ?_ | refine post_blkN ?_ | refine post_blkE ?_ | refine post_blkF rfl ?_ | refine post_blkR ?_
      | refine seg_eval (by simp -dsimp -implicitDefEqProofs [spYes, c1, c2]; rfl) ?_
    all_goals first
      | omega
      | exact post_fin rfl rfl ⟨[], [], rfl, rfl, rfl, rfl⟩
      | trace_state
end Go.Proofs.YtjmgnodeohmboaaDoor.Am
