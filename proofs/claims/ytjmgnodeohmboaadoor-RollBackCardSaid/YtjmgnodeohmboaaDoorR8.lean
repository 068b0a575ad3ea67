/-
  THE VIEWS FROM ONE ON (the document).
-/
import Derived.Test.YtjmgnodeohmboaaDoorR7
namespace Go.Proofs.YtjmgnodeohmboaaDoor.Am
set_option linter.unusedSimpArgs false
set_option linter.unusedVariables false
open Go Go.Proofs
attribute [local irreducible] wpA
attribute [-simp] splice

set_option maxHeartbeats 8000000 in
theorem pathR_ok : CallOk Tryd.prog 21 spPath := by
  refine okp_21 (Env.put_ok [] (Env.put_ok [] (Env.none_ok _) rollRightR_ok) applyR_ok) spPath (wb_spc ?_)
  rintro ⟨⟨v, m⟩, l⟩ ⟨hm, hll, hok⟩
  simp only [avRo] at hm hll hok ⊢
  have hm2 : (m : Int) < 65536 := by omega
  unfold acp_21
  cases hr : rightV v m
  · have e : pathV (v, m) l = [] := by unfold pathV; simp [hr]
    rw [e]
    repeat' with_reducible first
      | refine wp_regionS (seg_eval (by simp -dsimp -implicitDefEqProofs [spRightV, hr, hm2, Int.toNat_natCast]; rfl) ?_)
      | refine wp_region (seg_eval (by simp -dsimp -implicitDefEqProofs [spRightV, hr, hm2, Int.toNat_natCast]; rfl) ?_)
      | refine wp_drawsS (seg_eval (by simp -dsimp -implicitDefEqProofs [spRightV, hr, hm2, Int.toNat_natCast]; rfl) ?_)
      | refine wp_draws (seg_eval (by simp -dsimp -implicitDefEqProofs [spRightV, hr, hm2, Int.toNat_natCast]; rfl) ?_)
      | refine seg_fin ?_
      | refine seg_pan ?_
      | refine seg_both ?_ ?_
      | refine seg_case (fun x h => ?_) (fun h => ?_)
      | refine seg_gate (fun h => ?_) (fun h => ?_)
      | refine seg_need ?_ ?_
      | refine wp_assoc ?_ | refine wp_skipS ?_ | refine wp_retS ?_ | refine wp_exitS ?_ | refine wp_dropS (wp_eqT (by simp -dsimp -implicitDefEqProofs; rfl) ?_) | refine wp_sealS (by simp -dsimp -implicitDefEqProofs; rfl) ?_ | refine wp_seal (by simp -dsimp -implicitDefEqProofs; rfl) ?_ | refine wp_pack_out ?_ | refine wp_blockS ?_ | refine wp_skip' ?_ | refine wp_ret' ?_ | refine wp_exit' ?_ | refine wp_drop (wp_eqT (by simp -dsimp -implicitDefEqProofs; rfl) ?_) | refine wp_block' ?_
      | refine wp_condVS (by simp -dsimp -implicitDefEqProofs; rfl) ?_
      | refine wp_condV (by simp -dsimp -implicitDefEqProofs; rfl) ?_
      | refine cond_t ?_ | refine cond_f ?_ | refine cond_v (fun h => ?_) (fun h => ?_)
      | refine post_then ?_ | refine post_thenE ?_ | refine post_thenP ?_ | refine post_blkP ?_ | refine post_thenR ?_ | refine post_blkN ?_ | refine post_blkE ?_ | refine post_blkF rfl ?_ | refine post_blkR ?_
      | refine seg_eval (by simp -dsimp -implicitDefEqProofs [spRightV, hr, hm2, Int.toNat_natCast]; rfl) ?_
    exact post_finS rfl rfl (.nil 0 2) ⟨[], [], rfl, rfl, rfl, rfl⟩
  · have e : pathV (v, m) l = [(v, m)] ++ pathG (v, m) l := by unfold pathV; simp [hr]
    repeat' with_reducible first
      | refine wp_regionS (seg_eval (by simp -dsimp -implicitDefEqProofs [spRightV, hr, hm2, Int.toNat_natCast]; rfl) ?_)
      | refine wp_region (seg_eval (by simp -dsimp -implicitDefEqProofs [spRightV, hr, hm2, Int.toNat_natCast]; rfl) ?_)
      | refine wp_drawsS (seg_eval (by simp -dsimp -implicitDefEqProofs [spRightV, hr, hm2, Int.toNat_natCast]; rfl) ?_)
      | refine wp_draws (seg_eval (by simp -dsimp -implicitDefEqProofs [spRightV, hr, hm2, Int.toNat_natCast]; rfl) ?_)
      | refine seg_fin ?_
      | refine seg_pan ?_
      | refine seg_both ?_ ?_
      | refine seg_case (fun x h => ?_) (fun h => ?_)
      | refine seg_gate (fun h => ?_) (fun h => ?_)
      | refine seg_need ?_ ?_
      | refine wp_assoc ?_ | refine wp_skipS ?_ | refine wp_retS ?_ | refine wp_exitS ?_ | refine wp_dropS (wp_eqT (by simp -dsimp -implicitDefEqProofs; rfl) ?_) | refine wp_sealS (by simp -dsimp -implicitDefEqProofs; rfl) ?_ | refine wp_seal (by simp -dsimp -implicitDefEqProofs; rfl) ?_ | refine wp_pack_out ?_ | refine wp_blockS ?_ | refine wp_skip' ?_ | refine wp_ret' ?_ | refine wp_exit' ?_ | refine wp_drop (wp_eqT (by simp -dsimp -implicitDefEqProofs; rfl) ?_) | refine wp_block' ?_
      | refine wp_condVS (by simp -dsimp -implicitDefEqProofs; rfl) ?_
      | refine wp_condV (by simp -dsimp -implicitDefEqProofs; rfl) ?_
      | refine cond_t ?_ | refine cond_f ?_ | refine cond_v (fun h => ?_) (fun h => ?_)
      | refine post_then ?_ | refine post_thenE ?_ | refine post_thenP ?_ | refine post_blkP ?_ | refine post_thenR ?_ | refine post_blkN ?_ | refine post_blkE ?_ | refine post_blkF rfl ?_ | refine post_blkR ?_
      | refine seg_eval (by simp -dsimp -implicitDefEqProofs [spRightV, hr, hm2, Int.toNat_natCast]; rfl) ?_
    refine wp_loop' (fun j ts mm => ∃ (i : Nat) (pre : List (Int × Nat)) (cur : Int × Nat), i + j = l.length ∧ pre.length = i ∧ cur.2 < 65536 ∧ pathV (v, m) l = pre ++ [cur] ++ pathG cur (l.drop i) ∧
      ts = [(1, .fsl 2 (l.map avCh)), (2, .ptr 0 0 0), (5, .osl 1), (6, .v (.int .i64 i))] ∧ mm = [.var [.v (.int .i64 cur.1), .v (.int .u16 (cur.2 : Nat))], .arr 25 2 (pre.map avRo ++ [avRo cur])]) l.length ?_ ?_
    · first
        | exact ⟨[], [0, 2], rfl, rfl, 0, [], (v, m), by omega, rfl, hm, e, by simp, by simp [avRo]⟩
        | exact ⟨[], [0, 3], rfl, rfl, 0, [], (v, m), by omega, rfl, hm, e, by simp, by simp [avRo]⟩
        | trace_state
    · rintro j ts mm ⟨i, pre, cur, hi, hpl, hcm, hp, rfl, rfl⟩
      by_cases hlt : i < l.length
      · obtain ⟨x, hx⟩ : ∃ x, l[i]? = some x := ⟨_, List.getElem?_eq_getElem (by omega)⟩
        have hd : decide ((i : Int) < (l.length : Int)) = true := by rw [decide_eq_true_eq]; omega
        have hd2 : decide (i < l.length) = true := by simp [hlt]
        have h64 : IntKind.wrap .i64 ((i : Int) + 1) = ((i + 1 : Nat) : Int) := by rw [IntWalk.i64_in _ (by omega)]; rfl
        have hx0 := hok x (List.mem_of_getElem? hx)
        obtain ⟨a, d⟩ := x
        obtain ⟨d0, d1⟩ := hx0
        simp only at d0 d1
        obtain ⟨d, rfl⟩ := Int.eq_ofNat_of_zero_le d0
        obtain ⟨cv, cm⟩ := cur
        simp only at hcm
        have hcm2 : (cm : Int) < 65536 := by omega
        have hstep := pathG_at (r := (cv, cm)) hx
        simp only [Int.toNat_natCast] at hstep
        subst hpl
        have hul2 : pre.length + 1 ≤ 1000000 := by omega
        obtain ⟨⟨⟨nv, nm⟩, ne⟩, hn⟩ : ∃ n, n = applyV cv cm a d := ⟨_, rfl⟩
        have hnm : nm < 65536 := by have := applyV_lt (v := cv) (a := a) (i := d) hcm; rw [← hn] at this; exact this
        rw [← hn] at hstep
        simp only at hstep
        repeat' with_reducible first
          | refine wp_regionS (seg_eval (by simp -dsimp -implicitDefEqProofs [avCh, hd, hd2, hx]; rfl) ?_)
          | refine wp_region (seg_eval (by simp -dsimp -implicitDefEqProofs [avCh, hd, hd2, hx]; rfl) ?_)
          | refine seg_fin ?_
          | refine seg_pan ?_
          | refine seg_both ?_ ?_
          | refine seg_case (fun x h => ?_) (fun h => ?_)
          | refine seg_gate (fun h => ?_) (fun h => ?_)
          | refine seg_need ?_ ?_
          | refine wp_assoc ?_ | refine wp_skipS ?_ | refine wp_retS ?_ | refine wp_exitS ?_ | refine wp_dropS (wp_eqT (by simp -dsimp -implicitDefEqProofs; rfl) ?_) | refine wp_sealS (by simp -dsimp -implicitDefEqProofs; rfl) ?_ | refine wp_seal (by simp -dsimp -implicitDefEqProofs; rfl) ?_ | refine wp_pack_out ?_ | refine wp_blockS ?_ | refine wp_skip' ?_ | refine wp_ret' ?_ | refine wp_exit' ?_ | refine wp_drop (wp_eqT (by simp -dsimp -implicitDefEqProofs; rfl) ?_) | refine wp_block' ?_
          | refine wp_condVS (by simp -dsimp -implicitDefEqProofs; rfl) ?_
          | refine wp_condV (by simp -dsimp -implicitDefEqProofs; rfl) ?_
          | refine cond_t ?_ | refine cond_f ?_ | refine cond_v (fun h => ?_) (fun h => ?_)
          | refine post_then ?_ | refine post_thenE ?_ | refine post_thenP ?_ | refine post_blkP ?_ | refine post_thenR ?_ | refine post_blkN ?_ | refine post_blkE ?_ | refine post_blkF rfl ?_ | refine post_blkR ?_
          | refine seg_eval (by simp -dsimp -implicitDefEqProofs [avCh, hd, hd2, hx]; rfl) ?_
        refine wp_drawsR (fun ts mm => ts = [(1, .fsl 2 (l.map avCh)), (2, .ptr 0 0 0), (5, .osl 1), (6, .v (.int .i64 pre.length)), (7, .ptr 2 0 0), (8, .v (.int .i64 ne))] ∧ mm = [.var [.v (.int .i64 cv), .v (.int .u16 (cm : Nat))], .arr 25 2 (pre.map avRo ++ [avRo (cv, cm)]), .var [.v (.int .i64 nv), .v (.int .u16 (nm : Nat))]]) ?_ ?_
        · intro V hV
          repeat' with_reducible first
            | refine wp_regionS (seg_eval (by simp -dsimp -implicitDefEqProofs [avRo, avCh, spApplyV, hcm2, hx, hd2, d1, ← hn, Int.toNat_natCast]; rfl) ?_)
            | refine wp_region (seg_eval (by simp -dsimp -implicitDefEqProofs [avRo, avCh, spApplyV, hcm2, hx, hd2, d1, ← hn, Int.toNat_natCast]; rfl) ?_)
            | refine wp_drawsS (seg_eval (by simp -dsimp -implicitDefEqProofs [avRo, avCh, spApplyV, hcm2, hx, hd2, d1, ← hn, Int.toNat_natCast]; rfl) ?_)
            | refine wp_draws (seg_eval (by simp -dsimp -implicitDefEqProofs [avRo, avCh, spApplyV, hcm2, hx, hd2, d1, ← hn, Int.toNat_natCast]; rfl) ?_)
            | refine seg_fin ?_
            | refine seg_pan ?_
            | refine seg_both ?_ ?_
            | refine seg_case (fun x h => ?_) (fun h => ?_)
            | refine seg_gate (fun h => ?_) (fun h => ?_)
            | refine seg_need ?_ ?_
            | refine wp_assoc ?_ | refine wp_skipS ?_ | refine wp_retS ?_ | refine wp_exitS ?_ | refine wp_dropS (wp_eqT (by simp -dsimp -implicitDefEqProofs; rfl) ?_) | refine wp_sealS (by simp -dsimp -implicitDefEqProofs; rfl) ?_ | refine wp_seal (by simp -dsimp -implicitDefEqProofs; rfl) ?_ | refine wp_pack_out ?_ | refine wp_blockS ?_ | refine wp_skip' ?_ | refine wp_ret' ?_ | refine wp_exit' ?_ | refine wp_drop (wp_eqT (by simp -dsimp -implicitDefEqProofs; rfl) ?_) | refine wp_block' ?_
            | refine wp_condVS (by simp -dsimp -implicitDefEqProofs; rfl) ?_
            | refine wp_condV (by simp -dsimp -implicitDefEqProofs; rfl) ?_
            | refine cond_t ?_ | refine cond_f ?_ | refine cond_v (fun h => ?_) (fun h => ?_)
            | refine post_then ?_ | refine post_thenE ?_ | refine post_thenP ?_ | refine post_blkP ?_ | refine post_thenR ?_ | refine post_blkN ?_ | refine post_blkE ?_ | refine post_blkF rfl ?_ | refine post_blkR ?_
            | refine seg_eval (by simp -dsimp -implicitDefEqProofs [avRo, avCh, spApplyV, hcm2, hx, hd2, d1, ← hn, Int.toNat_natCast]; rfl) ?_
          all_goals first
            | omega
            | exact hV _ _ ⟨[], [0, 1, 2], rfl, rfl, by simp, by simp [avRo]⟩
            | trace_state
        · rintro ts mm ⟨rfl, rfl⟩
          by_cases hne : ne = 0
          · have c1 : (ne != 0) = false := by simp [hne]
            rw [if_pos hne] at hstep
            have hxc : (avRo (nv, nm)).shaped = true := by simp [avRo, AV.shaped, AV.one, Value.oneCell']
            simp only [avRo] at hxc
            have hp2 : pathV (v, m) l = pre ++ [(cv, cm)] ++ [(nv, nm)] ++ pathG (nv, nm) (l.drop (pre.length + 1)) := by rw [hp, hstep]; simp
            have hk : ((pre.length + 1 : Nat) : Int) = (pre.length : Int) + 1 := by omega
            repeat' with_reducible first
              | refine wp_regionS (seg_eval (by simp -dsimp -implicitDefEqProofs [c1, h64, hul2, hxc]; rfl) ?_)
              | refine wp_region (seg_eval (by simp -dsimp -implicitDefEqProofs [c1, h64, hul2, hxc]; rfl) ?_)
              | refine wp_drawsS (seg_eval (by simp -dsimp -implicitDefEqProofs [c1, h64, hul2, hxc]; rfl) ?_)
              | refine wp_draws (seg_eval (by simp -dsimp -implicitDefEqProofs [c1, h64, hul2, hxc]; rfl) ?_)
              | refine seg_fin ?_
              | refine seg_pan ?_
              | refine seg_both ?_ ?_
              | refine seg_case (fun x h => ?_) (fun h => ?_)
              | refine seg_gate (fun h => ?_) (fun h => ?_)
              | refine seg_need ?_ ?_
              | refine wp_assoc ?_ | refine wp_skipS ?_ | refine wp_retS ?_ | refine wp_exitS ?_ | refine wp_dropS (wp_eqT (by simp -dsimp -implicitDefEqProofs; rfl) ?_) | refine wp_sealS (by simp -dsimp -implicitDefEqProofs; rfl) ?_ | refine wp_seal (by simp -dsimp -implicitDefEqProofs; rfl) ?_ | refine wp_pack_out ?_ | refine wp_blockS ?_ | refine wp_skip' ?_ | refine wp_ret' ?_ | refine wp_exit' ?_ | refine wp_drop (wp_eqT (by simp -dsimp -implicitDefEqProofs; rfl) ?_) | refine wp_block' ?_
              | refine wp_condVS (by simp -dsimp -implicitDefEqProofs; rfl) ?_
              | refine wp_condV (by simp -dsimp -implicitDefEqProofs; rfl) ?_
              | refine cond_t ?_ | refine cond_f ?_ | refine cond_v (fun h => ?_) (fun h => ?_)
              | refine post_then ?_ | refine post_thenE ?_ | refine post_thenP ?_ | refine post_blkP ?_ | refine post_thenR ?_ | refine post_blkN ?_ | refine post_blkE ?_ | refine post_blkF rfl ?_ | refine post_blkR ?_
              | refine seg_eval (by simp -dsimp -implicitDefEqProofs [c1, h64, hul2, hxc]; rfl) ?_
            all_goals first
              | omega
              | exact ⟨j - 1, by omega, [], [0, 4], rfl, rfl, pre.length + 1, pre ++ [(cv, cm)], (nv, nm), by omega, by simp, hnm, hp2, by simp [hk], by simp [avRo]⟩
              | trace_state
          · have c1 : (ne != 0) = true := by simp [hne]
            rw [if_neg hne] at hstep
            rw [hstep] at hp
            simp only [List.append_nil] at hp
            have hr2 : (pathV (v, m) l).map avRo = pre.map avRo ++ [avRo (cv, cm)] := by rw [hp]; simp
            rw [hr2]
            repeat' with_reducible first
              | refine wp_regionS (seg_eval (by simp -dsimp -implicitDefEqProofs [c1]; rfl) ?_)
              | refine wp_region (seg_eval (by simp -dsimp -implicitDefEqProofs [c1]; rfl) ?_)
              | refine wp_drawsS (seg_eval (by simp -dsimp -implicitDefEqProofs [c1]; rfl) ?_)
              | refine wp_draws (seg_eval (by simp -dsimp -implicitDefEqProofs [c1]; rfl) ?_)
              | refine seg_fin ?_
              | refine seg_pan ?_
              | refine seg_both ?_ ?_
              | refine seg_case (fun x h => ?_) (fun h => ?_)
              | refine seg_gate (fun h => ?_) (fun h => ?_)
              | refine seg_need ?_ ?_
              | refine wp_assoc ?_ | refine wp_skipS ?_ | refine wp_retS ?_ | refine wp_exitS ?_ | refine wp_dropS (wp_eqT (by simp -dsimp -implicitDefEqProofs; rfl) ?_) | refine wp_sealS (by simp -dsimp -implicitDefEqProofs; rfl) ?_ | refine wp_seal (by simp -dsimp -implicitDefEqProofs; rfl) ?_ | refine wp_pack_out ?_ | refine wp_blockS ?_ | refine wp_skip' ?_ | refine wp_ret' ?_ | refine wp_exit' ?_ | refine wp_drop (wp_eqT (by simp -dsimp -implicitDefEqProofs; rfl) ?_) | refine wp_block' ?_
              | refine wp_condVS (by simp -dsimp -implicitDefEqProofs; rfl) ?_
              | refine wp_condV (by simp -dsimp -implicitDefEqProofs; rfl) ?_
              | refine cond_t ?_ | refine cond_f ?_ | refine cond_v (fun h => ?_) (fun h => ?_)
              | refine post_then ?_ | refine post_thenE ?_ | refine post_thenP ?_ | refine post_blkP ?_ | refine post_thenR ?_ | refine post_blkN ?_ | refine post_blkE ?_ | refine post_blkF rfl ?_ | refine post_blkR ?_
              | refine seg_eval (by simp -dsimp -implicitDefEqProofs [c1]; rfl) ?_
            all_goals first
              | omega
              | exact post_fin rfl rfl ⟨[1], [], rfl, rfl, rfl, rfl⟩
              | trace_state
      · have hd : decide ((i : Int) < (l.length : Int)) = false := by rw [decide_eq_false_iff_not]; omega
        have hd2 : decide (i < l.length) = false := by simp [hlt]
        have hil : l.drop i = [] := List.drop_eq_nil_of_le (by omega)
        rw [hil] at hp
        simp only [pathG, List.append_nil] at hp
        have hr2 : (pathV (v, m) l).map avRo = pre.map avRo ++ [avRo cur] := by rw [hp]; simp
        rw [hr2]
        repeat' with_reducible first
          | refine wp_regionS (seg_eval (by simp -dsimp -implicitDefEqProofs [hd, hd2]; rfl) ?_)
          | refine wp_region (seg_eval (by simp -dsimp -implicitDefEqProofs [hd, hd2]; rfl) ?_)
          | refine wp_drawsS (seg_eval (by simp -dsimp -implicitDefEqProofs [hd, hd2]; rfl) ?_)
          | refine wp_draws (seg_eval (by simp -dsimp -implicitDefEqProofs [hd, hd2]; rfl) ?_)
          | refine seg_fin ?_
          | refine seg_pan ?_
          | refine seg_both ?_ ?_
          | refine seg_case (fun x h => ?_) (fun h => ?_)
          | refine seg_gate (fun h => ?_) (fun h => ?_)
          | refine seg_need ?_ ?_
          | refine wp_assoc ?_ | refine wp_skipS ?_ | refine wp_retS ?_ | refine wp_exitS ?_ | refine wp_dropS (wp_eqT (by simp -dsimp -implicitDefEqProofs; rfl) ?_) | refine wp_sealS (by simp -dsimp -implicitDefEqProofs; rfl) ?_ | refine wp_seal (by simp -dsimp -implicitDefEqProofs; rfl) ?_ | refine wp_pack_out ?_ | refine wp_blockS ?_ | refine wp_skip' ?_ | refine wp_ret' ?_ | refine wp_exit' ?_ | refine wp_drop (wp_eqT (by simp -dsimp -implicitDefEqProofs; rfl) ?_) | refine wp_block' ?_
          | refine wp_condVS (by simp -dsimp -implicitDefEqProofs; rfl) ?_
          | refine wp_condV (by simp -dsimp -implicitDefEqProofs; rfl) ?_
          | refine cond_t ?_ | refine cond_f ?_ | refine cond_v (fun h => ?_) (fun h => ?_)
          | refine post_then ?_ | refine post_thenE ?_ | refine post_thenP ?_ | refine post_blkP ?_ | refine post_thenR ?_ | refine post_blkN ?_ | refine post_blkE ?_ | refine post_blkF rfl ?_ | refine post_blkR ?_
          | refine seg_eval (by simp -dsimp -implicitDefEqProofs [hd, hd2]; rfl) ?_
        all_goals first
          | omega
          | exact post_fin rfl rfl ⟨[1], [], rfl, rfl, rfl, rfl⟩
          | trace_state
end Go.Proofs.YtjmgnodeohmboaaDoor.Am
