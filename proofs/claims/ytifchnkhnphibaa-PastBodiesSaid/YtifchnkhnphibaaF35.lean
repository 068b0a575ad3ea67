import Derived.Test.YtifchnkhnphibaaF34
namespace Go.Proofs.Ytifchnkhnphibaa.Am
set_option linter.unusedSimpArgs false
set_option linter.unusedVariables false
open Go Go.Proofs
attribute [local irreducible] wpA
attribute [-simp] splice

/-! ### The laws over bodies -/
def spPRights : Spec
  | [.agg cs, .v (.int .u8 from_), .v (.int .i64 _)], [] => (unB cs).bind fun b => if okV b.2.1 ∧ 0 ≤ from_ then some (.ret (.v (.bool true)), []) else none
  | _, _ => none

theorem dec1000 (n : Nat) : decide ((1000 : Int) < (n : Int)) = decide (1000 < n) := by rw [Bool.eq_iff_iff]; simp only [decide_eq_true_eq]; omega

set_option maxHeartbeats 4000000 in
theorem pastRights_ok : CallOk Try.prog 7 spPRights := by
  refine ok_7 E34_ok spPRights fun args mem r mem1 h => ?_
  unfold spPRights at h
  split at h
  case h_2 => cases h
  rename_i cs from_ seq
  obtain ⟨⟨k, v, t⟩, hb, h1⟩ := Option.bind_eq_some_iff.1 h
  have := bdy_bc hb
  subst this
  clear hb h
  obtain ⟨⟨hv, hf⟩, h2⟩ := if_some h1
  clear h1
  cases h2
  simp only at hv ⊢
  have hvl := hv.1
  obtain ⟨i, rfl⟩ := Int.eq_ofNat_of_zero_le hf
  unfold ac_7
  cases hbig : decide (1000 < t.size) with
  | true =>
    repeat' first
        | with_reducible refine wp_regionS (seg_eval (by simp -dsimp -implicitDefEqProofs [hvl, hv, dec1000, hbig]; rfl) ?_)
        | with_reducible refine wp_region (seg_eval (by simp -dsimp -implicitDefEqProofs [hvl, hv, dec1000, hbig]; rfl) ?_)
        | with_reducible refine wp_drawsS (seg_eval (by simp -dsimp -implicitDefEqProofs [hvl, hv, dec1000, hbig]; rfl) ?_)
        | with_reducible refine wp_draws (seg_eval (by simp -dsimp -implicitDefEqProofs [hvl, hv, dec1000, hbig]; rfl) ?_)
        | with_reducible refine seg_fin ?_
        | with_reducible refine seg_pan ?_
        | with_reducible refine seg_both ?_ ?_
        | with_reducible refine seg_case (fun x h => ?_) (fun h => ?_)
        | with_reducible refine seg_gate (fun h => ?_) (fun h => ?_)
        | with_reducible refine seg_need ?_ ?_
        | with_reducible refine wp_assoc ?_ | with_reducible refine wp_skipS ?_ | with_reducible refine wp_retS ?_ | with_reducible refine wp_exitS ?_ | with_reducible refine wp_dropS (wp_eqT (by simp -dsimp -implicitDefEqProofs [hvl, hv, dec1000, hbig]; rfl) ?_) | with_reducible refine wp_sealS (by simp -dsimp -implicitDefEqProofs [hvl, hv, dec1000, hbig]; rfl) ?_ | with_reducible refine wp_seal (by simp -dsimp -implicitDefEqProofs [hvl, hv, dec1000, hbig]; rfl) ?_ | with_reducible refine wp_blockS ?_ | with_reducible refine wp_skip' ?_ | with_reducible refine wp_ret' ?_ | with_reducible refine wp_exit' ?_ | with_reducible refine wp_drop (wp_eqT (by simp -dsimp -implicitDefEqProofs [hvl, hv, dec1000, hbig]; rfl) ?_) | with_reducible refine wp_block' ?_
        | with_reducible refine wp_condVS (by simp -dsimp -implicitDefEqProofs [hvl, hv, dec1000, hbig]; rfl) ?_
        | with_reducible refine wp_condV (by simp -dsimp -implicitDefEqProofs [hvl, hv, dec1000, hbig]; rfl) ?_
        | with_reducible refine cond_t ?_ | with_reducible refine cond_f ?_ | with_reducible refine cond_v (fun h => ?_) (fun h => ?_)
        | with_reducible refine post_then ?_ | with_reducible refine post_thenE ?_ | with_reducible refine post_thenP ?_ | with_reducible refine post_blkP ?_ | with_reducible refine post_thenR ?_ | with_reducible refine post_blkN ?_ | with_reducible refine post_blkE ?_ | with_reducible refine post_blkF rfl ?_ | with_reducible refine post_blkR ?_
        | with_reducible refine seg_eval (by simp -dsimp -implicitDefEqProofs [hvl, hv, dec1000, hbig]; rfl) ?_
    all_goals first
      | omega
      | exact post_fin rfl rfl ⟨[], [], rfl, rfl, rfl, rfl⟩
      | trace_state
  | false =>
    cases hm : mayB ⟨k, v, t⟩ with
    | false =>
      have e1 : bdE ⟨k, v, t⟩ = 2 := by simp [bdE, hm]
      have e2 : rightP k v t i seq = false := by simp [rightP, hm]
      repeat' first
          | with_reducible refine wp_regionS (seg_eval (by simp -dsimp -implicitDefEqProofs [hvl, hv, dec1000, hbig, e1, e2]; rfl) ?_)
          | with_reducible refine wp_region (seg_eval (by simp -dsimp -implicitDefEqProofs [hvl, hv, dec1000, hbig, e1, e2]; rfl) ?_)
          | with_reducible refine wp_drawsS (seg_eval (by simp -dsimp -implicitDefEqProofs [hvl, hv, dec1000, hbig, e1, e2]; rfl) ?_)
          | with_reducible refine wp_draws (seg_eval (by simp -dsimp -implicitDefEqProofs [hvl, hv, dec1000, hbig, e1, e2]; rfl) ?_)
          | with_reducible refine seg_fin ?_
          | with_reducible refine seg_pan ?_
          | with_reducible refine seg_both ?_ ?_
          | with_reducible refine seg_case (fun x h => ?_) (fun h => ?_)
          | with_reducible refine seg_gate (fun h => ?_) (fun h => ?_)
          | with_reducible refine seg_need ?_ ?_
          | with_reducible refine wp_assoc ?_ | with_reducible refine wp_skipS ?_ | with_reducible refine wp_retS ?_ | with_reducible refine wp_exitS ?_ | with_reducible refine wp_dropS (wp_eqT (by simp -dsimp -implicitDefEqProofs [hvl, hv, dec1000, hbig, e1, e2]; rfl) ?_) | with_reducible refine wp_sealS (by simp -dsimp -implicitDefEqProofs [hvl, hv, dec1000, hbig, e1, e2]; rfl) ?_ | with_reducible refine wp_seal (by simp -dsimp -implicitDefEqProofs [hvl, hv, dec1000, hbig, e1, e2]; rfl) ?_ | with_reducible refine wp_blockS ?_ | with_reducible refine wp_skip' ?_ | with_reducible refine wp_ret' ?_ | with_reducible refine wp_exit' ?_ | with_reducible refine wp_drop (wp_eqT (by simp -dsimp -implicitDefEqProofs [hvl, hv, dec1000, hbig, e1, e2]; rfl) ?_) | with_reducible refine wp_block' ?_
          | with_reducible refine wp_condVS (by simp -dsimp -implicitDefEqProofs [hvl, hv, dec1000, hbig, e1, e2]; rfl) ?_
          | with_reducible refine wp_condV (by simp -dsimp -implicitDefEqProofs [hvl, hv, dec1000, hbig, e1, e2]; rfl) ?_
          | with_reducible refine cond_t ?_ | with_reducible refine cond_f ?_ | with_reducible refine cond_v (fun h => ?_) (fun h => ?_)
          | with_reducible refine post_then ?_ | with_reducible refine post_thenE ?_ | with_reducible refine post_thenP ?_ | with_reducible refine post_blkP ?_ | with_reducible refine post_thenR ?_ | with_reducible refine post_blkN ?_ | with_reducible refine post_blkE ?_ | with_reducible refine post_blkF rfl ?_ | with_reducible refine post_blkR ?_
          | with_reducible refine seg_eval (by simp -dsimp -implicitDefEqProofs [hvl, hv, dec1000, hbig, e1, e2]; rfl) ?_
      all_goals first
        | omega
        | exact post_fin rfl rfl ⟨[], [], rfl, rfl, rfl, rfl⟩
        | trace_state
    | true =>
      have e1 : bdE ⟨k, v, t⟩ = 0 := by simp [bdE, hm]
      by_cases hlt : i < 16
      · obtain ⟨x, hx⟩ : ∃ x, v[i]? = some x := ⟨_, List.getElem?_eq_getElem (by omega)⟩
        have hxd : v.getD i 0 = x := by simp [List.getD, hx]
        have hx6 := okV_at hv hx
        have hgx := bc_at (k := k) (t := t) hx
        have hlt16 : 1 + i + 1 ≤ 18 := by omega
        have hd2 : decide (i < 16) = true := by simp [hlt]
        have hd3 : decide ((i : Int) < 16) = true := by rw [decide_eq_true_eq]; omega
        have w6 : IntKind.wrap .i64 (x : Int) = (x : Int) := IntWalk.i64_in _ (by omega)
        have hmod : ((i : Int).tmod 16) = (i : Int) := by rw [Int.tmod_eq_emod_of_nonneg (by omega)]; omega
        have hmod' : ((i : Int) % 16) = (i : Int) := by omega
        have e2 : rightP k v t i seq = ((x : Int) == seq) := by simp only [rightP, hm, hd3, Int.toNat_natCast, hxd, Bool.true_and]
        have e3 : ((seq == (x : Int)) : Bool) = ((x : Int) == seq) := by rw [Bool.eq_iff_iff]; simp only [beq_iff_eq]; exact eq_comm
        repeat' first
            | with_reducible refine wp_regionS (seg_eval (by simp -dsimp -implicitDefEqProofs [hvl, hv, dec1000, hbig, e1, e2, hd2, hd3, hmod, hmod', hgx, hlt16, hlt, w6, e3]; rfl) ?_)
            | with_reducible refine wp_region (seg_eval (by simp -dsimp -implicitDefEqProofs [hvl, hv, dec1000, hbig, e1, e2, hd2, hd3, hmod, hmod', hgx, hlt16, hlt, w6, e3]; rfl) ?_)
            | with_reducible refine wp_drawsS (seg_eval (by simp -dsimp -implicitDefEqProofs [hvl, hv, dec1000, hbig, e1, e2, hd2, hd3, hmod, hmod', hgx, hlt16, hlt, w6, e3]; rfl) ?_)
            | with_reducible refine wp_draws (seg_eval (by simp -dsimp -implicitDefEqProofs [hvl, hv, dec1000, hbig, e1, e2, hd2, hd3, hmod, hmod', hgx, hlt16, hlt, w6, e3]; rfl) ?_)
            | with_reducible refine seg_fin ?_
            | with_reducible refine seg_pan ?_
            | with_reducible refine seg_both ?_ ?_
            | with_reducible refine seg_case (fun x h => ?_) (fun h => ?_)
            | with_reducible refine seg_gate (fun h => ?_) (fun h => ?_)
            | with_reducible refine seg_need ?_ ?_
            | with_reducible refine wp_assoc ?_ | with_reducible refine wp_skipS ?_ | with_reducible refine wp_retS ?_ | with_reducible refine wp_exitS ?_ | with_reducible refine wp_dropS (wp_eqT (by simp -dsimp -implicitDefEqProofs [hvl, hv, dec1000, hbig, e1, e2, hd2, hd3, hmod, hmod', hgx, hlt16, hlt, w6, e3]; rfl) ?_) | with_reducible refine wp_sealS (by simp -dsimp -implicitDefEqProofs [hvl, hv, dec1000, hbig, e1, e2, hd2, hd3, hmod, hmod', hgx, hlt16, hlt, w6, e3]; rfl) ?_ | with_reducible refine wp_seal (by simp -dsimp -implicitDefEqProofs [hvl, hv, dec1000, hbig, e1, e2, hd2, hd3, hmod, hmod', hgx, hlt16, hlt, w6, e3]; rfl) ?_ | with_reducible refine wp_blockS ?_ | with_reducible refine wp_skip' ?_ | with_reducible refine wp_ret' ?_ | with_reducible refine wp_exit' ?_ | with_reducible refine wp_drop (wp_eqT (by simp -dsimp -implicitDefEqProofs [hvl, hv, dec1000, hbig, e1, e2, hd2, hd3, hmod, hmod', hgx, hlt16, hlt, w6, e3]; rfl) ?_) | with_reducible refine wp_block' ?_
            | with_reducible refine wp_condVS (by simp -dsimp -implicitDefEqProofs [hvl, hv, dec1000, hbig, e1, e2, hd2, hd3, hmod, hmod', hgx, hlt16, hlt, w6, e3]; rfl) ?_
            | with_reducible refine wp_condV (by simp -dsimp -implicitDefEqProofs [hvl, hv, dec1000, hbig, e1, e2, hd2, hd3, hmod, hmod', hgx, hlt16, hlt, w6, e3]; rfl) ?_
            | with_reducible refine cond_t ?_ | with_reducible refine cond_f ?_ | with_reducible refine cond_v (fun h => ?_) (fun h => ?_)
            | with_reducible refine post_then ?_ | with_reducible refine post_thenE ?_ | with_reducible refine post_thenP ?_ | with_reducible refine post_blkP ?_ | with_reducible refine post_thenR ?_ | with_reducible refine post_blkN ?_ | with_reducible refine post_blkE ?_ | with_reducible refine post_blkF rfl ?_ | with_reducible refine post_blkR ?_
            | with_reducible refine seg_eval (by simp -dsimp -implicitDefEqProofs [hvl, hv, dec1000, hbig, e1, e2, hd2, hd3, hmod, hmod', hgx, hlt16, hlt, w6, e3]; rfl) ?_
        all_goals first
          | omega
          | (refine post_bool rfl ?_; simp)
          | trace_state
      · have hd2 : decide (i < 16) = false := by simp [hlt]
        have hd3 : decide ((i : Int) < 16) = false := by rw [decide_eq_false_iff_not]; omega
        have e2 : rightP k v t i seq = false := by simp only [rightP, hd3, Bool.false_and, Bool.and_false]
        repeat' first
            | with_reducible refine wp_regionS (seg_eval (by simp -dsimp -implicitDefEqProofs [hvl, hv, dec1000, hbig, e1, e2, hd2, hd3]; rfl) ?_)
            | with_reducible refine wp_region (seg_eval (by simp -dsimp -implicitDefEqProofs [hvl, hv, dec1000, hbig, e1, e2, hd2, hd3]; rfl) ?_)
            | with_reducible refine wp_drawsS (seg_eval (by simp -dsimp -implicitDefEqProofs [hvl, hv, dec1000, hbig, e1, e2, hd2, hd3]; rfl) ?_)
            | with_reducible refine wp_draws (seg_eval (by simp -dsimp -implicitDefEqProofs [hvl, hv, dec1000, hbig, e1, e2, hd2, hd3]; rfl) ?_)
            | with_reducible refine seg_fin ?_
            | with_reducible refine seg_pan ?_
            | with_reducible refine seg_both ?_ ?_
            | with_reducible refine seg_case (fun x h => ?_) (fun h => ?_)
            | with_reducible refine seg_gate (fun h => ?_) (fun h => ?_)
            | with_reducible refine seg_need ?_ ?_
            | with_reducible refine wp_assoc ?_ | with_reducible refine wp_skipS ?_ | with_reducible refine wp_retS ?_ | with_reducible refine wp_exitS ?_ | with_reducible refine wp_dropS (wp_eqT (by simp -dsimp -implicitDefEqProofs [hvl, hv, dec1000, hbig, e1, e2, hd2, hd3]; rfl) ?_) | with_reducible refine wp_sealS (by simp -dsimp -implicitDefEqProofs [hvl, hv, dec1000, hbig, e1, e2, hd2, hd3]; rfl) ?_ | with_reducible refine wp_seal (by simp -dsimp -implicitDefEqProofs [hvl, hv, dec1000, hbig, e1, e2, hd2, hd3]; rfl) ?_ | with_reducible refine wp_blockS ?_ | with_reducible refine wp_skip' ?_ | with_reducible refine wp_ret' ?_ | with_reducible refine wp_exit' ?_ | with_reducible refine wp_drop (wp_eqT (by simp -dsimp -implicitDefEqProofs [hvl, hv, dec1000, hbig, e1, e2, hd2, hd3]; rfl) ?_) | with_reducible refine wp_block' ?_
            | with_reducible refine wp_condVS (by simp -dsimp -implicitDefEqProofs [hvl, hv, dec1000, hbig, e1, e2, hd2, hd3]; rfl) ?_
            | with_reducible refine wp_condV (by simp -dsimp -implicitDefEqProofs [hvl, hv, dec1000, hbig, e1, e2, hd2, hd3]; rfl) ?_
            | with_reducible refine cond_t ?_ | with_reducible refine cond_f ?_ | with_reducible refine cond_v (fun h => ?_) (fun h => ?_)
            | with_reducible refine post_then ?_ | with_reducible refine post_thenE ?_ | with_reducible refine post_thenP ?_ | with_reducible refine post_blkP ?_ | with_reducible refine post_thenR ?_ | with_reducible refine post_blkN ?_ | with_reducible refine post_blkE ?_ | with_reducible refine post_blkF rfl ?_ | with_reducible refine post_blkR ?_
            | with_reducible refine seg_eval (by simp -dsimp -implicitDefEqProofs [hvl, hv, dec1000, hbig, e1, e2, hd2, hd3]; rfl) ?_
        all_goals first
          | omega
          | exact post_fin rfl rfl ⟨[], [], rfl, rfl, rfl, rfl⟩
          | trace_state

def spPBodies : Spec
  | [.agg cs, .agg [.v (.int .i64 _), .v (.int .u8 from_), .v (.int .i64 _)], .v (.string _)], [] => (unB cs).bind fun b => if okV b.2.1 ∧ 0 ≤ from_ then some (.ret (.v (.bool true)), []) else none
  | _, _ => none

theorem beq_self_bytes (s : ByteArray) : (s == s) = true := (beq_bytes _ _).2 rfl
theorem bne_self_bytes (s : ByteArray) : (s != s) = false := by rw [bne, beq_self_bytes]; rfl

set_option maxHeartbeats 8000000 in
theorem pastBodies_ok : CallOk Try.prog 4 spPBodies := by
  refine ok_4 E34_ok spPBodies fun args mem r mem1 h => ?_
  unfold spPBodies at h
  split at h
  case h_2 => cases h
  rename_i cs view from_ seq s
  obtain ⟨⟨k, v, t⟩, hb, h1⟩ := Option.bind_eq_some_iff.1 h
  have := bdy_bc hb
  subst this
  clear hb h
  obtain ⟨⟨hv, hf⟩, h2⟩ := if_some h1
  clear h1
  cases h2
  simp only at hv ⊢
  have hvl := hv.1
  have ho := bdF_ok s
  have hol := ho.1
  unfold ac_4
  cases hbig : decide (1000 < t.size) with
  | true =>
    repeat' first
        | with_reducible refine wp_regionS (seg_eval (by simp -dsimp -implicitDefEqProofs [hvl, hv, dec1000, hbig]; rfl) ?_)
        | with_reducible refine wp_region (seg_eval (by simp -dsimp -implicitDefEqProofs [hvl, hv, dec1000, hbig]; rfl) ?_)
        | with_reducible refine wp_drawsS (seg_eval (by simp -dsimp -implicitDefEqProofs [hvl, hv, dec1000, hbig]; rfl) ?_)
        | with_reducible refine wp_draws (seg_eval (by simp -dsimp -implicitDefEqProofs [hvl, hv, dec1000, hbig]; rfl) ?_)
        | with_reducible refine seg_fin ?_
        | with_reducible refine seg_pan ?_
        | with_reducible refine seg_both ?_ ?_
        | with_reducible refine seg_case (fun x h => ?_) (fun h => ?_)
        | with_reducible refine seg_gate (fun h => ?_) (fun h => ?_)
        | with_reducible refine seg_need ?_ ?_
        | with_reducible refine wp_assoc ?_ | with_reducible refine wp_skipS ?_ | with_reducible refine wp_retS ?_ | with_reducible refine wp_exitS ?_ | with_reducible refine wp_dropS (wp_eqT (by simp -dsimp -implicitDefEqProofs [hvl, hv, dec1000, hbig]; rfl) ?_) | with_reducible refine wp_sealS (by simp -dsimp -implicitDefEqProofs [hvl, hv, dec1000, hbig]; rfl) ?_ | with_reducible refine wp_seal (by simp -dsimp -implicitDefEqProofs [hvl, hv, dec1000, hbig]; rfl) ?_ | with_reducible refine wp_blockS ?_ | with_reducible refine wp_skip' ?_ | with_reducible refine wp_ret' ?_ | with_reducible refine wp_exit' ?_ | with_reducible refine wp_drop (wp_eqT (by simp -dsimp -implicitDefEqProofs [hvl, hv, dec1000, hbig]; rfl) ?_) | with_reducible refine wp_block' ?_
        | with_reducible refine wp_condVS (by simp -dsimp -implicitDefEqProofs [hvl, hv, dec1000, hbig]; rfl) ?_
        | with_reducible refine wp_condV (by simp -dsimp -implicitDefEqProofs [hvl, hv, dec1000, hbig]; rfl) ?_
        | with_reducible refine cond_t ?_ | with_reducible refine cond_f ?_ | with_reducible refine cond_v (fun h => ?_) (fun h => ?_)
        | with_reducible refine post_then ?_ | with_reducible refine post_thenE ?_ | with_reducible refine post_thenP ?_ | with_reducible refine post_blkP ?_ | with_reducible refine post_thenR ?_ | with_reducible refine post_blkN ?_ | with_reducible refine post_blkE ?_ | with_reducible refine post_blkF rfl ?_ | with_reducible refine post_blkR ?_
        | with_reducible refine seg_eval (by simp -dsimp -implicitDefEqProofs [hvl, hv, dec1000, hbig]; rfl) ?_
    all_goals first
      | omega
      | exact post_fin rfl rfl ⟨[], [], rfl, rfl, rfl, rfl⟩
      | trace_state
  | false =>
    cases hbig2 : decide (1000 < s.size) with
    | true =>
      repeat' first
          | with_reducible refine wp_regionS (seg_eval (by simp -dsimp -implicitDefEqProofs [hvl, hv, dec1000, hbig, hbig2]; rfl) ?_)
          | with_reducible refine wp_region (seg_eval (by simp -dsimp -implicitDefEqProofs [hvl, hv, dec1000, hbig, hbig2]; rfl) ?_)
          | with_reducible refine wp_drawsS (seg_eval (by simp -dsimp -implicitDefEqProofs [hvl, hv, dec1000, hbig, hbig2]; rfl) ?_)
          | with_reducible refine wp_draws (seg_eval (by simp -dsimp -implicitDefEqProofs [hvl, hv, dec1000, hbig, hbig2]; rfl) ?_)
          | with_reducible refine seg_fin ?_
          | with_reducible refine seg_pan ?_
          | with_reducible refine seg_both ?_ ?_
          | with_reducible refine seg_case (fun x h => ?_) (fun h => ?_)
          | with_reducible refine seg_gate (fun h => ?_) (fun h => ?_)
          | with_reducible refine seg_need ?_ ?_
          | with_reducible refine wp_assoc ?_ | with_reducible refine wp_skipS ?_ | with_reducible refine wp_retS ?_ | with_reducible refine wp_exitS ?_ | with_reducible refine wp_dropS (wp_eqT (by simp -dsimp -implicitDefEqProofs [hvl, hv, dec1000, hbig, hbig2]; rfl) ?_) | with_reducible refine wp_sealS (by simp -dsimp -implicitDefEqProofs [hvl, hv, dec1000, hbig, hbig2]; rfl) ?_ | with_reducible refine wp_seal (by simp -dsimp -implicitDefEqProofs [hvl, hv, dec1000, hbig, hbig2]; rfl) ?_ | with_reducible refine wp_blockS ?_ | with_reducible refine wp_skip' ?_ | with_reducible refine wp_ret' ?_ | with_reducible refine wp_exit' ?_ | with_reducible refine wp_drop (wp_eqT (by simp -dsimp -implicitDefEqProofs [hvl, hv, dec1000, hbig, hbig2]; rfl) ?_) | with_reducible refine wp_block' ?_
          | with_reducible refine wp_condVS (by simp -dsimp -implicitDefEqProofs [hvl, hv, dec1000, hbig, hbig2]; rfl) ?_
          | with_reducible refine wp_condV (by simp -dsimp -implicitDefEqProofs [hvl, hv, dec1000, hbig, hbig2]; rfl) ?_
          | with_reducible refine cond_t ?_ | with_reducible refine cond_f ?_ | with_reducible refine cond_v (fun h => ?_) (fun h => ?_)
          | with_reducible refine post_then ?_ | with_reducible refine post_thenE ?_ | with_reducible refine post_thenP ?_ | with_reducible refine post_blkP ?_ | with_reducible refine post_thenR ?_ | with_reducible refine post_blkN ?_ | with_reducible refine post_blkE ?_ | with_reducible refine post_blkF rfl ?_ | with_reducible refine post_blkR ?_
          | with_reducible refine seg_eval (by simp -dsimp -implicitDefEqProofs [hvl, hv, dec1000, hbig, hbig2]; rfl) ?_
      all_goals first
        | omega
        | exact post_fin rfl rfl ⟨[], [], rfl, rfl, rfl, rfl⟩
        | trace_state
    | false =>
      repeat' first
          | with_reducible refine wp_regionS (seg_eval (by simp -dsimp -implicitDefEqProofs [hvl, hv, dec1000, hbig, hbig2, avB, hol, hf, beq_self_bytes, bne_self_bytes]; rfl) ?_)
          | with_reducible refine wp_region (seg_eval (by simp -dsimp -implicitDefEqProofs [hvl, hv, dec1000, hbig, hbig2, avB, hol, hf, beq_self_bytes, bne_self_bytes]; rfl) ?_)
          | with_reducible refine wp_drawsS (seg_eval (by simp -dsimp -implicitDefEqProofs [hvl, hv, dec1000, hbig, hbig2, avB, hol, hf, beq_self_bytes, bne_self_bytes]; rfl) ?_)
          | with_reducible refine wp_draws (seg_eval (by simp -dsimp -implicitDefEqProofs [hvl, hv, dec1000, hbig, hbig2, avB, hol, hf, beq_self_bytes, bne_self_bytes]; rfl) ?_)
          | with_reducible refine seg_fin ?_
          | with_reducible refine seg_pan ?_
          | with_reducible refine seg_both ?_ ?_
          | with_reducible refine seg_case (fun x h => ?_) (fun h => ?_)
          | with_reducible refine seg_gate (fun h => ?_) (fun h => ?_)
          | with_reducible refine seg_need ?_ ?_
          | with_reducible refine wp_assoc ?_ | with_reducible refine wp_skipS ?_ | with_reducible refine wp_retS ?_ | with_reducible refine wp_exitS ?_ | with_reducible refine wp_dropS (wp_eqT (by simp -dsimp -implicitDefEqProofs [hvl, hv, dec1000, hbig, hbig2, avB, hol, hf, beq_self_bytes, bne_self_bytes]; rfl) ?_) | with_reducible refine wp_sealS (by simp -dsimp -implicitDefEqProofs [hvl, hv, dec1000, hbig, hbig2, avB, hol, hf, beq_self_bytes, bne_self_bytes]; rfl) ?_ | with_reducible refine wp_seal (by simp -dsimp -implicitDefEqProofs [hvl, hv, dec1000, hbig, hbig2, avB, hol, hf, beq_self_bytes, bne_self_bytes]; rfl) ?_ | with_reducible refine wp_blockS ?_ | with_reducible refine wp_skip' ?_ | with_reducible refine wp_ret' ?_ | with_reducible refine wp_exit' ?_ | with_reducible refine wp_drop (wp_eqT (by simp -dsimp -implicitDefEqProofs [hvl, hv, dec1000, hbig, hbig2, avB, hol, hf, beq_self_bytes, bne_self_bytes]; rfl) ?_) | with_reducible refine wp_block' ?_
          | with_reducible refine wp_condVS (by simp -dsimp -implicitDefEqProofs [hvl, hv, dec1000, hbig, hbig2, avB, hol, hf, beq_self_bytes, bne_self_bytes]; rfl) ?_
          | with_reducible refine wp_condV (by simp -dsimp -implicitDefEqProofs [hvl, hv, dec1000, hbig, hbig2, avB, hol, hf, beq_self_bytes, bne_self_bytes]; rfl) ?_
          | with_reducible refine cond_t ?_ | with_reducible refine cond_f ?_ | with_reducible refine cond_v (fun h => ?_) (fun h => ?_)
          | with_reducible refine post_then ?_ | with_reducible refine post_thenE ?_ | with_reducible refine post_thenP ?_ | with_reducible refine post_blkP ?_ | with_reducible refine post_thenR ?_ | with_reducible refine post_blkN ?_ | with_reducible refine post_blkE ?_ | with_reducible refine post_blkF rfl ?_ | with_reducible refine post_blkR ?_
          | with_reducible refine seg_eval (by simp -dsimp -implicitDefEqProofs [hvl, hv, dec1000, hbig, hbig2, avB, hol, hf, beq_self_bytes, bne_self_bytes]; rfl) ?_
      all_goals first
        | omega
        | exact post_fin rfl rfl ⟨[], [], rfl, rfl, rfl, rfl⟩
        | trace_state

def spPBack : Spec
  | [.agg cs, .agg ds, .v (.string _)], [] => (unB cs).bind fun b => (unB ds).bind fun c => if okV b.2.1 ∧ okV c.2.1 then some (.ret (.v (.bool true)), []) else none
  | _, _ => none

theorem bdE_cases (b : Bdy) : (mayB b = true ∧ bdE b = 0) ∨ (mayB b = false ∧ bdE b = 2) := by cases h : mayB b <;> simp [bdE, h]
theorem bd_back {b : Bdy} (h : mayB b = true) (ho : okV b.past) : bdF (bdS b) = b ∧ bdG (bdS b) = 0 := by
  have e := bdDec_enc h ho
  have e1 : bdS b = ⟨(enc (bdL b)).toArray⟩ := by unfold bdS; rw [if_pos h]
  rw [e1]
  exact bd_yes e
theorem bd_forth {s : ByteArray} : (bdG s = 4) ∨ (bdG s = 0 ∧ bdE (bdF s) = 0 ∧ bdS (bdF s) = s) := by
  cases h : bdDec s with
  | none => exact .inl (bd_no h).2
  | some b =>
    obtain ⟨h1, h2, h3⟩ := enc_bdDec h
    obtain ⟨e1, e2⟩ := bd_yes h
    refine .inr ⟨e2, ?_, ?_⟩
    · rw [e1, bdE, if_pos h1]
    · rw [e1, bdS, if_pos h1, h3]
theorem bd_eq {k k' : Int} {v v' : List Nat} {t t' : ByteArray} (h : mayB ⟨k, v, t⟩ = true) (h' : mayB ⟨k', v', t'⟩ = true) (o : okV v) (o' : okV v') :
    (bdS ⟨k, v, t⟩ == bdS ⟨k', v', t'⟩) = (k == k' && (eqV v v' && t == t')) := by
  rw [Bool.eq_iff_iff, beq_bytes]
  simp only [Bool.and_eq_true, beq_iff_eq, beq_bytes, eqV_iff (l := v) (m := v') (by rw [o.1, o'.1])]
  constructor
  · intro e
    rw [bdS, bdS, if_pos h, if_pos h'] at e
    have e2 := congrArg tb e
    rw [tb_mk, tb_mk] at e2
    have := bdy_inj h h' o o' e2
    simp only [Bdy.mk.injEq] at this
    exact this
  · rintro ⟨rfl, rfl, rfl⟩; rfl

set_option maxHeartbeats 8000000 in
theorem pastBack_ok : CallOk Try.prog 5 spPBack := by
  refine ok_5 E34_ok spPBack fun args mem r mem1 h => ?_
  unfold spPBack at h
  split at h
  case h_2 => cases h
  rename_i cs ds s
  obtain ⟨⟨k, v, t⟩, hb, h1⟩ := Option.bind_eq_some_iff.1 h
  have := bdy_bc hb
  subst this
  obtain ⟨⟨k', v', t'⟩, hc, h1'⟩ := Option.bind_eq_some_iff.1 h1
  have := bdy_bc hc
  subst this
  clear hb h hc h1
  obtain ⟨⟨hv, hv'⟩, h2⟩ := if_some h1'
  clear h1'
  cases h2
  simp only at hv hv' ⊢
  have hvl := hv.1
  have hvl' := hv'.1
  have ho := bdF_ok s
  have hol := ho.1
  have f1 := bd_forth (s := s)
  have f2 := bdE_cases ⟨k, v, t⟩
  have f3 := bdE_cases ⟨k', v', t'⟩
  unfold ac_5
  cases hbig : decide (1000 < t.size) with
  | true =>
    repeat' first
        | with_reducible refine wp_regionS (seg_eval (by simp -dsimp -implicitDefEqProofs [hvl, hv, dec1000, hbig]; rfl) ?_)
        | with_reducible refine wp_region (seg_eval (by simp -dsimp -implicitDefEqProofs [hvl, hv, dec1000, hbig]; rfl) ?_)
        | with_reducible refine wp_drawsS (seg_eval (by simp -dsimp -implicitDefEqProofs [hvl, hv, dec1000, hbig]; rfl) ?_)
        | with_reducible refine wp_draws (seg_eval (by simp -dsimp -implicitDefEqProofs [hvl, hv, dec1000, hbig]; rfl) ?_)
        | with_reducible refine seg_fin ?_
        | with_reducible refine seg_pan ?_
        | with_reducible refine seg_both ?_ ?_
        | with_reducible refine seg_case (fun x h => ?_) (fun h => ?_)
        | with_reducible refine seg_gate (fun h => ?_) (fun h => ?_)
        | with_reducible refine seg_need ?_ ?_
        | with_reducible refine wp_assoc ?_ | with_reducible refine wp_skipS ?_ | with_reducible refine wp_retS ?_ | with_reducible refine wp_exitS ?_ | with_reducible refine wp_dropS (wp_eqT (by simp -dsimp -implicitDefEqProofs [hvl, hv, dec1000, hbig]; rfl) ?_) | with_reducible refine wp_sealS (by simp -dsimp -implicitDefEqProofs [hvl, hv, dec1000, hbig]; rfl) ?_ | with_reducible refine wp_seal (by simp -dsimp -implicitDefEqProofs [hvl, hv, dec1000, hbig]; rfl) ?_ | with_reducible refine wp_blockS ?_ | with_reducible refine wp_skip' ?_ | with_reducible refine wp_ret' ?_ | with_reducible refine wp_exit' ?_ | with_reducible refine wp_drop (wp_eqT (by simp -dsimp -implicitDefEqProofs [hvl, hv, dec1000, hbig]; rfl) ?_) | with_reducible refine wp_block' ?_
        | with_reducible refine wp_condVS (by simp -dsimp -implicitDefEqProofs [hvl, hv, dec1000, hbig]; rfl) ?_
        | with_reducible refine wp_condV (by simp -dsimp -implicitDefEqProofs [hvl, hv, dec1000, hbig]; rfl) ?_
        | with_reducible refine cond_t ?_ | with_reducible refine cond_f ?_ | with_reducible refine cond_v (fun h => ?_) (fun h => ?_)
        | with_reducible refine post_then ?_ | with_reducible refine post_thenE ?_ | with_reducible refine post_thenP ?_ | with_reducible refine post_blkP ?_ | with_reducible refine post_thenR ?_ | with_reducible refine post_blkN ?_ | with_reducible refine post_blkE ?_ | with_reducible refine post_blkF rfl ?_ | with_reducible refine post_blkR ?_
        | with_reducible refine seg_eval (by simp -dsimp -implicitDefEqProofs [hvl, hv, dec1000, hbig]; rfl) ?_
    all_goals first
      | omega
      | exact post_fin rfl rfl ⟨[], [], rfl, rfl, rfl, rfl⟩
      | trace_state
  | false =>
  cases hbig2 : decide (1000 < t'.size) with
  | true =>
    repeat' first
        | with_reducible refine wp_regionS (seg_eval (by simp -dsimp -implicitDefEqProofs [hvl, hv, hv', hvl', dec1000, hbig, hbig2]; rfl) ?_)
        | with_reducible refine wp_region (seg_eval (by simp -dsimp -implicitDefEqProofs [hvl, hv, hv', hvl', dec1000, hbig, hbig2]; rfl) ?_)
        | with_reducible refine wp_drawsS (seg_eval (by simp -dsimp -implicitDefEqProofs [hvl, hv, hv', hvl', dec1000, hbig, hbig2]; rfl) ?_)
        | with_reducible refine wp_draws (seg_eval (by simp -dsimp -implicitDefEqProofs [hvl, hv, hv', hvl', dec1000, hbig, hbig2]; rfl) ?_)
        | with_reducible refine seg_fin ?_
        | with_reducible refine seg_pan ?_
        | with_reducible refine seg_both ?_ ?_
        | with_reducible refine seg_case (fun x h => ?_) (fun h => ?_)
        | with_reducible refine seg_gate (fun h => ?_) (fun h => ?_)
        | with_reducible refine seg_need ?_ ?_
        | with_reducible refine wp_assoc ?_ | with_reducible refine wp_skipS ?_ | with_reducible refine wp_retS ?_ | with_reducible refine wp_exitS ?_ | with_reducible refine wp_dropS (wp_eqT (by simp -dsimp -implicitDefEqProofs [hvl, hv, hv', hvl', dec1000, hbig, hbig2]; rfl) ?_) | with_reducible refine wp_sealS (by simp -dsimp -implicitDefEqProofs [hvl, hv, hv', hvl', dec1000, hbig, hbig2]; rfl) ?_ | with_reducible refine wp_seal (by simp -dsimp -implicitDefEqProofs [hvl, hv, hv', hvl', dec1000, hbig, hbig2]; rfl) ?_ | with_reducible refine wp_blockS ?_ | with_reducible refine wp_skip' ?_ | with_reducible refine wp_ret' ?_ | with_reducible refine wp_exit' ?_ | with_reducible refine wp_drop (wp_eqT (by simp -dsimp -implicitDefEqProofs [hvl, hv, hv', hvl', dec1000, hbig, hbig2]; rfl) ?_) | with_reducible refine wp_block' ?_
        | with_reducible refine wp_condVS (by simp -dsimp -implicitDefEqProofs [hvl, hv, hv', hvl', dec1000, hbig, hbig2]; rfl) ?_
        | with_reducible refine wp_condV (by simp -dsimp -implicitDefEqProofs [hvl, hv, hv', hvl', dec1000, hbig, hbig2]; rfl) ?_
        | with_reducible refine cond_t ?_ | with_reducible refine cond_f ?_ | with_reducible refine cond_v (fun h => ?_) (fun h => ?_)
        | with_reducible refine post_then ?_ | with_reducible refine post_thenE ?_ | with_reducible refine post_thenP ?_ | with_reducible refine post_blkP ?_ | with_reducible refine post_thenR ?_ | with_reducible refine post_blkN ?_ | with_reducible refine post_blkE ?_ | with_reducible refine post_blkF rfl ?_ | with_reducible refine post_blkR ?_
        | with_reducible refine seg_eval (by simp -dsimp -implicitDefEqProofs [hvl, hv, hv', hvl', dec1000, hbig, hbig2]; rfl) ?_
    all_goals first
      | omega
      | exact post_fin rfl rfl ⟨[], [], rfl, rfl, rfl, rfl⟩
      | trace_state
  | false =>
  cases hbig3 : decide (1000 < s.size) with
  | true =>
    repeat' first
        | with_reducible refine wp_regionS (seg_eval (by simp -dsimp -implicitDefEqProofs [hvl, hv, hv', hvl', dec1000, hbig, hbig2, hbig3]; rfl) ?_)
        | with_reducible refine wp_region (seg_eval (by simp -dsimp -implicitDefEqProofs [hvl, hv, hv', hvl', dec1000, hbig, hbig2, hbig3]; rfl) ?_)
        | with_reducible refine wp_drawsS (seg_eval (by simp -dsimp -implicitDefEqProofs [hvl, hv, hv', hvl', dec1000, hbig, hbig2, hbig3]; rfl) ?_)
        | with_reducible refine wp_draws (seg_eval (by simp -dsimp -implicitDefEqProofs [hvl, hv, hv', hvl', dec1000, hbig, hbig2, hbig3]; rfl) ?_)
        | with_reducible refine seg_fin ?_
        | with_reducible refine seg_pan ?_
        | with_reducible refine seg_both ?_ ?_
        | with_reducible refine seg_case (fun x h => ?_) (fun h => ?_)
        | with_reducible refine seg_gate (fun h => ?_) (fun h => ?_)
        | with_reducible refine seg_need ?_ ?_
        | with_reducible refine wp_assoc ?_ | with_reducible refine wp_skipS ?_ | with_reducible refine wp_retS ?_ | with_reducible refine wp_exitS ?_ | with_reducible refine wp_dropS (wp_eqT (by simp -dsimp -implicitDefEqProofs [hvl, hv, hv', hvl', dec1000, hbig, hbig2, hbig3]; rfl) ?_) | with_reducible refine wp_sealS (by simp -dsimp -implicitDefEqProofs [hvl, hv, hv', hvl', dec1000, hbig, hbig2, hbig3]; rfl) ?_ | with_reducible refine wp_seal (by simp -dsimp -implicitDefEqProofs [hvl, hv, hv', hvl', dec1000, hbig, hbig2, hbig3]; rfl) ?_ | with_reducible refine wp_blockS ?_ | with_reducible refine wp_skip' ?_ | with_reducible refine wp_ret' ?_ | with_reducible refine wp_exit' ?_ | with_reducible refine wp_drop (wp_eqT (by simp -dsimp -implicitDefEqProofs [hvl, hv, hv', hvl', dec1000, hbig, hbig2, hbig3]; rfl) ?_) | with_reducible refine wp_block' ?_
        | with_reducible refine wp_condVS (by simp -dsimp -implicitDefEqProofs [hvl, hv, hv', hvl', dec1000, hbig, hbig2, hbig3]; rfl) ?_
        | with_reducible refine wp_condV (by simp -dsimp -implicitDefEqProofs [hvl, hv, hv', hvl', dec1000, hbig, hbig2, hbig3]; rfl) ?_
        | with_reducible refine cond_t ?_ | with_reducible refine cond_f ?_ | with_reducible refine cond_v (fun h => ?_) (fun h => ?_)
        | with_reducible refine post_then ?_ | with_reducible refine post_thenE ?_ | with_reducible refine post_thenP ?_ | with_reducible refine post_blkP ?_ | with_reducible refine post_thenR ?_ | with_reducible refine post_blkN ?_ | with_reducible refine post_blkE ?_ | with_reducible refine post_blkF rfl ?_ | with_reducible refine post_blkR ?_
        | with_reducible refine seg_eval (by simp -dsimp -implicitDefEqProofs [hvl, hv, hv', hvl', dec1000, hbig, hbig2, hbig3]; rfl) ?_
    all_goals first
      | omega
      | exact post_fin rfl rfl ⟨[], [], rfl, rfl, rfl, rfl⟩
      | trace_state
  | false =>
  rcases f2 with ⟨m1, f2⟩ | ⟨m1, f2⟩
  · obtain ⟨b1, b2⟩ := bd_back m1 hv
    rcases f3 with ⟨m2, f3⟩ | ⟨m2, f3⟩
    · have hq := bd_eq m1 m2 hv hv'
      rcases f1 with f1 | ⟨f1, f4, f5⟩
      · repeat' first
            | with_reducible refine wp_regionS (seg_eval (by simp -dsimp -implicitDefEqProofs [hvl, hv, hv', hvl', dec1000, hbig, hbig2, hbig3, avB, hol, ho, f1, f2, f3, b1, b2, hq, beq_self_bytes, bne_self_bytes]; rfl) ?_)
            | with_reducible refine wp_region (seg_eval (by simp -dsimp -implicitDefEqProofs [hvl, hv, hv', hvl', dec1000, hbig, hbig2, hbig3, avB, hol, ho, f1, f2, f3, b1, b2, hq, beq_self_bytes, bne_self_bytes]; rfl) ?_)
            | with_reducible refine wp_drawsS (seg_eval (by simp -dsimp -implicitDefEqProofs [hvl, hv, hv', hvl', dec1000, hbig, hbig2, hbig3, avB, hol, ho, f1, f2, f3, b1, b2, hq, beq_self_bytes, bne_self_bytes]; rfl) ?_)
            | with_reducible refine wp_draws (seg_eval (by simp -dsimp -implicitDefEqProofs [hvl, hv, hv', hvl', dec1000, hbig, hbig2, hbig3, avB, hol, ho, f1, f2, f3, b1, b2, hq, beq_self_bytes, bne_self_bytes]; rfl) ?_)
            | with_reducible refine seg_fin ?_
            | with_reducible refine seg_pan ?_
            | with_reducible refine seg_both ?_ ?_
            | with_reducible refine seg_case (fun x h => ?_) (fun h => ?_)
            | with_reducible refine seg_gate (fun h => ?_) (fun h => ?_)
            | with_reducible refine seg_need ?_ ?_
            | with_reducible refine wp_assoc ?_ | with_reducible refine wp_skipS ?_ | with_reducible refine wp_retS ?_ | with_reducible refine wp_exitS ?_ | with_reducible refine wp_dropS (wp_eqT (by simp -dsimp -implicitDefEqProofs [hvl, hv, hv', hvl', dec1000, hbig, hbig2, hbig3, avB, hol, ho, f1, f2, f3, b1, b2, hq, beq_self_bytes, bne_self_bytes]; rfl) ?_) | with_reducible refine wp_sealS (by simp -dsimp -implicitDefEqProofs [hvl, hv, hv', hvl', dec1000, hbig, hbig2, hbig3, avB, hol, ho, f1, f2, f3, b1, b2, hq, beq_self_bytes, bne_self_bytes]; rfl) ?_ | with_reducible refine wp_seal (by simp -dsimp -implicitDefEqProofs [hvl, hv, hv', hvl', dec1000, hbig, hbig2, hbig3, avB, hol, ho, f1, f2, f3, b1, b2, hq, beq_self_bytes, bne_self_bytes]; rfl) ?_ | with_reducible refine wp_blockS ?_ | with_reducible refine wp_skip' ?_ | with_reducible refine wp_ret' ?_ | with_reducible refine wp_exit' ?_ | with_reducible refine wp_drop (wp_eqT (by simp -dsimp -implicitDefEqProofs [hvl, hv, hv', hvl', dec1000, hbig, hbig2, hbig3, avB, hol, ho, f1, f2, f3, b1, b2, hq, beq_self_bytes, bne_self_bytes]; rfl) ?_) | with_reducible refine wp_block' ?_
            | with_reducible refine wp_condVS (by simp -dsimp -implicitDefEqProofs [hvl, hv, hv', hvl', dec1000, hbig, hbig2, hbig3, avB, hol, ho, f1, f2, f3, b1, b2, hq, beq_self_bytes, bne_self_bytes]; rfl) ?_
            | with_reducible refine wp_condV (by simp -dsimp -implicitDefEqProofs [hvl, hv, hv', hvl', dec1000, hbig, hbig2, hbig3, avB, hol, ho, f1, f2, f3, b1, b2, hq, beq_self_bytes, bne_self_bytes]; rfl) ?_
            | with_reducible refine cond_t ?_ | with_reducible refine cond_f ?_ | with_reducible refine cond_v (fun h => ?_) (fun h => ?_)
            | with_reducible refine post_then ?_ | with_reducible refine post_thenE ?_ | with_reducible refine post_thenP ?_ | with_reducible refine post_blkP ?_ | with_reducible refine post_thenR ?_ | with_reducible refine post_blkN ?_ | with_reducible refine post_blkE ?_ | with_reducible refine post_blkF rfl ?_ | with_reducible refine post_blkR ?_
            | with_reducible refine seg_eval (by simp -dsimp -implicitDefEqProofs [hvl, hv, hv', hvl', dec1000, hbig, hbig2, hbig3, avB, hol, ho, f1, f2, f3, b1, b2, hq, beq_self_bytes, bne_self_bytes]; rfl) ?_
        all_goals first
          | omega
          | (refine post_bool rfl ?_; simp; done)
          | trace_state
      · repeat' first
            | with_reducible refine wp_regionS (seg_eval (by simp -dsimp -implicitDefEqProofs [hvl, hv, hv', hvl', dec1000, hbig, hbig2, hbig3, avB, hol, ho, f1, f2, f3, f4, f5, b1, b2, hq, beq_self_bytes, bne_self_bytes]; rfl) ?_)
            | with_reducible refine wp_region (seg_eval (by simp -dsimp -implicitDefEqProofs [hvl, hv, hv', hvl', dec1000, hbig, hbig2, hbig3, avB, hol, ho, f1, f2, f3, f4, f5, b1, b2, hq, beq_self_bytes, bne_self_bytes]; rfl) ?_)
            | with_reducible refine wp_drawsS (seg_eval (by simp -dsimp -implicitDefEqProofs [hvl, hv, hv', hvl', dec1000, hbig, hbig2, hbig3, avB, hol, ho, f1, f2, f3, f4, f5, b1, b2, hq, beq_self_bytes, bne_self_bytes]; rfl) ?_)
            | with_reducible refine wp_draws (seg_eval (by simp -dsimp -implicitDefEqProofs [hvl, hv, hv', hvl', dec1000, hbig, hbig2, hbig3, avB, hol, ho, f1, f2, f3, f4, f5, b1, b2, hq, beq_self_bytes, bne_self_bytes]; rfl) ?_)
            | with_reducible refine seg_fin ?_
            | with_reducible refine seg_pan ?_
            | with_reducible refine seg_both ?_ ?_
            | with_reducible refine seg_case (fun x h => ?_) (fun h => ?_)
            | with_reducible refine seg_gate (fun h => ?_) (fun h => ?_)
            | with_reducible refine seg_need ?_ ?_
            | with_reducible refine wp_assoc ?_ | with_reducible refine wp_skipS ?_ | with_reducible refine wp_retS ?_ | with_reducible refine wp_exitS ?_ | with_reducible refine wp_dropS (wp_eqT (by simp -dsimp -implicitDefEqProofs [hvl, hv, hv', hvl', dec1000, hbig, hbig2, hbig3, avB, hol, ho, f1, f2, f3, f4, f5, b1, b2, hq, beq_self_bytes, bne_self_bytes]; rfl) ?_) | with_reducible refine wp_sealS (by simp -dsimp -implicitDefEqProofs [hvl, hv, hv', hvl', dec1000, hbig, hbig2, hbig3, avB, hol, ho, f1, f2, f3, f4, f5, b1, b2, hq, beq_self_bytes, bne_self_bytes]; rfl) ?_ | with_reducible refine wp_seal (by simp -dsimp -implicitDefEqProofs [hvl, hv, hv', hvl', dec1000, hbig, hbig2, hbig3, avB, hol, ho, f1, f2, f3, f4, f5, b1, b2, hq, beq_self_bytes, bne_self_bytes]; rfl) ?_ | with_reducible refine wp_blockS ?_ | with_reducible refine wp_skip' ?_ | with_reducible refine wp_ret' ?_ | with_reducible refine wp_exit' ?_ | with_reducible refine wp_drop (wp_eqT (by simp -dsimp -implicitDefEqProofs [hvl, hv, hv', hvl', dec1000, hbig, hbig2, hbig3, avB, hol, ho, f1, f2, f3, f4, f5, b1, b2, hq, beq_self_bytes, bne_self_bytes]; rfl) ?_) | with_reducible refine wp_block' ?_
            | with_reducible refine wp_condVS (by simp -dsimp -implicitDefEqProofs [hvl, hv, hv', hvl', dec1000, hbig, hbig2, hbig3, avB, hol, ho, f1, f2, f3, f4, f5, b1, b2, hq, beq_self_bytes, bne_self_bytes]; rfl) ?_
            | with_reducible refine wp_condV (by simp -dsimp -implicitDefEqProofs [hvl, hv, hv', hvl', dec1000, hbig, hbig2, hbig3, avB, hol, ho, f1, f2, f3, f4, f5, b1, b2, hq, beq_self_bytes, bne_self_bytes]; rfl) ?_
            | with_reducible refine cond_t ?_ | with_reducible refine cond_f ?_ | with_reducible refine cond_v (fun h => ?_) (fun h => ?_)
            | with_reducible refine post_then ?_ | with_reducible refine post_thenE ?_ | with_reducible refine post_thenP ?_ | with_reducible refine post_blkP ?_ | with_reducible refine post_thenR ?_ | with_reducible refine post_blkN ?_ | with_reducible refine post_blkE ?_ | with_reducible refine post_blkF rfl ?_ | with_reducible refine post_blkR ?_
            | with_reducible refine seg_eval (by simp -dsimp -implicitDefEqProofs [hvl, hv, hv', hvl', dec1000, hbig, hbig2, hbig3, avB, hol, ho, f1, f2, f3, f4, f5, b1, b2, hq, beq_self_bytes, bne_self_bytes]; rfl) ?_
        all_goals first
          | omega
          | (refine post_bool rfl ?_; simp; done)
          | trace_state
    · rcases f1 with f1 | ⟨f1, f4, f5⟩
      · repeat' first
            | with_reducible refine wp_regionS (seg_eval (by simp -dsimp -implicitDefEqProofs [hvl, hv, hv', hvl', dec1000, hbig, hbig2, hbig3, avB, hol, ho, f1, f2, f3, b1, b2, beq_self_bytes, bne_self_bytes]; rfl) ?_)
            | with_reducible refine wp_region (seg_eval (by simp -dsimp -implicitDefEqProofs [hvl, hv, hv', hvl', dec1000, hbig, hbig2, hbig3, avB, hol, ho, f1, f2, f3, b1, b2, beq_self_bytes, bne_self_bytes]; rfl) ?_)
            | with_reducible refine wp_drawsS (seg_eval (by simp -dsimp -implicitDefEqProofs [hvl, hv, hv', hvl', dec1000, hbig, hbig2, hbig3, avB, hol, ho, f1, f2, f3, b1, b2, beq_self_bytes, bne_self_bytes]; rfl) ?_)
            | with_reducible refine wp_draws (seg_eval (by simp -dsimp -implicitDefEqProofs [hvl, hv, hv', hvl', dec1000, hbig, hbig2, hbig3, avB, hol, ho, f1, f2, f3, b1, b2, beq_self_bytes, bne_self_bytes]; rfl) ?_)
            | with_reducible refine seg_fin ?_
            | with_reducible refine seg_pan ?_
            | with_reducible refine seg_both ?_ ?_
            | with_reducible refine seg_case (fun x h => ?_) (fun h => ?_)
            | with_reducible refine seg_gate (fun h => ?_) (fun h => ?_)
            | with_reducible refine seg_need ?_ ?_
            | with_reducible refine wp_assoc ?_ | with_reducible refine wp_skipS ?_ | with_reducible refine wp_retS ?_ | with_reducible refine wp_exitS ?_ | with_reducible refine wp_dropS (wp_eqT (by simp -dsimp -implicitDefEqProofs [hvl, hv, hv', hvl', dec1000, hbig, hbig2, hbig3, avB, hol, ho, f1, f2, f3, b1, b2, beq_self_bytes, bne_self_bytes]; rfl) ?_) | with_reducible refine wp_sealS (by simp -dsimp -implicitDefEqProofs [hvl, hv, hv', hvl', dec1000, hbig, hbig2, hbig3, avB, hol, ho, f1, f2, f3, b1, b2, beq_self_bytes, bne_self_bytes]; rfl) ?_ | with_reducible refine wp_seal (by simp -dsimp -implicitDefEqProofs [hvl, hv, hv', hvl', dec1000, hbig, hbig2, hbig3, avB, hol, ho, f1, f2, f3, b1, b2, beq_self_bytes, bne_self_bytes]; rfl) ?_ | with_reducible refine wp_blockS ?_ | with_reducible refine wp_skip' ?_ | with_reducible refine wp_ret' ?_ | with_reducible refine wp_exit' ?_ | with_reducible refine wp_drop (wp_eqT (by simp -dsimp -implicitDefEqProofs [hvl, hv, hv', hvl', dec1000, hbig, hbig2, hbig3, avB, hol, ho, f1, f2, f3, b1, b2, beq_self_bytes, bne_self_bytes]; rfl) ?_) | with_reducible refine wp_block' ?_
            | with_reducible refine wp_condVS (by simp -dsimp -implicitDefEqProofs [hvl, hv, hv', hvl', dec1000, hbig, hbig2, hbig3, avB, hol, ho, f1, f2, f3, b1, b2, beq_self_bytes, bne_self_bytes]; rfl) ?_
            | with_reducible refine wp_condV (by simp -dsimp -implicitDefEqProofs [hvl, hv, hv', hvl', dec1000, hbig, hbig2, hbig3, avB, hol, ho, f1, f2, f3, b1, b2, beq_self_bytes, bne_self_bytes]; rfl) ?_
            | with_reducible refine cond_t ?_ | with_reducible refine cond_f ?_ | with_reducible refine cond_v (fun h => ?_) (fun h => ?_)
            | with_reducible refine post_then ?_ | with_reducible refine post_thenE ?_ | with_reducible refine post_thenP ?_ | with_reducible refine post_blkP ?_ | with_reducible refine post_thenR ?_ | with_reducible refine post_blkN ?_ | with_reducible refine post_blkE ?_ | with_reducible refine post_blkF rfl ?_ | with_reducible refine post_blkR ?_
            | with_reducible refine seg_eval (by simp -dsimp -implicitDefEqProofs [hvl, hv, hv', hvl', dec1000, hbig, hbig2, hbig3, avB, hol, ho, f1, f2, f3, b1, b2, beq_self_bytes, bne_self_bytes]; rfl) ?_
        all_goals first
          | omega
          | (refine post_bool rfl ?_; simp; done)
          | trace_state
      · repeat' first
            | with_reducible refine wp_regionS (seg_eval (by simp -dsimp -implicitDefEqProofs [hvl, hv, hv', hvl', dec1000, hbig, hbig2, hbig3, avB, hol, ho, f1, f2, f3, f4, f5, b1, b2, beq_self_bytes, bne_self_bytes]; rfl) ?_)
            | with_reducible refine wp_region (seg_eval (by simp -dsimp -implicitDefEqProofs [hvl, hv, hv', hvl', dec1000, hbig, hbig2, hbig3, avB, hol, ho, f1, f2, f3, f4, f5, b1, b2, beq_self_bytes, bne_self_bytes]; rfl) ?_)
            | with_reducible refine wp_drawsS (seg_eval (by simp -dsimp -implicitDefEqProofs [hvl, hv, hv', hvl', dec1000, hbig, hbig2, hbig3, avB, hol, ho, f1, f2, f3, f4, f5, b1, b2, beq_self_bytes, bne_self_bytes]; rfl) ?_)
            | with_reducible refine wp_draws (seg_eval (by simp -dsimp -implicitDefEqProofs [hvl, hv, hv', hvl', dec1000, hbig, hbig2, hbig3, avB, hol, ho, f1, f2, f3, f4, f5, b1, b2, beq_self_bytes, bne_self_bytes]; rfl) ?_)
            | with_reducible refine seg_fin ?_
            | with_reducible refine seg_pan ?_
            | with_reducible refine seg_both ?_ ?_
            | with_reducible refine seg_case (fun x h => ?_) (fun h => ?_)
            | with_reducible refine seg_gate (fun h => ?_) (fun h => ?_)
            | with_reducible refine seg_need ?_ ?_
            | with_reducible refine wp_assoc ?_ | with_reducible refine wp_skipS ?_ | with_reducible refine wp_retS ?_ | with_reducible refine wp_exitS ?_ | with_reducible refine wp_dropS (wp_eqT (by simp -dsimp -implicitDefEqProofs [hvl, hv, hv', hvl', dec1000, hbig, hbig2, hbig3, avB, hol, ho, f1, f2, f3, f4, f5, b1, b2, beq_self_bytes, bne_self_bytes]; rfl) ?_) | with_reducible refine wp_sealS (by simp -dsimp -implicitDefEqProofs [hvl, hv, hv', hvl', dec1000, hbig, hbig2, hbig3, avB, hol, ho, f1, f2, f3, f4, f5, b1, b2, beq_self_bytes, bne_self_bytes]; rfl) ?_ | with_reducible refine wp_seal (by simp -dsimp -implicitDefEqProofs [hvl, hv, hv', hvl', dec1000, hbig, hbig2, hbig3, avB, hol, ho, f1, f2, f3, f4, f5, b1, b2, beq_self_bytes, bne_self_bytes]; rfl) ?_ | with_reducible refine wp_blockS ?_ | with_reducible refine wp_skip' ?_ | with_reducible refine wp_ret' ?_ | with_reducible refine wp_exit' ?_ | with_reducible refine wp_drop (wp_eqT (by simp -dsimp -implicitDefEqProofs [hvl, hv, hv', hvl', dec1000, hbig, hbig2, hbig3, avB, hol, ho, f1, f2, f3, f4, f5, b1, b2, beq_self_bytes, bne_self_bytes]; rfl) ?_) | with_reducible refine wp_block' ?_
            | with_reducible refine wp_condVS (by simp -dsimp -implicitDefEqProofs [hvl, hv, hv', hvl', dec1000, hbig, hbig2, hbig3, avB, hol, ho, f1, f2, f3, f4, f5, b1, b2, beq_self_bytes, bne_self_bytes]; rfl) ?_
            | with_reducible refine wp_condV (by simp -dsimp -implicitDefEqProofs [hvl, hv, hv', hvl', dec1000, hbig, hbig2, hbig3, avB, hol, ho, f1, f2, f3, f4, f5, b1, b2, beq_self_bytes, bne_self_bytes]; rfl) ?_
            | with_reducible refine cond_t ?_ | with_reducible refine cond_f ?_ | with_reducible refine cond_v (fun h => ?_) (fun h => ?_)
            | with_reducible refine post_then ?_ | with_reducible refine post_thenE ?_ | with_reducible refine post_thenP ?_ | with_reducible refine post_blkP ?_ | with_reducible refine post_thenR ?_ | with_reducible refine post_blkN ?_ | with_reducible refine post_blkE ?_ | with_reducible refine post_blkF rfl ?_ | with_reducible refine post_blkR ?_
            | with_reducible refine seg_eval (by simp -dsimp -implicitDefEqProofs [hvl, hv, hv', hvl', dec1000, hbig, hbig2, hbig3, avB, hol, ho, f1, f2, f3, f4, f5, b1, b2, beq_self_bytes, bne_self_bytes]; rfl) ?_
        all_goals first
          | omega
          | (refine post_bool rfl ?_; simp; done)
          | trace_state
  · rcases f1 with f1 | ⟨f1, f4, f5⟩
    · repeat' first
          | with_reducible refine wp_regionS (seg_eval (by simp -dsimp -implicitDefEqProofs [hvl, hv, hv', hvl', dec1000, hbig, hbig2, hbig3, avB, hol, ho, f1, f2, beq_self_bytes, bne_self_bytes]; rfl) ?_)
          | with_reducible refine wp_region (seg_eval (by simp -dsimp -implicitDefEqProofs [hvl, hv, hv', hvl', dec1000, hbig, hbig2, hbig3, avB, hol, ho, f1, f2, beq_self_bytes, bne_self_bytes]; rfl) ?_)
          | with_reducible refine wp_drawsS (seg_eval (by simp -dsimp -implicitDefEqProofs [hvl, hv, hv', hvl', dec1000, hbig, hbig2, hbig3, avB, hol, ho, f1, f2, beq_self_bytes, bne_self_bytes]; rfl) ?_)
          | with_reducible refine wp_draws (seg_eval (by simp -dsimp -implicitDefEqProofs [hvl, hv, hv', hvl', dec1000, hbig, hbig2, hbig3, avB, hol, ho, f1, f2, beq_self_bytes, bne_self_bytes]; rfl) ?_)
          | with_reducible refine seg_fin ?_
          | with_reducible refine seg_pan ?_
          | with_reducible refine seg_both ?_ ?_
          | with_reducible refine seg_case (fun x h => ?_) (fun h => ?_)
          | with_reducible refine seg_gate (fun h => ?_) (fun h => ?_)
          | with_reducible refine seg_need ?_ ?_
          | with_reducible refine wp_assoc ?_ | with_reducible refine wp_skipS ?_ | with_reducible refine wp_retS ?_ | with_reducible refine wp_exitS ?_ | with_reducible refine wp_dropS (wp_eqT (by simp -dsimp -implicitDefEqProofs [hvl, hv, hv', hvl', dec1000, hbig, hbig2, hbig3, avB, hol, ho, f1, f2, beq_self_bytes, bne_self_bytes]; rfl) ?_) | with_reducible refine wp_sealS (by simp -dsimp -implicitDefEqProofs [hvl, hv, hv', hvl', dec1000, hbig, hbig2, hbig3, avB, hol, ho, f1, f2, beq_self_bytes, bne_self_bytes]; rfl) ?_ | with_reducible refine wp_seal (by simp -dsimp -implicitDefEqProofs [hvl, hv, hv', hvl', dec1000, hbig, hbig2, hbig3, avB, hol, ho, f1, f2, beq_self_bytes, bne_self_bytes]; rfl) ?_ | with_reducible refine wp_blockS ?_ | with_reducible refine wp_skip' ?_ | with_reducible refine wp_ret' ?_ | with_reducible refine wp_exit' ?_ | with_reducible refine wp_drop (wp_eqT (by simp -dsimp -implicitDefEqProofs [hvl, hv, hv', hvl', dec1000, hbig, hbig2, hbig3, avB, hol, ho, f1, f2, beq_self_bytes, bne_self_bytes]; rfl) ?_) | with_reducible refine wp_block' ?_
          | with_reducible refine wp_condVS (by simp -dsimp -implicitDefEqProofs [hvl, hv, hv', hvl', dec1000, hbig, hbig2, hbig3, avB, hol, ho, f1, f2, beq_self_bytes, bne_self_bytes]; rfl) ?_
          | with_reducible refine wp_condV (by simp -dsimp -implicitDefEqProofs [hvl, hv, hv', hvl', dec1000, hbig, hbig2, hbig3, avB, hol, ho, f1, f2, beq_self_bytes, bne_self_bytes]; rfl) ?_
          | with_reducible refine cond_t ?_ | with_reducible refine cond_f ?_ | with_reducible refine cond_v (fun h => ?_) (fun h => ?_)
          | with_reducible refine post_then ?_ | with_reducible refine post_thenE ?_ | with_reducible refine post_thenP ?_ | with_reducible refine post_blkP ?_ | with_reducible refine post_thenR ?_ | with_reducible refine post_blkN ?_ | with_reducible refine post_blkE ?_ | with_reducible refine post_blkF rfl ?_ | with_reducible refine post_blkR ?_
          | with_reducible refine seg_eval (by simp -dsimp -implicitDefEqProofs [hvl, hv, hv', hvl', dec1000, hbig, hbig2, hbig3, avB, hol, ho, f1, f2, beq_self_bytes, bne_self_bytes]; rfl) ?_
      all_goals first
        | omega
        | (refine post_bool rfl ?_; simp; done)
        | trace_state
    · repeat' first
          | with_reducible refine wp_regionS (seg_eval (by simp -dsimp -implicitDefEqProofs [hvl, hv, hv', hvl', dec1000, hbig, hbig2, hbig3, avB, hol, ho, f1, f2, f4, f5, beq_self_bytes, bne_self_bytes]; rfl) ?_)
          | with_reducible refine wp_region (seg_eval (by simp -dsimp -implicitDefEqProofs [hvl, hv, hv', hvl', dec1000, hbig, hbig2, hbig3, avB, hol, ho, f1, f2, f4, f5, beq_self_bytes, bne_self_bytes]; rfl) ?_)
          | with_reducible refine wp_drawsS (seg_eval (by simp -dsimp -implicitDefEqProofs [hvl, hv, hv', hvl', dec1000, hbig, hbig2, hbig3, avB, hol, ho, f1, f2, f4, f5, beq_self_bytes, bne_self_bytes]; rfl) ?_)
          | with_reducible refine wp_draws (seg_eval (by simp -dsimp -implicitDefEqProofs [hvl, hv, hv', hvl', dec1000, hbig, hbig2, hbig3, avB, hol, ho, f1, f2, f4, f5, beq_self_bytes, bne_self_bytes]; rfl) ?_)
          | with_reducible refine seg_fin ?_
          | with_reducible refine seg_pan ?_
          | with_reducible refine seg_both ?_ ?_
          | with_reducible refine seg_case (fun x h => ?_) (fun h => ?_)
          | with_reducible refine seg_gate (fun h => ?_) (fun h => ?_)
          | with_reducible refine seg_need ?_ ?_
          | with_reducible refine wp_assoc ?_ | with_reducible refine wp_skipS ?_ | with_reducible refine wp_retS ?_ | with_reducible refine wp_exitS ?_ | with_reducible refine wp_dropS (wp_eqT (by simp -dsimp -implicitDefEqProofs [hvl, hv, hv', hvl', dec1000, hbig, hbig2, hbig3, avB, hol, ho, f1, f2, f4, f5, beq_self_bytes, bne_self_bytes]; rfl) ?_) | with_reducible refine wp_sealS (by simp -dsimp -implicitDefEqProofs [hvl, hv, hv', hvl', dec1000, hbig, hbig2, hbig3, avB, hol, ho, f1, f2, f4, f5, beq_self_bytes, bne_self_bytes]; rfl) ?_ | with_reducible refine wp_seal (by simp -dsimp -implicitDefEqProofs [hvl, hv, hv', hvl', dec1000, hbig, hbig2, hbig3, avB, hol, ho, f1, f2, f4, f5, beq_self_bytes, bne_self_bytes]; rfl) ?_ | with_reducible refine wp_blockS ?_ | with_reducible refine wp_skip' ?_ | with_reducible refine wp_ret' ?_ | with_reducible refine wp_exit' ?_ | with_reducible refine wp_drop (wp_eqT (by simp -dsimp -implicitDefEqProofs [hvl, hv, hv', hvl', dec1000, hbig, hbig2, hbig3, avB, hol, ho, f1, f2, f4, f5, beq_self_bytes, bne_self_bytes]; rfl) ?_) | with_reducible refine wp_block' ?_
          | with_reducible refine wp_condVS (by simp -dsimp -implicitDefEqProofs [hvl, hv, hv', hvl', dec1000, hbig, hbig2, hbig3, avB, hol, ho, f1, f2, f4, f5, beq_self_bytes, bne_self_bytes]; rfl) ?_
          | with_reducible refine wp_condV (by simp -dsimp -implicitDefEqProofs [hvl, hv, hv', hvl', dec1000, hbig, hbig2, hbig3, avB, hol, ho, f1, f2, f4, f5, beq_self_bytes, bne_self_bytes]; rfl) ?_
          | with_reducible refine cond_t ?_ | with_reducible refine cond_f ?_ | with_reducible refine cond_v (fun h => ?_) (fun h => ?_)
          | with_reducible refine post_then ?_ | with_reducible refine post_thenE ?_ | with_reducible refine post_thenP ?_ | with_reducible refine post_blkP ?_ | with_reducible refine post_thenR ?_ | with_reducible refine post_blkN ?_ | with_reducible refine post_blkE ?_ | with_reducible refine post_blkF rfl ?_ | with_reducible refine post_blkR ?_
          | with_reducible refine seg_eval (by simp -dsimp -implicitDefEqProofs [hvl, hv, hv', hvl', dec1000, hbig, hbig2, hbig3, avB, hol, ho, f1, f2, f4, f5, beq_self_bytes, bne_self_bytes]; rfl) ?_
      all_goals first
        | omega
        | (refine post_bool rfl ?_; simp; done)
        | trace_state
end Go.Proofs.Ytifchnkhnphibaa.Am
