import Derived.Test.YtbhbpahbopjfeaaF14
namespace Go.Proofs.Ytbhbpahbopjfeaa.Am
set_option linter.unusedSimpArgs false
set_option linter.unusedVariables false
open Go Go.Proofs
attribute [local irreducible] wpA

theorem small_enc {f : Fld} (ho : f.ok = true) : encE [f] = if may f = true then 0 else 2 := by
  by_cases hm : may f = true
  · rw [if_pos hm]
    have := encF_length hm ho
    refine encE_of (by simpa using hm) (by simp) ?_
    simp [encAll, flatE]; omega
  · unfold encE
    rw [if_neg hm, if_neg (by simpa using hm)]

def spOdd : Spec
  | [.v (.int .u64 b), .v (.int .u64 n), .v (.string _)], [] => if 0 ≤ b ∧ b < 18446744073709551616 ∧ 0 ≤ n ∧ n < 18446744073709551616 then some (.ret (.v (.bool true)), []) else none
  | _, _ => none

set_option maxHeartbeats 4000000 in
theorem packOdd_ok : CallOk Try.prog 10 spOdd := by
  refine ok_10 E14_ok spOdd fun args mem r mem1 h => ?_
  unfold spOdd at h
  split at h
  case h_2 => cases h
  rename_i b n s
  obtain ⟨hx, h1⟩ := if_some h
  clear h
  cases h1
  obtain ⟨b, rfl⟩ := Int.eq_ofNat_of_zero_le hx.1
  obtain ⟨n, rfl⟩ := Int.eq_ofNat_of_zero_le hx.2.2.1
  have hb : b < 18446744073709551616 := by omega
  have hn : n < 18446744073709551616 := by omega
  clear hx
  have o1 : Fld.ok ⟨3, 0, ⟨#[]⟩, b⟩ = true := by rw [Fld.ok_iff]; exact ⟨by simp, hb⟩
  have o2 : Fld.ok ⟨1, n, s, 0⟩ = true := by rw [Fld.ok_iff]; exact ⟨hn, by simp⟩
  have o3 : Fld.ok ⟨2, n, s, 0⟩ = true := by rw [Fld.ok_iff]; exact ⟨hn, by simp⟩
  have e1 := small_enc o1
  have e2 := small_enc o2
  have e3 := small_enc o3
  unfold ac_10
  by_cases hs : (s == ⟨#[]⟩) = true
  · repeat' first
        | with_reducible refine wp_regionS (seg_eval (by simp -dsimp -implicitDefEqProofs [hs]; rfl) ?_)
        | with_reducible refine wp_region (seg_eval (by simp -dsimp -implicitDefEqProofs [hs]; rfl) ?_)
        | with_reducible refine wp_drawsS (seg_eval (by simp -dsimp -implicitDefEqProofs [hs]; rfl) ?_)
        | with_reducible refine wp_draws (seg_eval (by simp -dsimp -implicitDefEqProofs [hs]; rfl) ?_)
        | with_reducible refine seg_fin ?_
        | with_reducible refine seg_pan ?_
        | with_reducible refine seg_both ?_ ?_
        | with_reducible refine seg_case (fun x h => ?_) (fun h => ?_)
        | with_reducible refine seg_gate (fun h => ?_) (fun h => ?_)
        | with_reducible refine seg_need ?_ ?_
        | with_reducible refine wp_assoc ?_ | with_reducible refine wp_skipS ?_ | with_reducible refine wp_retS ?_ | with_reducible refine wp_exitS ?_ | with_reducible refine wp_dropS (wp_eqT (by simp -dsimp -implicitDefEqProofs [hs]; rfl) ?_) | with_reducible refine wp_seal (by simp -dsimp -implicitDefEqProofs [hs]; rfl) ?_ | with_reducible refine wp_blockS ?_ | with_reducible refine wp_skip' ?_ | with_reducible refine wp_ret' ?_ | with_reducible refine wp_exit' ?_ | with_reducible refine wp_drop (wp_eqT (by simp -dsimp -implicitDefEqProofs [hs]; rfl) ?_) | with_reducible refine wp_block' ?_
        | with_reducible refine wp_condVS (by simp -dsimp -implicitDefEqProofs [hs]; rfl) ?_
        | with_reducible refine wp_condV (by simp -dsimp -implicitDefEqProofs [hs]; rfl) ?_
        | with_reducible refine cond_t ?_ | with_reducible refine cond_f ?_ | with_reducible refine cond_v (fun h => ?_) (fun h => ?_)
        | with_reducible refine post_then ?_ | with_reducible refine post_thenE ?_ | with_reducible refine post_thenP ?_ | with_reducible refine post_blkP ?_ | with_reducible refine post_thenR ?_ | with_reducible refine post_blkN ?_ | with_reducible refine post_blkE ?_ | with_reducible refine post_blkF rfl ?_ | with_reducible refine post_blkR ?_
        | with_reducible refine seg_eval (by simp -dsimp -implicitDefEqProofs [hs]; rfl) ?_
    all_goals first
      | exact post_fin rfl rfl ⟨[], [], rfl, rfl, rfl, rfl⟩
      | trace_state
  by_cases hn0 : n = 0
  · have hnb : (n == 0) = true := by simp [hn0]
    repeat' first
        | with_reducible refine wp_regionS (seg_eval (by simp -dsimp -implicitDefEqProofs [hnb]; rfl) ?_)
        | with_reducible refine wp_region (seg_eval (by simp -dsimp -implicitDefEqProofs [hnb]; rfl) ?_)
        | with_reducible refine wp_drawsS (seg_eval (by simp -dsimp -implicitDefEqProofs [hnb]; rfl) ?_)
        | with_reducible refine wp_draws (seg_eval (by simp -dsimp -implicitDefEqProofs [hnb]; rfl) ?_)
        | with_reducible refine seg_fin ?_
        | with_reducible refine seg_pan ?_
        | with_reducible refine seg_both ?_ ?_
        | with_reducible refine seg_case (fun x h => ?_) (fun h => ?_)
        | with_reducible refine seg_gate (fun h => ?_) (fun h => ?_)
        | with_reducible refine seg_need ?_ ?_
        | with_reducible refine wp_assoc ?_ | with_reducible refine wp_skipS ?_ | with_reducible refine wp_retS ?_ | with_reducible refine wp_exitS ?_ | with_reducible refine wp_dropS (wp_eqT (by simp -dsimp -implicitDefEqProofs [hnb]; rfl) ?_) | with_reducible refine wp_seal (by simp -dsimp -implicitDefEqProofs [hnb]; rfl) ?_ | with_reducible refine wp_blockS ?_ | with_reducible refine wp_skip' ?_ | with_reducible refine wp_ret' ?_ | with_reducible refine wp_exit' ?_ | with_reducible refine wp_drop (wp_eqT (by simp -dsimp -implicitDefEqProofs [hnb]; rfl) ?_) | with_reducible refine wp_block' ?_
        | with_reducible refine wp_condVS (by simp -dsimp -implicitDefEqProofs [hnb]; rfl) ?_
        | with_reducible refine wp_condV (by simp -dsimp -implicitDefEqProofs [hnb]; rfl) ?_
        | with_reducible refine cond_t ?_ | with_reducible refine cond_f ?_ | with_reducible refine cond_v (fun h => ?_) (fun h => ?_)
        | with_reducible refine post_then ?_ | with_reducible refine post_thenE ?_ | with_reducible refine post_thenP ?_ | with_reducible refine post_blkP ?_ | with_reducible refine post_thenR ?_ | with_reducible refine post_blkN ?_ | with_reducible refine post_blkE ?_ | with_reducible refine post_blkF rfl ?_ | with_reducible refine post_blkR ?_
        | with_reducible refine seg_eval (by simp -dsimp -implicitDefEqProofs [hnb]; rfl) ?_
    all_goals first
      | exact post_fin rfl rfl ⟨[], [], rfl, rfl, rfl, rfl⟩
      | trace_state
  have hs' : (s == ⟨#[]⟩) = false := by simpa using hs
  have hnb : (n == 0) = false := by simp [hn0]
  have m2 : may ⟨1, n, s, 0⟩ = false := by simp [may, hs']
  have m3 : may ⟨2, n, s, 0⟩ = false := by simp [may, hnb]
  rw [m2] at e2
  rw [m3] at e3
  simp only [Bool.false_eq_true, if_false] at e2 e3
  cases hc : (canon b == b) with
  | true =>
    have m1 : may ⟨3, 0, ⟨#[]⟩, b⟩ = true := by simp [may, hc]
    rw [m1] at e1
    simp only [if_true] at e1
    repeat' first
        | with_reducible refine wp_regionS (seg_eval (by simp -dsimp -implicitDefEqProofs [hs', hnb, e1, e2, e3, hc, o1, o2, o3]; rfl) ?_)
        | with_reducible refine wp_region (seg_eval (by simp -dsimp -implicitDefEqProofs [hs', hnb, e1, e2, e3, hc, o1, o2, o3]; rfl) ?_)
        | with_reducible refine wp_drawsS (seg_eval (by simp -dsimp -implicitDefEqProofs [hs', hnb, e1, e2, e3, hc, o1, o2, o3]; rfl) ?_)
        | with_reducible refine wp_draws (seg_eval (by simp -dsimp -implicitDefEqProofs [hs', hnb, e1, e2, e3, hc, o1, o2, o3]; rfl) ?_)
        | with_reducible refine seg_fin ?_
        | with_reducible refine seg_pan ?_
        | with_reducible refine seg_both ?_ ?_
        | with_reducible refine seg_case (fun x h => ?_) (fun h => ?_)
        | with_reducible refine seg_gate (fun h => ?_) (fun h => ?_)
        | with_reducible refine seg_need ?_ ?_
        | with_reducible refine wp_assoc ?_ | with_reducible refine wp_skipS ?_ | with_reducible refine wp_retS ?_ | with_reducible refine wp_exitS ?_ | with_reducible refine wp_dropS (wp_eqT (by simp -dsimp -implicitDefEqProofs [hs', hnb, e1, e2, e3, hc, o1, o2, o3]; rfl) ?_) | with_reducible refine wp_seal (by simp -dsimp -implicitDefEqProofs [hs', hnb, e1, e2, e3, hc, o1, o2, o3]; rfl) ?_ | with_reducible refine wp_blockS ?_ | with_reducible refine wp_skip' ?_ | with_reducible refine wp_ret' ?_ | with_reducible refine wp_exit' ?_ | with_reducible refine wp_drop (wp_eqT (by simp -dsimp -implicitDefEqProofs [hs', hnb, e1, e2, e3, hc, o1, o2, o3]; rfl) ?_) | with_reducible refine wp_block' ?_
        | with_reducible refine wp_condVS (by simp -dsimp -implicitDefEqProofs [hs', hnb, e1, e2, e3, hc, o1, o2, o3]; rfl) ?_
        | with_reducible refine wp_condV (by simp -dsimp -implicitDefEqProofs [hs', hnb, e1, e2, e3, hc, o1, o2, o3]; rfl) ?_
        | with_reducible refine cond_t ?_ | with_reducible refine cond_f ?_ | with_reducible refine cond_v (fun h => ?_) (fun h => ?_)
        | with_reducible refine post_then ?_ | with_reducible refine post_thenE ?_ | with_reducible refine post_thenP ?_ | with_reducible refine post_blkP ?_ | with_reducible refine post_thenR ?_ | with_reducible refine post_blkN ?_ | with_reducible refine post_blkE ?_ | with_reducible refine post_blkF rfl ?_ | with_reducible refine post_blkR ?_
        | with_reducible refine seg_eval (by simp -dsimp -implicitDefEqProofs [hs', hnb, e1, e2, e3, hc, o1, o2, o3]; rfl) ?_
    all_goals first
      | omega
      | exact post_fin rfl rfl ⟨[], [], rfl, rfl, rfl, rfl⟩
      | trace_state
  | false =>
    have m1 : may ⟨3, 0, ⟨#[]⟩, b⟩ = false := by simp [may, hc]
    rw [m1] at e1
    simp only [Bool.false_eq_true, if_false] at e1
    repeat' first
        | with_reducible refine wp_regionS (seg_eval (by simp -dsimp -implicitDefEqProofs [hs', hnb, e1, e2, e3, hc, o1, o2, o3]; rfl) ?_)
        | with_reducible refine wp_region (seg_eval (by simp -dsimp -implicitDefEqProofs [hs', hnb, e1, e2, e3, hc, o1, o2, o3]; rfl) ?_)
        | with_reducible refine wp_drawsS (seg_eval (by simp -dsimp -implicitDefEqProofs [hs', hnb, e1, e2, e3, hc, o1, o2, o3]; rfl) ?_)
        | with_reducible refine wp_draws (seg_eval (by simp -dsimp -implicitDefEqProofs [hs', hnb, e1, e2, e3, hc, o1, o2, o3]; rfl) ?_)
        | with_reducible refine seg_fin ?_
        | with_reducible refine seg_pan ?_
        | with_reducible refine seg_both ?_ ?_
        | with_reducible refine seg_case (fun x h => ?_) (fun h => ?_)
        | with_reducible refine seg_gate (fun h => ?_) (fun h => ?_)
        | with_reducible refine seg_need ?_ ?_
        | with_reducible refine wp_assoc ?_ | with_reducible refine wp_skipS ?_ | with_reducible refine wp_retS ?_ | with_reducible refine wp_exitS ?_ | with_reducible refine wp_dropS (wp_eqT (by simp -dsimp -implicitDefEqProofs [hs', hnb, e1, e2, e3, hc, o1, o2, o3]; rfl) ?_) | with_reducible refine wp_seal (by simp -dsimp -implicitDefEqProofs [hs', hnb, e1, e2, e3, hc, o1, o2, o3]; rfl) ?_ | with_reducible refine wp_blockS ?_ | with_reducible refine wp_skip' ?_ | with_reducible refine wp_ret' ?_ | with_reducible refine wp_exit' ?_ | with_reducible refine wp_drop (wp_eqT (by simp -dsimp -implicitDefEqProofs [hs', hnb, e1, e2, e3, hc, o1, o2, o3]; rfl) ?_) | with_reducible refine wp_block' ?_
        | with_reducible refine wp_condVS (by simp -dsimp -implicitDefEqProofs [hs', hnb, e1, e2, e3, hc, o1, o2, o3]; rfl) ?_
        | with_reducible refine wp_condV (by simp -dsimp -implicitDefEqProofs [hs', hnb, e1, e2, e3, hc, o1, o2, o3]; rfl) ?_
        | with_reducible refine cond_t ?_ | with_reducible refine cond_f ?_ | with_reducible refine cond_v (fun h => ?_) (fun h => ?_)
        | with_reducible refine post_then ?_ | with_reducible refine post_thenE ?_ | with_reducible refine post_thenP ?_ | with_reducible refine post_blkP ?_ | with_reducible refine post_thenR ?_ | with_reducible refine post_blkN ?_ | with_reducible refine post_blkE ?_ | with_reducible refine post_blkF rfl ?_ | with_reducible refine post_blkR ?_
        | with_reducible refine seg_eval (by simp -dsimp -implicitDefEqProofs [hs', hnb, e1, e2, e3, hc, o1, o2, o3]; rfl) ?_
    all_goals first
      | omega
      | exact post_fin rfl rfl ⟨[], [], rfl, rfl, rfl, rfl⟩
      | trace_state
end Go.Proofs.Ytbhbpahbopjfeaa.Am
