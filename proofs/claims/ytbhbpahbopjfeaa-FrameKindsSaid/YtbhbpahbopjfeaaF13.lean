import Derived.Test.YtbhbpahbopjfeaaF12
import Derived.Test.YtbhbpahbopjfeaaCodeL
namespace Go.Proofs.Ytbhbpahbopjfeaa.Am
set_option linter.unusedSimpArgs false
set_option linter.unusedVariables false
open Go Go.Proofs
attribute [local irreducible] wpA

theorem one_enc {a : Nat} (ha : a < 18446744073709551616) : encE [⟨1, a, ⟨#[]⟩, 0⟩] = 0 ∧ (enc [⟨1, a, ⟨#[]⟩, 0⟩]).length = 3 + nlen a := by
  have h8 := nlen_le8 ha
  have hl : (encAll [⟨1, a, ⟨#[]⟩, 0⟩]).length = 3 + nlen a := by simp [encAll, flatE, encF, numB_length]; omega
  have he : encE [⟨1, a, ⟨#[]⟩, 0⟩] = 0 := by
    unfold encE
    rw [if_pos (by simp [may]), if_neg (by rw [hl]; simp; omega)]
  exact ⟨he, by unfold enc; rw [if_pos he, hl]⟩

theorem nlen_mono {a b : Nat} (h : a ≤ b) : nlen a ≤ nlen b := (nlen_le _ _).2 (Nat.lt_of_le_of_lt h ((nlen_le _ _).1 (Nat.le_refl _)))

def spNumbers : Spec
  | [.v (.int .u64 a), .v (.int .u64 b)], [] => if 0 ≤ a ∧ a < 18446744073709551616 ∧ 0 ≤ b ∧ b < 18446744073709551616 then some (.ret (.v (.bool true)), []) else none
  | _, _ => none

set_option maxHeartbeats 4000000 in
theorem packNumbers_ok : CallOk Try.prog 9 spNumbers := by
  refine ok_9 E12b_ok spNumbers fun args mem r mem1 h => ?_
  unfold spNumbers at h
  split at h
  case h_2 => cases h
  rename_i a b
  obtain ⟨hx, h1⟩ := if_some h
  clear h
  cases h1
  obtain ⟨a, rfl⟩ := Int.eq_ofNat_of_zero_le hx.1
  obtain ⟨b, rfl⟩ := Int.eq_ofNat_of_zero_le hx.2.2.1
  have ha : a < 18446744073709551616 := by omega
  have hb : b < 18446744073709551616 := by omega
  clear hx
  obtain ⟨ea, la⟩ := one_enc ha
  obtain ⟨eb, lb⟩ := one_enc hb
  have a8 := nlen_le8 ha
  have b8 := nlen_le8 hb
  have oa : Fld.ok ⟨1, a, ⟨#[]⟩, 0⟩ = true := by rw [Fld.ok_iff]; exact ⟨ha, by simp⟩
  have ob : Fld.ok ⟨1, b, ⟨#[]⟩, 0⟩ = true := by rw [Fld.ok_iff]; exact ⟨hb, by simp⟩
  have hmono : ¬ b < a → nlen a ≤ nlen b := fun h => nlen_mono (by omega)
  have hw : IntKind.wrap .i64 (3 + (nlen a : Int) - 3) = (nlen a : Int) := by rw [IntWalk.i64_in _ (by omega)]; omega
  have l3a : decide (3 + (nlen a : Int) < 3) = false := by rw [decide_eq_false_iff_not]; omega
  have l3b : decide (3 + (nlen b : Int) < 3) = false := by rw [decide_eq_false_iff_not]; omega
  have d8 : decide ((nlen a : Int) ≤ 8) = true := by rw [decide_eq_true_eq]; omega
  have hw8 : IntKind.wrap .i64 (8 * (nlen a : Int)) = 8 * (nlen a : Int) := IntWalk.i64_in _ (by omega)
  have hs : ((a : Int).fdiv (2 ^ min (8 * (nlen a : Int)).toNat 64) == 0) = true := by
    have e1 : min (8 * (nlen a : Int)).toNat 64 = 8 * nlen a := by omega
    have hlt := (nlen_le (nlen a) a).1 (Nat.le_refl _)
    have e256 : (256 : Nat) ^ nlen a = 2 ^ (8 * nlen a) := by rw [Nat.pow_mul]
    rw [e1, Int.fdiv_eq_ediv_of_nonneg _ (Int.pow_nonneg (by decide)), beq_iff_eq]
    rw [e256] at hlt
    exact Int.ediv_eq_zero_of_lt (by omega) (by exact_mod_cast hlt)
  by_cases h0 : nlen a = 0
  · unfold ac_9
    have b0 : ((nlen a : Int) == 0) = true := by rw [h0]; rfl
    have b8' : ((nlen a : Int) == 8) = false := by rw [h0]; rfl
    have b0' : (nlen a == 0) = true := by rw [h0]; rfl
    repeat' first
        | with_reducible refine wp_regionS (seg_eval (by simp -dsimp -implicitDefEqProofs [ea, eb, la, lb, oa, ob, hw, l3a, l3b, d8, hw8, hs, b0, b8', b0']; rfl) ?_)
        | with_reducible refine wp_region (seg_eval (by simp -dsimp -implicitDefEqProofs [ea, eb, la, lb, oa, ob, hw, l3a, l3b, d8, hw8, hs, b0, b8', b0']; rfl) ?_)
        | with_reducible refine wp_drawsS (seg_eval (by simp -dsimp -implicitDefEqProofs [ea, eb, la, lb, oa, ob, hw, l3a, l3b, d8, hw8, hs, b0, b8', b0']; rfl) ?_)
        | with_reducible refine wp_draws (seg_eval (by simp -dsimp -implicitDefEqProofs [ea, eb, la, lb, oa, ob, hw, l3a, l3b, d8, hw8, hs, b0, b8', b0']; rfl) ?_)
        | with_reducible refine seg_fin ?_
        | with_reducible refine seg_pan ?_
        | with_reducible refine seg_both ?_ ?_
        | with_reducible refine seg_case (fun x h => ?_) (fun h => ?_)
        | with_reducible refine seg_gate (fun h => ?_) (fun h => ?_)
        | with_reducible refine seg_need ?_ ?_
        | with_reducible refine wp_assoc ?_ | with_reducible refine wp_skipS ?_ | with_reducible refine wp_retS ?_ | with_reducible refine wp_exitS ?_ | with_reducible refine wp_dropS (wp_eqT (by simp -dsimp -implicitDefEqProofs [ea, eb, la, lb, oa, ob, hw, l3a, l3b, d8, hw8, hs, b0, b8', b0']; rfl) ?_) | with_reducible refine wp_sealS (by simp -dsimp -implicitDefEqProofs [ea, eb, la, lb, oa, ob, hw, l3a, l3b, d8, hw8, hs, b0, b8', b0']; rfl) ?_ | with_reducible refine wp_seal (by simp -dsimp -implicitDefEqProofs [ea, eb, la, lb, oa, ob, hw, l3a, l3b, d8, hw8, hs, b0, b8', b0']; rfl) ?_ | with_reducible refine wp_blockS ?_ | with_reducible refine wp_skip' ?_ | with_reducible refine wp_ret' ?_ | with_reducible refine wp_exit' ?_ | with_reducible refine wp_drop (wp_eqT (by simp -dsimp -implicitDefEqProofs [ea, eb, la, lb, oa, ob, hw, l3a, l3b, d8, hw8, hs, b0, b8', b0']; rfl) ?_) | with_reducible refine wp_block' ?_
        | with_reducible refine wp_condVS (by simp -dsimp -implicitDefEqProofs [ea, eb, la, lb, oa, ob, hw, l3a, l3b, d8, hw8, hs, b0, b8', b0']; rfl) ?_
        | with_reducible refine wp_condV (by simp -dsimp -implicitDefEqProofs [ea, eb, la, lb, oa, ob, hw, l3a, l3b, d8, hw8, hs, b0, b8', b0']; rfl) ?_
        | with_reducible refine cond_t ?_ | with_reducible refine cond_f ?_ | with_reducible refine cond_v (fun h => ?_) (fun h => ?_)
        | with_reducible refine post_then ?_ | with_reducible refine post_thenE ?_ | with_reducible refine post_thenP ?_ | with_reducible refine post_blkP ?_ | with_reducible refine post_thenR ?_ | with_reducible refine post_blkN ?_ | with_reducible refine post_blkE ?_ | with_reducible refine post_blkF rfl ?_ | with_reducible refine post_blkR ?_
        | with_reducible refine seg_eval (by simp -dsimp -implicitDefEqProofs [ea, eb, la, lb, oa, ob, hw, l3a, l3b, d8, hw8, hs, b0, b8', b0']; rfl) ?_
    all_goals first
      | omega
      | exact post_fin rfl rfl ⟨[], [], rfl, rfl, rfl, rfl⟩
      | (exfalso; have := hmono; simp only [decide_eq_true_eq, decide_eq_false_iff_not] at *; omega)
  · unfold ac_9
    have b0 : ((nlen a : Int) == 0) = false := by rw [beq_eq_false_iff_ne]; omega
    have b0' : (nlen a == 0) = false := by rw [beq_eq_false_iff_ne]; omega
    have hw1 : IntKind.wrap .i64 ((nlen a : Int) - 1) = ((nlen a - 1 : Nat) : Int) := by rw [IntWalk.i64_in _ (by omega)]; omega
    have hw81 : IntKind.wrap .i64 (8 * ((nlen a - 1 : Nat) : Int)) = 8 * ((nlen a - 1 : Nat) : Int) := IntWalk.i64_in _ (by omega)
    have hs1 : decide (0 < (a : Int).fdiv (2 ^ min (8 * ((nlen a - 1 : Nat) : Int)).toNat 64)) = true := by
      have e1 : min (8 * ((nlen a - 1 : Nat) : Int)).toNat 64 = 8 * (nlen a - 1) := by omega
      have hge : ¬ nlen a ≤ nlen a - 1 := by omega
      rw [nlen_le] at hge
      have e256 : (256 : Nat) ^ (nlen a - 1) = 2 ^ (8 * (nlen a - 1)) := by rw [Nat.pow_mul]
      rw [e1, Int.fdiv_eq_ediv_of_nonneg _ (Int.pow_nonneg (by decide)), decide_eq_true_eq]
      rw [e256] at hge
      have hp : 0 < 2 ^ (8 * (nlen a - 1)) := Nat.two_pow_pos _
      have : 0 < a / 2 ^ (8 * (nlen a - 1)) := Nat.div_pos (by omega) hp
      exact_mod_cast this
    repeat' first
        | with_reducible refine wp_regionS (seg_eval (by simp -dsimp -implicitDefEqProofs [ea, eb, la, lb, oa, ob, hw, l3a, l3b, d8, hw8, hs, b0, b0', hw1, hw81, hs1]; rfl) ?_)
        | with_reducible refine wp_region (seg_eval (by simp -dsimp -implicitDefEqProofs [ea, eb, la, lb, oa, ob, hw, l3a, l3b, d8, hw8, hs, b0, b0', hw1, hw81, hs1]; rfl) ?_)
        | with_reducible refine wp_drawsS (seg_eval (by simp -dsimp -implicitDefEqProofs [ea, eb, la, lb, oa, ob, hw, l3a, l3b, d8, hw8, hs, b0, b0', hw1, hw81, hs1]; rfl) ?_)
        | with_reducible refine wp_draws (seg_eval (by simp -dsimp -implicitDefEqProofs [ea, eb, la, lb, oa, ob, hw, l3a, l3b, d8, hw8, hs, b0, b0', hw1, hw81, hs1]; rfl) ?_)
        | with_reducible refine seg_fin ?_
        | with_reducible refine seg_pan ?_
        | with_reducible refine seg_both ?_ ?_
        | with_reducible refine seg_case (fun x h => ?_) (fun h => ?_)
        | with_reducible refine seg_gate (fun h => ?_) (fun h => ?_)
        | with_reducible refine seg_need ?_ ?_
        | with_reducible refine wp_assoc ?_ | with_reducible refine wp_skipS ?_ | with_reducible refine wp_retS ?_ | with_reducible refine wp_exitS ?_ | with_reducible refine wp_dropS (wp_eqT (by simp -dsimp -implicitDefEqProofs [ea, eb, la, lb, oa, ob, hw, l3a, l3b, d8, hw8, hs, b0, b0', hw1, hw81, hs1]; rfl) ?_) | with_reducible refine wp_sealS (by simp -dsimp -implicitDefEqProofs [ea, eb, la, lb, oa, ob, hw, l3a, l3b, d8, hw8, hs, b0, b0', hw1, hw81, hs1]; rfl) ?_ | with_reducible refine wp_seal (by simp -dsimp -implicitDefEqProofs [ea, eb, la, lb, oa, ob, hw, l3a, l3b, d8, hw8, hs, b0, b0', hw1, hw81, hs1]; rfl) ?_ | with_reducible refine wp_blockS ?_ | with_reducible refine wp_skip' ?_ | with_reducible refine wp_ret' ?_ | with_reducible refine wp_exit' ?_ | with_reducible refine wp_drop (wp_eqT (by simp -dsimp -implicitDefEqProofs [ea, eb, la, lb, oa, ob, hw, l3a, l3b, d8, hw8, hs, b0, b0', hw1, hw81, hs1]; rfl) ?_) | with_reducible refine wp_block' ?_
        | with_reducible refine wp_condVS (by simp -dsimp -implicitDefEqProofs [ea, eb, la, lb, oa, ob, hw, l3a, l3b, d8, hw8, hs, b0, b0', hw1, hw81, hs1]; rfl) ?_
        | with_reducible refine wp_condV (by simp -dsimp -implicitDefEqProofs [ea, eb, la, lb, oa, ob, hw, l3a, l3b, d8, hw8, hs, b0, b0', hw1, hw81, hs1]; rfl) ?_
        | with_reducible refine cond_t ?_ | with_reducible refine cond_f ?_ | with_reducible refine cond_v (fun h => ?_) (fun h => ?_)
        | with_reducible refine post_then ?_ | with_reducible refine post_thenE ?_ | with_reducible refine post_thenP ?_ | with_reducible refine post_blkP ?_ | with_reducible refine post_thenR ?_ | with_reducible refine post_blkN ?_ | with_reducible refine post_blkE ?_ | with_reducible refine post_blkF rfl ?_ | with_reducible refine post_blkR ?_
        | with_reducible refine seg_eval (by simp -dsimp -implicitDefEqProofs [ea, eb, la, lb, oa, ob, hw, l3a, l3b, d8, hw8, hs, b0, b0', hw1, hw81, hs1]; rfl) ?_
    all_goals first
      | omega
      | exact post_fin rfl rfl ⟨[], [], rfl, rfl, rfl, rfl⟩
      | (exfalso; have := hmono; simp only [decide_eq_true_eq, decide_eq_false_iff_not] at *; omega)
end Go.Proofs.Ytbhbpahbopjfeaa.Am
