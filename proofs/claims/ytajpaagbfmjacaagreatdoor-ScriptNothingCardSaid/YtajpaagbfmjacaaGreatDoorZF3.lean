import Derived.Test.YtajpaagbfmjacaaGreatDoorZCodeE
import Derived.Test.YtajpaagbfmjacaaGreatDoorZQ4
namespace Go.Proofs.YtajpaagbfmjacaaGreatDoor.Am
set_option linter.unusedSimpArgs false
set_option linter.unusedVariables false
open Go Go.Proofs

theorem bl_div {n k : Nat} (h : 2 ^ k ≤ n) : bl n = k + bl (n / 2 ^ k) := by
  have key : ∀ j, bl n ≤ k + j ↔ bl (n / 2 ^ k) ≤ j := fun j => by
    rw [bl_le, bl_le, Nat.pow_add, Nat.div_lt_iff_lt_mul (Nat.two_pow_pos k), Nat.mul_comm]
  have h1 := (key (bl (n / 2 ^ k))).2 (Nat.le_refl _)
  have hk : ¬ bl n ≤ k := by rw [bl_le]; omega
  have h2 := (key (bl n - k)).1 (by omega)
  omega

set_option maxRecDepth 20000 in
theorem bl_tab : ∀ b : Fin 256, bytes_d46a035e.data.toList[b.val]? = some (UInt8.ofNat (bl b.val)) := by decide

theorem tab_at (y : Int) (h : 0 ≤ y ∧ y < 256) : bytes_d46a035e.data[(IntKind.u8.wrap y).toNat]? = some (UInt8.ofNat (bl y.toNat)) := by
  rw [IntWalk.u8_in y (by omega)]
  have := bl_tab ⟨y.toNat, by omega⟩
  simpa using this

theorem u8_nonneg (n : Int) : 0 ≤ IntKind.u8.wrap n := by rw [IntKind.wrap_u8]; omega

theorem bl_small {y : Nat} (h : y < 256) : bl y ≤ 8 := (bl_le y 8).2 h

theorem bl_int (n : Int) (k : Nat) (q : Int) (hq : q = 2 ^ k) (h : q ≤ n) : (bl n.toNat : Int) = k + bl (n / q).toNat := by
  subst hq
  have h0 : (0 : Int) ≤ 2 ^ k := Int.pow_nonneg (by decide)
  obtain ⟨m, rfl⟩ : ∃ m : Nat, n = m := ⟨n.toNat, by omega⟩
  have hm : 2 ^ k ≤ m := by exact_mod_cast h
  have e : ((m : Int) / 2 ^ k).toNat = m / 2 ^ k := by
    have : ((m : Int) / 2 ^ k) = ((m / 2 ^ k : Nat) : Int) := by push_cast; rfl
    rw [this]; rfl
  rw [e, Int.toNat_natCast, bl_div hm]
  push_cast; rfl

def spLen64 : Spec
  | [.v (.int .u64 n)], [] => if 0 ≤ n ∧ n < 18446744073709551616 then some (.ret (.v (.int .i64 (bl n.toNat))), []) else none
  | _, _ => none

set_option maxRecDepth 20000 in
theorem len64_ok {Γ : Env} (hΓ : EnvOk Tryz.prog Γ) : CallOk Tryz.prog 120 spLen64 := by
  refine ok_120 hΓ spLen64 fun args mem r mem1 h => ?_
  unfold spLen64 at h
  split at h
  case h_2 => cases h
  rename_i n
  split at h
  case isFalse => cases h
  rename_i hn
  cases h
  unfold ac_120
  repeat' first
      | with_reducible refine wp_regionS (seg_eval (by simp -dsimp -implicitDefEqProofs; rfl) ?_)
      | with_reducible refine wp_region (seg_eval (by simp -dsimp -implicitDefEqProofs; rfl) ?_)
      | with_reducible refine wp_drawsS (seg_eval (by simp -dsimp -implicitDefEqProofs; rfl) ?_)
      | with_reducible refine wp_draws (seg_eval (by simp -dsimp -implicitDefEqProofs; rfl) ?_)
      | with_reducible refine seg_fin ?_
      | with_reducible refine seg_pan ?_
      | with_reducible refine seg_both ?_ ?_
      | with_reducible refine seg_case (fun x h => ?_) (fun h => ?_)
      | with_reducible refine seg_gate (fun h => ?_) (fun h => ?_)
      | with_reducible refine seg_need ?_ ?_
      | with_reducible refine wp_assoc ?_ | with_reducible refine wp_skipS ?_ | with_reducible refine wp_retS ?_ | with_reducible refine wp_exitS ?_ | with_reducible refine wp_dropS (wp_eqT (by simp -dsimp -implicitDefEqProofs; rfl) ?_) | with_reducible refine wp_sealS (by simp -dsimp -implicitDefEqProofs; rfl) ?_ | with_reducible refine wp_seal (by simp -dsimp -implicitDefEqProofs; rfl) ?_ | with_reducible refine wp_closeS (by simp -dsimp -implicitDefEqProofs; rfl) ?_ | with_reducible refine wp_close (by simp -dsimp -implicitDefEqProofs; rfl) ?_ | with_reducible refine wp_conc_out ?_ | with_reducible refine wp_open_out ?_ | with_reducible refine wp_pack_out ?_ | with_reducible refine wp_blockS ?_ | with_reducible refine wp_skip' ?_ | with_reducible refine wp_ret' ?_ | with_reducible refine wp_exit' ?_ | with_reducible refine wp_drop (wp_eqT (by simp -dsimp -implicitDefEqProofs; rfl) ?_) | with_reducible refine wp_block' ?_
      | with_reducible refine wp_condVS (by simp -dsimp -implicitDefEqProofs; rfl) ?_
      | with_reducible refine wp_condV (by simp -dsimp -implicitDefEqProofs; rfl) ?_
      | with_reducible refine cond_t ?_ | with_reducible refine cond_f ?_ | with_reducible refine cond_v (fun h => ?_) (fun h => ?_)
      | with_reducible refine post_then ?_ | with_reducible refine post_thenE ?_ | with_reducible refine post_thenP ?_ | with_reducible refine post_blkP ?_ | with_reducible refine post_thenR ?_ | with_reducible refine post_blkN ?_ | with_reducible refine post_blkE ?_ | with_reducible refine post_blkF rfl ?_ | with_reducible refine post_blkR ?_
      | with_reducible refine seg_eval (by simp -dsimp -implicitDefEqProofs; rfl) ?_
  all_goals simp only [decide_eq_true_eq, decide_eq_false_iff_not] at *
  all_goals first
    | exact u8_nonneg _
    | refine seg_look _ (tab_at _ (by constructor <;> omega)) ?_
  repeat' first
      | with_reducible refine wp_regionS (seg_eval (by simp -dsimp -implicitDefEqProofs; rfl) ?_)
      | with_reducible refine wp_region (seg_eval (by simp -dsimp -implicitDefEqProofs; rfl) ?_)
      | with_reducible refine wp_drawsS (seg_eval (by simp -dsimp -implicitDefEqProofs; rfl) ?_)
      | with_reducible refine wp_draws (seg_eval (by simp -dsimp -implicitDefEqProofs; rfl) ?_)
      | with_reducible refine seg_fin ?_
      | with_reducible refine seg_pan ?_
      | with_reducible refine seg_both ?_ ?_
      | with_reducible refine seg_case (fun x h => ?_) (fun h => ?_)
      | with_reducible refine seg_gate (fun h => ?_) (fun h => ?_)
      | with_reducible refine seg_need ?_ ?_
      | with_reducible refine wp_assoc ?_ | with_reducible refine wp_skipS ?_ | with_reducible refine wp_retS ?_ | with_reducible refine wp_exitS ?_ | with_reducible refine wp_dropS (wp_eqT (by simp -dsimp -implicitDefEqProofs; rfl) ?_) | with_reducible refine wp_sealS (by simp -dsimp -implicitDefEqProofs; rfl) ?_ | with_reducible refine wp_seal (by simp -dsimp -implicitDefEqProofs; rfl) ?_ | with_reducible refine wp_closeS (by simp -dsimp -implicitDefEqProofs; rfl) ?_ | with_reducible refine wp_close (by simp -dsimp -implicitDefEqProofs; rfl) ?_ | with_reducible refine wp_conc_out ?_ | with_reducible refine wp_open_out ?_ | with_reducible refine wp_pack_out ?_ | with_reducible refine wp_blockS ?_ | with_reducible refine wp_skip' ?_ | with_reducible refine wp_ret' ?_ | with_reducible refine wp_exit' ?_ | with_reducible refine wp_drop (wp_eqT (by simp -dsimp -implicitDefEqProofs; rfl) ?_) | with_reducible refine wp_block' ?_
      | with_reducible refine wp_condVS (by simp -dsimp -implicitDefEqProofs; rfl) ?_
      | with_reducible refine wp_condV (by simp -dsimp -implicitDefEqProofs; rfl) ?_
      | with_reducible refine cond_t ?_ | with_reducible refine cond_f ?_ | with_reducible refine cond_v (fun h => ?_) (fun h => ?_)
      | with_reducible refine post_then ?_ | with_reducible refine post_thenE ?_ | with_reducible refine post_thenP ?_ | with_reducible refine post_blkP ?_ | with_reducible refine post_thenR ?_ | with_reducible refine post_blkN ?_ | with_reducible refine post_blkE ?_ | with_reducible refine post_blkF rfl ?_ | with_reducible refine post_blkR ?_
      | with_reducible refine seg_eval (by simp -dsimp -implicitDefEqProofs; rfl) ?_
  all_goals refine post_fin rfl rfl ⟨[], [], rfl, rfl, ?_, rfl⟩
  all_goals simp only [oneOr, tget, ↓reduceIte, AV.res, AV.mapId, AV.v.injEq, Value.int.injEq, true_and]
  · rw [bl_int (n) 32 4294967296 rfl (by omega), bl_int (n / 4294967296) 16 65536 rfl (by omega), bl_int (n / 4294967296 / 65536) 8 256 rfl (by omega)]
    have := bl_small (y := (n / 4294967296 / 65536 / 256).toNat) (by omega)
    simp (disch := omega) only [IntWalk.i64_in, Int.emod_eq_of_lt]
    try omega
  · rw [bl_int (n) 32 4294967296 rfl (by omega), bl_int (n / 4294967296) 16 65536 rfl (by omega)]
    have := bl_small (y := (n / 4294967296 / 65536).toNat) (by omega)
    simp (disch := omega) only [IntWalk.i64_in, Int.emod_eq_of_lt]
    try omega
  · rw [bl_int (n) 32 4294967296 rfl (by omega), bl_int (n / 4294967296) 8 256 rfl (by omega)]
    have := bl_small (y := (n / 4294967296 / 256).toNat) (by omega)
    simp (disch := omega) only [IntWalk.i64_in, Int.emod_eq_of_lt]
    try omega
  · rw [bl_int (n) 32 4294967296 rfl (by omega)]
    have := bl_small (y := (n / 4294967296).toNat) (by omega)
    simp (disch := omega) only [IntWalk.i64_in, Int.emod_eq_of_lt]
    try omega
  · rw [bl_int (n) 16 65536 rfl (by omega), bl_int (n / 65536) 8 256 rfl (by omega)]
    have := bl_small (y := (n / 65536 / 256).toNat) (by omega)
    simp (disch := omega) only [IntWalk.i64_in, Int.emod_eq_of_lt]
    try omega
  · rw [bl_int (n) 16 65536 rfl (by omega)]
    have := bl_small (y := (n / 65536).toNat) (by omega)
    simp (disch := omega) only [IntWalk.i64_in, Int.emod_eq_of_lt]
    try omega
  · rw [bl_int (n) 8 256 rfl (by omega)]
    have := bl_small (y := (n / 256).toNat) (by omega)
    simp (disch := omega) only [IntWalk.i64_in, Int.emod_eq_of_lt]
    try omega
  · have := bl_small (y := (n).toNat) (by omega)
    simp (disch := omega) only [IntWalk.i64_in, Int.emod_eq_of_lt]
    try omega
end Go.Proofs.YtajpaagbfmjacaaGreatDoor.Am
