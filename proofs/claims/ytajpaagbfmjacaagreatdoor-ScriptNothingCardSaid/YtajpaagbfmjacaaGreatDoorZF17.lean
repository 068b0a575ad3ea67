import Derived.Test.YtajpaagbfmjacaaGreatDoorZF8
import Derived.Test.YtajpaagbfmjacaaGreatDoorZQ5
namespace Go.Proofs.YtajpaagbfmjacaaGreatDoor.Am
set_option linter.unusedSimpArgs false
set_option linter.unusedVariables false
open Go Go.Proofs
attribute [local irreducible] wpA

theorem dv_rem (m i : Nat) : IntKind.wrap .u8 ((dv m i : Int).tmod 256) = ((u8 (dv m i)).toNat : Int) := by
  have : ((dv m i : Int).tmod 256) = ((dv m i % 256 : Nat) : Int) := rfl
  rw [this, IntKind.wrap_u8, u8_toNat]; omega
theorem dv_rem' (m i : Nat) : IntKind.wrap .u8 ((dv m i : Int) % 256) = ((u8 (dv m i)).toNat : Int) := by
  rw [IntKind.wrap_u8, u8_toNat]; omega
theorem dv_quo {m : Nat} (hm : m < 18446744073709551616) (i : Nat) : IntKind.wrap .u64 ((dv m i : Int).tdiv 256) = (dv m (i + 1) : Int) := by
  have h1 := dv_lt hm i
  have : ((dv m i : Int).tdiv 256) = ((dv m i / 256 : Nat) : Int) := rfl
  rw [this, u64_in _ (by omega), dv_div]
theorem dv_quo' {m : Nat} (hm : m < 18446744073709551616) (i : Nat) : IntKind.wrap .u64 ((dv m i : Int) / 256) = (dv m (i + 1) : Int) := by
  have h1 := dv_lt hm i
  rw [u64_in _ (by omega), ← dv_div]; omega
theorem lowB_dv (m i : Nat) : lowB m (i + 1) = lowB m i ++ [u8 (dv m i)] := lowB_snoc m i

/-! ### The document's bytes -/
def spLowR : Spec
  | [.v (.int .u64 n), .v (.int .i64 k)], [] => if 0 ≤ n ∧ n < 18446744073709551616 ∧ 0 ≤ k ∧ k ≤ 8 then some (.ret (.fsl 1 (bv (lowB n.toNat k.toNat))), []) else none
  | _, _ => none

theorem lowR_ok : CallOk Tryz.prog 133 spLowR := by
  refine ok_133 E8_ok spLowR fun args mem r mem1 h => ?_
  unfold spLowR at h
  split at h
  case h_2 => cases h
  rename_i n k
  obtain ⟨hx, h1⟩ := if_some h
  clear h
  cases h1
  obtain ⟨m, rfl⟩ := Int.eq_ofNat_of_zero_le hx.1
  obtain ⟨k, rfl⟩ := Int.eq_ofNat_of_zero_le hx.2.2.1
  have hm : m < 18446744073709551616 := by omega
  simp only [Int.toNat_natCast]
  unfold ac_133
  repeat' first
      | with_reducible refine wp_regionS (seg_eval (by simp -dsimp -implicitDefEqProofs; rfl) ?_)
      | with_reducible refine wp_region (seg_eval (by simp -dsimp -implicitDefEqProofs; rfl) ?_)
      | with_reducible refine wp_drawsS (seg_eval (by simp -dsimp -implicitDefEqProofs; rfl) ?_)
      | with_reducible refine wp_draws (seg_eval (by simp -dsimp -implicitDefEqProofs; rfl) ?_)
      | with_reducible refine seg_fin ?_
      | with_reducible refine seg_pan ?_
      | with_reducible refine seg_both ?_ ?_
      | with_reducible refine seg_case (fun x h => ?_) (fun h => ?_)
      | with_reducible refine seg_gate (fun h => ?_) (fun h => ?_)
      | with_reducible refine seg_need ?_ ?_
      | with_reducible refine wp_assoc ?_ | with_reducible refine wp_skipS ?_ | with_reducible refine wp_retS ?_ | with_reducible refine wp_exitS ?_ | with_reducible refine wp_dropS (wp_eqT (by simp -dsimp -implicitDefEqProofs; rfl) ?_) | with_reducible refine wp_sealS (by simp -dsimp -implicitDefEqProofs; rfl) ?_ | with_reducible refine wp_seal (by simp -dsimp -implicitDefEqProofs; rfl) ?_ | with_reducible refine wp_closeS (by simp -dsimp -implicitDefEqProofs; rfl) ?_ | with_reducible refine wp_close (by simp -dsimp -implicitDefEqProofs; rfl) ?_ | with_reducible refine wp_conc_out ?_ | with_reducible refine wp_open_out ?_ | with_reducible refine wp_pack_out ?_ | with_reducible refine wp_blockS ?_ | with_reducible refine wp_skip' ?_ | with_reducible refine wp_ret' ?_ | with_reducible refine wp_exit' ?_ | with_reducible refine wp_drop (wp_eqT (by simp -dsimp -implicitDefEqProofs; rfl) ?_) | with_reducible refine wp_block' ?_
      | with_reducible refine wp_condVS (by simp -dsimp -implicitDefEqProofs; rfl) ?_
      | with_reducible refine wp_condV (by simp -dsimp -implicitDefEqProofs; rfl) ?_
      | with_reducible refine cond_t ?_ | with_reducible refine cond_f ?_ | with_reducible refine cond_v (fun h => ?_) (fun h => ?_)
      | with_reducible refine post_then ?_ | with_reducible refine post_thenE ?_ | with_reducible refine post_thenP ?_ | with_reducible refine post_blkP ?_ | with_reducible refine post_thenR ?_ | with_reducible refine post_blkN ?_ | with_reducible refine post_blkE ?_ | with_reducible refine post_blkF rfl ?_ | with_reducible refine post_blkR ?_
      | with_reducible refine seg_eval (by simp -dsimp -implicitDefEqProofs; rfl) ?_
  refine wp_loop' (fun j ts mm => ∃ i : Nat, i + j = k ∧ ts = [(0, .v (.int .u64 (dv m i))), (1, .v (.int .i64 k)), (5, .osl 0), (6, .v (.int .i64 i))] ∧ mm = [.arr 5 1 (bv (lowB m i))]) k ?_ ?_
  · exact ⟨[(5, 5, 1)], [0], rfl, rfl, 0, by omega, by simp [dv_zero], by simp [lowB]⟩
  · rintro j ts mm ⟨i, hi, rfl, rfl⟩
    by_cases hlt : i < k
    · have hd2 : decide (i < k) = true := by simp [hlt]
      have h64 : IntKind.wrap .i64 ((i : Int) + 1) = ((i + 1 : Nat) : Int) := by rw [IntWalk.i64_in _ (by omega)]; rfl
      repeat' first
          | with_reducible refine wp_regionS (seg_eval (by simp -dsimp -implicitDefEqProofs [hd2, h64, dv_rem, dv_rem', dv_quo hm, dv_quo' hm]; rfl) ?_)
          | with_reducible refine wp_region (seg_eval (by simp -dsimp -implicitDefEqProofs [hd2, h64, dv_rem, dv_rem', dv_quo hm, dv_quo' hm]; rfl) ?_)
          | with_reducible refine wp_drawsS (seg_eval (by simp -dsimp -implicitDefEqProofs [hd2, h64, dv_rem, dv_rem', dv_quo hm, dv_quo' hm]; rfl) ?_)
          | with_reducible refine wp_draws (seg_eval (by simp -dsimp -implicitDefEqProofs [hd2, h64, dv_rem, dv_rem', dv_quo hm, dv_quo' hm]; rfl) ?_)
          | with_reducible refine seg_fin ?_
          | with_reducible refine seg_pan ?_
          | with_reducible refine seg_both ?_ ?_
          | with_reducible refine seg_case (fun x h => ?_) (fun h => ?_)
          | with_reducible refine seg_gate (fun h => ?_) (fun h => ?_)
          | with_reducible refine seg_need ?_ ?_
          | with_reducible refine wp_assoc ?_ | with_reducible refine wp_skipS ?_ | with_reducible refine wp_retS ?_ | with_reducible refine wp_exitS ?_ | with_reducible refine wp_dropS (wp_eqT (by simp -dsimp -implicitDefEqProofs [hd2, h64, dv_rem, dv_rem', dv_quo hm, dv_quo' hm]; rfl) ?_) | with_reducible refine wp_sealS (by simp -dsimp -implicitDefEqProofs [hd2, h64, dv_rem, dv_rem', dv_quo hm, dv_quo' hm]; rfl) ?_ | with_reducible refine wp_seal (by simp -dsimp -implicitDefEqProofs [hd2, h64, dv_rem, dv_rem', dv_quo hm, dv_quo' hm]; rfl) ?_ | with_reducible refine wp_closeS (by simp -dsimp -implicitDefEqProofs [hd2, h64, dv_rem, dv_rem', dv_quo hm, dv_quo' hm]; rfl) ?_ | with_reducible refine wp_close (by simp -dsimp -implicitDefEqProofs [hd2, h64, dv_rem, dv_rem', dv_quo hm, dv_quo' hm]; rfl) ?_ | with_reducible refine wp_conc_out ?_ | with_reducible refine wp_open_out ?_ | with_reducible refine wp_pack_out ?_ | with_reducible refine wp_blockS ?_ | with_reducible refine wp_skip' ?_ | with_reducible refine wp_ret' ?_ | with_reducible refine wp_exit' ?_ | with_reducible refine wp_drop (wp_eqT (by simp -dsimp -implicitDefEqProofs [hd2, h64, dv_rem, dv_rem', dv_quo hm, dv_quo' hm]; rfl) ?_) | with_reducible refine wp_block' ?_
          | with_reducible refine wp_condVS (by simp -dsimp -implicitDefEqProofs [hd2, h64, dv_rem, dv_rem', dv_quo hm, dv_quo' hm]; rfl) ?_
          | with_reducible refine wp_condV (by simp -dsimp -implicitDefEqProofs [hd2, h64, dv_rem, dv_rem', dv_quo hm, dv_quo' hm]; rfl) ?_
          | with_reducible refine cond_t ?_ | with_reducible refine cond_f ?_ | with_reducible refine cond_v (fun h => ?_) (fun h => ?_)
          | with_reducible refine post_then ?_ | with_reducible refine post_thenE ?_ | with_reducible refine post_thenP ?_ | with_reducible refine post_blkP ?_ | with_reducible refine post_thenR ?_ | with_reducible refine post_blkN ?_ | with_reducible refine post_blkE ?_ | with_reducible refine post_blkF rfl ?_ | with_reducible refine post_blkR ?_
          | with_reducible refine seg_eval (by simp -dsimp -implicitDefEqProofs [hd2, h64, dv_rem, dv_rem', dv_quo hm, dv_quo' hm]; rfl) ?_
      · omega
      · exact ⟨j - 1, by omega, [], [2], rfl, rfl, i + 1, by omega, by simp, by simp [lowB_dv]⟩
    · have hd2 : decide (i < k) = false := by simp [hlt]
      have him : i = k := by omega
      subst him
      repeat' first
          | with_reducible refine wp_regionS (seg_eval (by simp -dsimp -implicitDefEqProofs [hd2]; rfl) ?_)
          | with_reducible refine wp_region (seg_eval (by simp -dsimp -implicitDefEqProofs [hd2]; rfl) ?_)
          | with_reducible refine wp_drawsS (seg_eval (by simp -dsimp -implicitDefEqProofs [hd2]; rfl) ?_)
          | with_reducible refine wp_draws (seg_eval (by simp -dsimp -implicitDefEqProofs [hd2]; rfl) ?_)
          | with_reducible refine seg_fin ?_
          | with_reducible refine seg_pan ?_
          | with_reducible refine seg_both ?_ ?_
          | with_reducible refine seg_case (fun x h => ?_) (fun h => ?_)
          | with_reducible refine seg_gate (fun h => ?_) (fun h => ?_)
          | with_reducible refine seg_need ?_ ?_
          | with_reducible refine wp_assoc ?_ | with_reducible refine wp_skipS ?_ | with_reducible refine wp_retS ?_ | with_reducible refine wp_exitS ?_ | with_reducible refine wp_dropS (wp_eqT (by simp -dsimp -implicitDefEqProofs [hd2]; rfl) ?_) | with_reducible refine wp_sealS (by simp -dsimp -implicitDefEqProofs [hd2]; rfl) ?_ | with_reducible refine wp_seal (by simp -dsimp -implicitDefEqProofs [hd2]; rfl) ?_ | with_reducible refine wp_closeS (by simp -dsimp -implicitDefEqProofs [hd2]; rfl) ?_ | with_reducible refine wp_close (by simp -dsimp -implicitDefEqProofs [hd2]; rfl) ?_ | with_reducible refine wp_conc_out ?_ | with_reducible refine wp_open_out ?_ | with_reducible refine wp_pack_out ?_ | with_reducible refine wp_blockS ?_ | with_reducible refine wp_skip' ?_ | with_reducible refine wp_ret' ?_ | with_reducible refine wp_exit' ?_ | with_reducible refine wp_drop (wp_eqT (by simp -dsimp -implicitDefEqProofs [hd2]; rfl) ?_) | with_reducible refine wp_block' ?_
          | with_reducible refine wp_condVS (by simp -dsimp -implicitDefEqProofs [hd2]; rfl) ?_
          | with_reducible refine wp_condV (by simp -dsimp -implicitDefEqProofs [hd2]; rfl) ?_
          | with_reducible refine cond_t ?_ | with_reducible refine cond_f ?_ | with_reducible refine cond_v (fun h => ?_) (fun h => ?_)
          | with_reducible refine post_then ?_ | with_reducible refine post_thenE ?_ | with_reducible refine post_thenP ?_ | with_reducible refine post_blkP ?_ | with_reducible refine post_thenR ?_ | with_reducible refine post_blkN ?_ | with_reducible refine post_blkE ?_ | with_reducible refine post_blkF rfl ?_ | with_reducible refine post_blkR ?_
          | with_reducible refine seg_eval (by simp -dsimp -implicitDefEqProofs [hd2]; rfl) ?_
      exact post_fin rfl rfl ⟨[0], [], rfl, rfl, rfl, rfl⟩

def E17 : Env := E8.put 133 [] spLowR
theorem E17_ok : EnvOk Tryz.prog E17 := Env.put_ok _ E8_ok lowR_ok
attribute [simp] E17 spLowR

def spNumR : Spec
  | [.v (.int .u64 n)], [] => if 0 ≤ n ∧ n < 18446744073709551616 then some (.ret (.fsl 1 (bv (numB n.toNat))), []) else none
  | _, _ => none

theorem numR_ok : CallOk Tryz.prog 132 spNumR := by
  refine ok_132 E17_ok spNumR fun args mem r mem1 h => ?_
  unfold spNumR at h
  split at h
  case h_2 => cases h
  rename_i n
  obtain ⟨hx, h1⟩ := if_some h
  clear h
  cases h1
  obtain ⟨m, rfl⟩ := Int.eq_ofNat_of_zero_le hx.1
  have hm : m < 18446744073709551616 := by omega
  have h8 := nlen_le8 hm
  simp only [Int.toNat_natCast]
  unfold ac_132
  repeat' first
      | with_reducible refine wp_regionS (seg_eval (by simp -dsimp -implicitDefEqProofs; rfl) ?_)
      | with_reducible refine wp_region (seg_eval (by simp -dsimp -implicitDefEqProofs; rfl) ?_)
      | with_reducible refine wp_drawsS (seg_eval (by simp -dsimp -implicitDefEqProofs; rfl) ?_)
      | with_reducible refine wp_draws (seg_eval (by simp -dsimp -implicitDefEqProofs; rfl) ?_)
      | with_reducible refine seg_fin ?_
      | with_reducible refine seg_pan ?_
      | with_reducible refine seg_both ?_ ?_
      | with_reducible refine seg_case (fun x h => ?_) (fun h => ?_)
      | with_reducible refine seg_gate (fun h => ?_) (fun h => ?_)
      | with_reducible refine seg_need ?_ ?_
      | with_reducible refine wp_assoc ?_ | with_reducible refine wp_skipS ?_ | with_reducible refine wp_retS ?_ | with_reducible refine wp_exitS ?_ | with_reducible refine wp_dropS (wp_eqT (by simp -dsimp -implicitDefEqProofs; rfl) ?_) | with_reducible refine wp_sealS (by simp -dsimp -implicitDefEqProofs; rfl) ?_ | with_reducible refine wp_seal (by simp -dsimp -implicitDefEqProofs; rfl) ?_ | with_reducible refine wp_closeS (by simp -dsimp -implicitDefEqProofs; rfl) ?_ | with_reducible refine wp_close (by simp -dsimp -implicitDefEqProofs; rfl) ?_ | with_reducible refine wp_conc_out ?_ | with_reducible refine wp_open_out ?_ | with_reducible refine wp_pack_out ?_ | with_reducible refine wp_blockS ?_ | with_reducible refine wp_skip' ?_ | with_reducible refine wp_ret' ?_ | with_reducible refine wp_exit' ?_ | with_reducible refine wp_drop (wp_eqT (by simp -dsimp -implicitDefEqProofs; rfl) ?_) | with_reducible refine wp_block' ?_
      | with_reducible refine wp_condVS (by simp -dsimp -implicitDefEqProofs; rfl) ?_
      | with_reducible refine wp_condV (by simp -dsimp -implicitDefEqProofs; rfl) ?_
      | with_reducible refine cond_t ?_ | with_reducible refine cond_f ?_ | with_reducible refine cond_v (fun h => ?_) (fun h => ?_)
      | with_reducible refine post_then ?_ | with_reducible refine post_thenE ?_ | with_reducible refine post_thenP ?_ | with_reducible refine post_blkP ?_ | with_reducible refine post_thenR ?_ | with_reducible refine post_blkN ?_ | with_reducible refine post_blkE ?_ | with_reducible refine post_blkF rfl ?_ | with_reducible refine post_blkR ?_
      | with_reducible refine seg_eval (by simp -dsimp -implicitDefEqProofs; rfl) ?_
  refine wp_loop' (fun j ts mm => ∃ i : Nat, i + j = nlen m ∧ ts = [(0, .v (.int .u64 m)), (3, .v (.int .i64 i)), (4, .v (.int .u64 (dv m i)))] ∧ mm = []) (nlen m) ?_ ?_
  · exact ⟨[], [], rfl, rfl, 0, by omega, by simp [dv_zero], by simp⟩
  · rintro j ts mm ⟨i, hi, rfl, rfl⟩
    have hp := dv_pos m i
    by_cases hlt : i < nlen m
    · have hd2 : decide (0 < dv m i) = true := by rw [decide_eq_true_eq]; omega
      have hd2' : decide (0 < (dv m i : Int)) = true := by rw [decide_eq_true_eq]; omega
      have h64 : IntKind.wrap .i64 ((i : Int) + 1) = ((i + 1 : Nat) : Int) := by rw [IntWalk.i64_in _ (by omega)]; rfl
      repeat' first
          | with_reducible refine wp_regionS (seg_eval (by simp -dsimp -implicitDefEqProofs [hd2, hd2', h64, dv_quo hm, dv_quo' hm]; rfl) ?_)
          | with_reducible refine wp_region (seg_eval (by simp -dsimp -implicitDefEqProofs [hd2, hd2', h64, dv_quo hm, dv_quo' hm]; rfl) ?_)
          | with_reducible refine wp_drawsS (seg_eval (by simp -dsimp -implicitDefEqProofs [hd2, hd2', h64, dv_quo hm, dv_quo' hm]; rfl) ?_)
          | with_reducible refine wp_draws (seg_eval (by simp -dsimp -implicitDefEqProofs [hd2, hd2', h64, dv_quo hm, dv_quo' hm]; rfl) ?_)
          | with_reducible refine seg_fin ?_
          | with_reducible refine seg_pan ?_
          | with_reducible refine seg_both ?_ ?_
          | with_reducible refine seg_case (fun x h => ?_) (fun h => ?_)
          | with_reducible refine seg_gate (fun h => ?_) (fun h => ?_)
          | with_reducible refine seg_need ?_ ?_
          | with_reducible refine wp_assoc ?_ | with_reducible refine wp_skipS ?_ | with_reducible refine wp_retS ?_ | with_reducible refine wp_exitS ?_ | with_reducible refine wp_dropS (wp_eqT (by simp -dsimp -implicitDefEqProofs [hd2, hd2', h64, dv_quo hm, dv_quo' hm]; rfl) ?_) | with_reducible refine wp_sealS (by simp -dsimp -implicitDefEqProofs [hd2, hd2', h64, dv_quo hm, dv_quo' hm]; rfl) ?_ | with_reducible refine wp_seal (by simp -dsimp -implicitDefEqProofs [hd2, hd2', h64, dv_quo hm, dv_quo' hm]; rfl) ?_ | with_reducible refine wp_closeS (by simp -dsimp -implicitDefEqProofs [hd2, hd2', h64, dv_quo hm, dv_quo' hm]; rfl) ?_ | with_reducible refine wp_close (by simp -dsimp -implicitDefEqProofs [hd2, hd2', h64, dv_quo hm, dv_quo' hm]; rfl) ?_ | with_reducible refine wp_conc_out ?_ | with_reducible refine wp_open_out ?_ | with_reducible refine wp_pack_out ?_ | with_reducible refine wp_blockS ?_ | with_reducible refine wp_skip' ?_ | with_reducible refine wp_ret' ?_ | with_reducible refine wp_exit' ?_ | with_reducible refine wp_drop (wp_eqT (by simp -dsimp -implicitDefEqProofs [hd2, hd2', h64, dv_quo hm, dv_quo' hm]; rfl) ?_) | with_reducible refine wp_block' ?_
          | with_reducible refine wp_condVS (by simp -dsimp -implicitDefEqProofs [hd2, hd2', h64, dv_quo hm, dv_quo' hm]; rfl) ?_
          | with_reducible refine wp_condV (by simp -dsimp -implicitDefEqProofs [hd2, hd2', h64, dv_quo hm, dv_quo' hm]; rfl) ?_
          | with_reducible refine cond_t ?_ | with_reducible refine cond_f ?_ | with_reducible refine cond_v (fun h => ?_) (fun h => ?_)
          | with_reducible refine post_then ?_ | with_reducible refine post_thenE ?_ | with_reducible refine post_thenP ?_ | with_reducible refine post_blkP ?_ | with_reducible refine post_thenR ?_ | with_reducible refine post_blkN ?_ | with_reducible refine post_blkE ?_ | with_reducible refine post_blkF rfl ?_ | with_reducible refine post_blkR ?_
          | with_reducible refine seg_eval (by simp -dsimp -implicitDefEqProofs [hd2, hd2', h64, dv_quo hm, dv_quo' hm]; rfl) ?_
      exact ⟨j - 1, by omega, [], [], rfl, rfl, i + 1, by omega, by simp, by simp⟩
    · have hd2 : decide (0 < dv m i) = false := by rw [decide_eq_false_iff_not]; omega
      have hd2' : decide (0 < (dv m i : Int)) = false := by rw [decide_eq_false_iff_not]; omega
      have him : i = nlen m := by omega
      subst him
      repeat' first
          | with_reducible refine wp_regionS (seg_eval (by simp -dsimp -implicitDefEqProofs [hd2, hd2']; rfl) ?_)
          | with_reducible refine wp_region (seg_eval (by simp -dsimp -implicitDefEqProofs [hd2, hd2']; rfl) ?_)
          | with_reducible refine wp_drawsS (seg_eval (by simp -dsimp -implicitDefEqProofs [hd2, hd2']; rfl) ?_)
          | with_reducible refine wp_draws (seg_eval (by simp -dsimp -implicitDefEqProofs [hd2, hd2']; rfl) ?_)
          | with_reducible refine seg_fin ?_
          | with_reducible refine seg_pan ?_
          | with_reducible refine seg_both ?_ ?_
          | with_reducible refine seg_case (fun x h => ?_) (fun h => ?_)
          | with_reducible refine seg_gate (fun h => ?_) (fun h => ?_)
          | with_reducible refine seg_need ?_ ?_
          | with_reducible refine wp_assoc ?_ | with_reducible refine wp_skipS ?_ | with_reducible refine wp_retS ?_ | with_reducible refine wp_exitS ?_ | with_reducible refine wp_dropS (wp_eqT (by simp -dsimp -implicitDefEqProofs [hd2, hd2']; rfl) ?_) | with_reducible refine wp_sealS (by simp -dsimp -implicitDefEqProofs [hd2, hd2']; rfl) ?_ | with_reducible refine wp_seal (by simp -dsimp -implicitDefEqProofs [hd2, hd2']; rfl) ?_ | with_reducible refine wp_closeS (by simp -dsimp -implicitDefEqProofs [hd2, hd2']; rfl) ?_ | with_reducible refine wp_close (by simp -dsimp -implicitDefEqProofs [hd2, hd2']; rfl) ?_ | with_reducible refine wp_conc_out ?_ | with_reducible refine wp_open_out ?_ | with_reducible refine wp_pack_out ?_ | with_reducible refine wp_blockS ?_ | with_reducible refine wp_skip' ?_ | with_reducible refine wp_ret' ?_ | with_reducible refine wp_exit' ?_ | with_reducible refine wp_drop (wp_eqT (by simp -dsimp -implicitDefEqProofs [hd2, hd2']; rfl) ?_) | with_reducible refine wp_block' ?_
          | with_reducible refine wp_condVS (by simp -dsimp -implicitDefEqProofs [hd2, hd2']; rfl) ?_
          | with_reducible refine wp_condV (by simp -dsimp -implicitDefEqProofs [hd2, hd2']; rfl) ?_
          | with_reducible refine cond_t ?_ | with_reducible refine cond_f ?_ | with_reducible refine cond_v (fun h => ?_) (fun h => ?_)
          | with_reducible refine post_then ?_ | with_reducible refine post_thenE ?_ | with_reducible refine post_thenP ?_ | with_reducible refine post_blkP ?_ | with_reducible refine post_thenR ?_ | with_reducible refine post_blkN ?_ | with_reducible refine post_blkE ?_ | with_reducible refine post_blkF rfl ?_ | with_reducible refine post_blkR ?_
          | with_reducible refine seg_eval (by simp -dsimp -implicitDefEqProofs [hd2, hd2']; rfl) ?_
      all_goals first
        | omega
        | exact post_fin rfl rfl ⟨[1], [], rfl, rfl, rfl, rfl⟩
        | exact post_fin rfl rfl ⟨[2], [], rfl, rfl, rfl, rfl⟩
        | trace_state

def E17b : Env := E17.put 132 [] spNumR
theorem E17b_ok : EnvOk Tryz.prog E17b := Env.put_ok _ E17_ok numR_ok
attribute [simp] E17b spNumR

def spBytesR : Spec
  | [.agg [.v (.int .i64 k), .v (.int .u64 n), .v (.string t), .v (.int .u64 r)]], [] => if 0 ≤ n ∧ n < 18446744073709551616 ∧ 0 ≤ r ∧ r < 18446744073709551616 ∧ may ⟨k, n.toNat, t, r.toNat⟩ = true then some (.ret (.fsl 1 (bv (encF ⟨k, n.toNat, t, r.toNat⟩))), []) else none
  | _, _ => none

set_option maxHeartbeats 1000000 in
theorem bytesR_ok : CallOk Tryz.prog 122 spBytesR := by
  refine ok_122 E17b_ok spBytesR fun args mem r mem1 h => ?_
  unfold spBytesR at h
  split at h
  case h_2 => cases h
  rename_i k n t r
  obtain ⟨hx, h1⟩ := if_some h
  clear h
  cases h1
  obtain ⟨n, rfl⟩ := Int.eq_ofNat_of_zero_le hx.1
  obtain ⟨r, rfl⟩ := Int.eq_ofNat_of_zero_le hx.2.2.1
  have hm := hx.2.2.2.2
  have hn : n < 18446744073709551616 := by omega
  have hr : r < 18446744073709551616 := by omega
  simp only [Int.toNat_natCast] at hm ⊢
  clear hx
  unfold ac_122
  have n8 := nlen_le8 hn
  rcases may_kind hm with hk | hk | hk <;> simp only at hk <;> subst hk
  · have e : encF ⟨1, n, t, r⟩ = u8 1 :: numB n := by simp [encF]
    rw [e]
    repeat' first
        | with_reducible refine wp_regionS (seg_eval (by simp -dsimp -implicitDefEqProofs; rfl) ?_)
        | with_reducible refine wp_region (seg_eval (by simp -dsimp -implicitDefEqProofs; rfl) ?_)
        | with_reducible refine wp_drawsS (seg_eval (by simp -dsimp -implicitDefEqProofs; rfl) ?_)
        | with_reducible refine wp_draws (seg_eval (by simp -dsimp -implicitDefEqProofs; rfl) ?_)
        | with_reducible refine seg_fin ?_
        | with_reducible refine seg_pan ?_
        | with_reducible refine seg_both ?_ ?_
        | with_reducible refine seg_case (fun x h => ?_) (fun h => ?_)
        | with_reducible refine seg_gate (fun h => ?_) (fun h => ?_)
        | with_reducible refine seg_need ?_ ?_
        | with_reducible refine wp_assoc ?_ | with_reducible refine wp_skipS ?_ | with_reducible refine wp_retS ?_ | with_reducible refine wp_exitS ?_ | with_reducible refine wp_dropS (wp_eqT (by simp -dsimp -implicitDefEqProofs; rfl) ?_) | with_reducible refine wp_sealS (by simp -dsimp -implicitDefEqProofs; rfl) ?_ | with_reducible refine wp_seal (by simp -dsimp -implicitDefEqProofs; rfl) ?_ | with_reducible refine wp_closeS (by simp -dsimp -implicitDefEqProofs; rfl) ?_ | with_reducible refine wp_close (by simp -dsimp -implicitDefEqProofs; rfl) ?_ | with_reducible refine wp_conc_out ?_ | with_reducible refine wp_open_out ?_ | with_reducible refine wp_pack_out ?_ | with_reducible refine wp_blockS ?_ | with_reducible refine wp_skip' ?_ | with_reducible refine wp_ret' ?_ | with_reducible refine wp_exit' ?_ | with_reducible refine wp_drop (wp_eqT (by simp -dsimp -implicitDefEqProofs; rfl) ?_) | with_reducible refine wp_block' ?_
        | with_reducible refine wp_condVS (by simp -dsimp -implicitDefEqProofs; rfl) ?_
        | with_reducible refine wp_condV (by simp -dsimp -implicitDefEqProofs; rfl) ?_
        | with_reducible refine cond_t ?_ | with_reducible refine cond_f ?_ | with_reducible refine cond_v (fun h => ?_) (fun h => ?_)
        | with_reducible refine post_then ?_ | with_reducible refine post_thenE ?_ | with_reducible refine post_thenP ?_ | with_reducible refine post_blkP ?_ | with_reducible refine post_thenR ?_ | with_reducible refine post_blkN ?_ | with_reducible refine post_blkE ?_ | with_reducible refine post_blkF rfl ?_ | with_reducible refine post_blkR ?_
        | with_reducible refine seg_eval (by simp -dsimp -implicitDefEqProofs; rfl) ?_
    all_goals first
      | omega
      | (simp [numB_length]; omega)
      | exact post_fin rfl rfl ⟨[2], [], rfl, rfl, rfl, rfl⟩
      | exact post_fin rfl rfl ⟨[3], [], rfl, rfl, rfl, rfl⟩
      | trace_state
  · obtain ⟨h1, h2, h3⟩ := may_text hm rfl
    simp only at h3
    have hu : IntKind.wrap .u64 (t.size : Int) = (t.size : Int) := u64_in _ (by omega)
    have t8 := nlen_le8 (n := t.size) (by omega)
    have e : encF ⟨2, n, t, r⟩ = u8 2 :: (numB t.size ++ tb t) := by simp [encF]
    rw [e]
    repeat' first
        | with_reducible refine wp_regionS (seg_eval (by simp -dsimp -implicitDefEqProofs [hu]; rfl) ?_)
        | with_reducible refine wp_region (seg_eval (by simp -dsimp -implicitDefEqProofs [hu]; rfl) ?_)
        | with_reducible refine wp_drawsS (seg_eval (by simp -dsimp -implicitDefEqProofs [hu]; rfl) ?_)
        | with_reducible refine wp_draws (seg_eval (by simp -dsimp -implicitDefEqProofs [hu]; rfl) ?_)
        | with_reducible refine seg_fin ?_
        | with_reducible refine seg_pan ?_
        | with_reducible refine seg_both ?_ ?_
        | with_reducible refine seg_case (fun x h => ?_) (fun h => ?_)
        | with_reducible refine seg_gate (fun h => ?_) (fun h => ?_)
        | with_reducible refine seg_need ?_ ?_
        | with_reducible refine wp_assoc ?_ | with_reducible refine wp_skipS ?_ | with_reducible refine wp_retS ?_ | with_reducible refine wp_exitS ?_ | with_reducible refine wp_dropS (wp_eqT (by simp -dsimp -implicitDefEqProofs [hu]; rfl) ?_) | with_reducible refine wp_sealS (by simp -dsimp -implicitDefEqProofs [hu]; rfl) ?_ | with_reducible refine wp_seal (by simp -dsimp -implicitDefEqProofs [hu]; rfl) ?_ | with_reducible refine wp_closeS (by simp -dsimp -implicitDefEqProofs [hu]; rfl) ?_ | with_reducible refine wp_close (by simp -dsimp -implicitDefEqProofs [hu]; rfl) ?_ | with_reducible refine wp_conc_out ?_ | with_reducible refine wp_open_out ?_ | with_reducible refine wp_pack_out ?_ | with_reducible refine wp_blockS ?_ | with_reducible refine wp_skip' ?_ | with_reducible refine wp_ret' ?_ | with_reducible refine wp_exit' ?_ | with_reducible refine wp_drop (wp_eqT (by simp -dsimp -implicitDefEqProofs [hu]; rfl) ?_) | with_reducible refine wp_block' ?_
        | with_reducible refine wp_condVS (by simp -dsimp -implicitDefEqProofs [hu]; rfl) ?_
        | with_reducible refine wp_condV (by simp -dsimp -implicitDefEqProofs [hu]; rfl) ?_
        | with_reducible refine cond_t ?_ | with_reducible refine cond_f ?_ | with_reducible refine cond_v (fun h => ?_) (fun h => ?_)
        | with_reducible refine post_then ?_ | with_reducible refine post_thenE ?_ | with_reducible refine post_thenP ?_ | with_reducible refine post_blkP ?_ | with_reducible refine post_thenR ?_ | with_reducible refine post_blkN ?_ | with_reducible refine post_blkE ?_ | with_reducible refine post_blkF rfl ?_ | with_reducible refine post_blkR ?_
        | with_reducible refine seg_eval (by simp -dsimp -implicitDefEqProofs [hu]; rfl) ?_
    all_goals first
      | omega
      | (simp [numB_length]; omega)
      | exact post_fin rfl rfl ⟨[3], [], rfl, rfl, rfl, rfl⟩
      | exact post_fin rfl rfl ⟨[4], [], rfl, rfl, rfl, rfl⟩
      | trace_state
  · have e : encF ⟨3, n, t, r⟩ = u8 3 :: lowB (rcode r) 8 := by simp [encF]
    have hc := rcode_lt hr
    rw [e]
    repeat' first
        | with_reducible refine wp_regionS (seg_eval (by simp -dsimp -implicitDefEqProofs; rfl) ?_)
        | with_reducible refine wp_region (seg_eval (by simp -dsimp -implicitDefEqProofs; rfl) ?_)
        | with_reducible refine wp_drawsS (seg_eval (by simp -dsimp -implicitDefEqProofs; rfl) ?_)
        | with_reducible refine wp_draws (seg_eval (by simp -dsimp -implicitDefEqProofs; rfl) ?_)
        | with_reducible refine seg_fin ?_
        | with_reducible refine seg_pan ?_
        | with_reducible refine seg_both ?_ ?_
        | with_reducible refine seg_case (fun x h => ?_) (fun h => ?_)
        | with_reducible refine seg_gate (fun h => ?_) (fun h => ?_)
        | with_reducible refine seg_need ?_ ?_
        | with_reducible refine wp_assoc ?_ | with_reducible refine wp_skipS ?_ | with_reducible refine wp_retS ?_ | with_reducible refine wp_exitS ?_ | with_reducible refine wp_dropS (wp_eqT (by simp -dsimp -implicitDefEqProofs; rfl) ?_) | with_reducible refine wp_sealS (by simp -dsimp -implicitDefEqProofs; rfl) ?_ | with_reducible refine wp_seal (by simp -dsimp -implicitDefEqProofs; rfl) ?_ | with_reducible refine wp_closeS (by simp -dsimp -implicitDefEqProofs; rfl) ?_ | with_reducible refine wp_close (by simp -dsimp -implicitDefEqProofs; rfl) ?_ | with_reducible refine wp_conc_out ?_ | with_reducible refine wp_open_out ?_ | with_reducible refine wp_pack_out ?_ | with_reducible refine wp_blockS ?_ | with_reducible refine wp_skip' ?_ | with_reducible refine wp_ret' ?_ | with_reducible refine wp_exit' ?_ | with_reducible refine wp_drop (wp_eqT (by simp -dsimp -implicitDefEqProofs; rfl) ?_) | with_reducible refine wp_block' ?_
        | with_reducible refine wp_condVS (by simp -dsimp -implicitDefEqProofs; rfl) ?_
        | with_reducible refine wp_condV (by simp -dsimp -implicitDefEqProofs; rfl) ?_
        | with_reducible refine cond_t ?_ | with_reducible refine cond_f ?_ | with_reducible refine cond_v (fun h => ?_) (fun h => ?_)
        | with_reducible refine post_then ?_ | with_reducible refine post_thenE ?_ | with_reducible refine post_thenP ?_ | with_reducible refine post_blkP ?_ | with_reducible refine post_thenR ?_ | with_reducible refine post_blkN ?_ | with_reducible refine post_blkE ?_ | with_reducible refine post_blkF rfl ?_ | with_reducible refine post_blkR ?_
        | with_reducible refine seg_eval (by simp -dsimp -implicitDefEqProofs; rfl) ?_
    all_goals first
      | omega
      | (simp [lowB_length]; omega)
      | exact post_fin rfl rfl ⟨[2], [], rfl, rfl, rfl, rfl⟩
      | exact post_fin rfl rfl ⟨[3], [], rfl, rfl, rfl, rfl⟩
      | trace_state

def E17c : Env := E17b.put 122 [] spBytesR
theorem E17c_ok : EnvOk Tryz.prog E17c := Env.put_ok _ E17b_ok bytesR_ok
attribute [simp] E17c spBytesR

def spAllR : Spec
  | [.fsl 4 es], [] => (uns un2 es).bind fun l => if l.all Fld.ok = true ∧ l.all may = true ∧ l.length ≤ 440 then some (.ret (.fsl 1 (bv (encAll l))), []) else none
  | _, _ => none

set_option maxHeartbeats 1000000 in
theorem allR_ok : CallOk Tryz.prog 105 spAllR := by
  refine ok_105 E17c_ok spAllR fun args mem r mem1 h => ?_
  unfold spAllR at h
  split at h
  case h_2 => cases h
  rename_i es
  obtain ⟨l, hl, h2⟩ := Option.bind_eq_some_iff.1 h
  clear h
  have := uns2_some hl
  subst this
  clear hl
  obtain ⟨hx, h3⟩ := if_some h2
  clear h2
  cases h3
  have hok : ∀ f ∈ l, f.ok = true := by simpa using hx.1
  have hmay : ∀ f ∈ l, may f = true := by simpa using hx.2.1
  have hlen := hx.2.2
  clear hx
  unfold ac_105
  repeat' first
      | with_reducible refine wp_regionS (seg_eval (by simp -dsimp -implicitDefEqProofs; rfl) ?_)
      | with_reducible refine wp_region (seg_eval (by simp -dsimp -implicitDefEqProofs; rfl) ?_)
      | with_reducible refine wp_drawsS (seg_eval (by simp -dsimp -implicitDefEqProofs; rfl) ?_)
      | with_reducible refine wp_draws (seg_eval (by simp -dsimp -implicitDefEqProofs; rfl) ?_)
      | with_reducible refine seg_fin ?_
      | with_reducible refine seg_pan ?_
      | with_reducible refine seg_both ?_ ?_
      | with_reducible refine seg_case (fun x h => ?_) (fun h => ?_)
      | with_reducible refine seg_gate (fun h => ?_) (fun h => ?_)
      | with_reducible refine seg_need ?_ ?_
      | with_reducible refine wp_assoc ?_ | with_reducible refine wp_skipS ?_ | with_reducible refine wp_retS ?_ | with_reducible refine wp_exitS ?_ | with_reducible refine wp_dropS (wp_eqT (by simp -dsimp -implicitDefEqProofs; rfl) ?_) | with_reducible refine wp_sealS (by simp -dsimp -implicitDefEqProofs; rfl) ?_ | with_reducible refine wp_seal (by simp -dsimp -implicitDefEqProofs; rfl) ?_ | with_reducible refine wp_closeS (by simp -dsimp -implicitDefEqProofs; rfl) ?_ | with_reducible refine wp_close (by simp -dsimp -implicitDefEqProofs; rfl) ?_ | with_reducible refine wp_conc_out ?_ | with_reducible refine wp_open_out ?_ | with_reducible refine wp_pack_out ?_ | with_reducible refine wp_blockS ?_ | with_reducible refine wp_skip' ?_ | with_reducible refine wp_ret' ?_ | with_reducible refine wp_exit' ?_ | with_reducible refine wp_drop (wp_eqT (by simp -dsimp -implicitDefEqProofs; rfl) ?_) | with_reducible refine wp_block' ?_
      | with_reducible refine wp_condVS (by simp -dsimp -implicitDefEqProofs; rfl) ?_
      | with_reducible refine wp_condV (by simp -dsimp -implicitDefEqProofs; rfl) ?_
      | with_reducible refine cond_t ?_ | with_reducible refine cond_f ?_ | with_reducible refine cond_v (fun h => ?_) (fun h => ?_)
      | with_reducible refine post_then ?_ | with_reducible refine post_thenE ?_ | with_reducible refine post_thenP ?_ | with_reducible refine post_blkP ?_ | with_reducible refine post_thenR ?_ | with_reducible refine post_blkN ?_ | with_reducible refine post_blkE ?_ | with_reducible refine post_blkF rfl ?_ | with_reducible refine post_blkR ?_
      | with_reducible refine seg_eval (by simp -dsimp -implicitDefEqProofs; rfl) ?_
  refine wp_loop' (fun j ts mm => ∃ i : Nat, i + j = l.length ∧ ts = [(0, .fsl 4 (l.map av2)), (3, .osl 0), (4, .v (.int .i64 i))] ∧ mm = [.arr 5 1 (bv (u8 l.length :: flatE (l.take i)))]) l.length ?_ ?_
  · exact ⟨[], [0], rfl, rfl, 0, by omega, by simp, by simp [bv, flatE]⟩
  · rintro j ts mm ⟨i, hi, rfl, rfl⟩
    by_cases hlt : i < l.length
    · obtain ⟨x, hxi⟩ : ∃ x, l[i]? = some x := ⟨_, List.getElem?_eq_getElem hlt⟩
      have hm := hmay x (List.mem_of_getElem? hxi)
      have hxo := hok x (List.mem_of_getElem? hxi)
      have hel := encF_length hm hxo
      rw [Fld.ok_iff] at hxo
      have hfl : (flatE (l.take i)).length ≤ 2010 * i := by
        refine Nat.le_trans (flat_length _ fun x hx => ⟨hmay x (List.mem_of_mem_take hx), hok x (List.mem_of_mem_take hx)⟩) ?_
        rw [List.length_take]; omega
      have htk := take_snoc hxi
      have hd : decide (i < l.length) = true := by simp [hlt]
      have h64 : IntKind.wrap .i64 ((i : Int) + 1) = ((i + 1 : Nat) : Int) := by rw [IntWalk.i64_in _ (by omega)]; rfl
      repeat' first
          | with_reducible refine wp_regionS (seg_eval (by simp -dsimp -implicitDefEqProofs [hm, hd, hxi, h64]; rfl) ?_)
          | with_reducible refine wp_region (seg_eval (by simp -dsimp -implicitDefEqProofs [hm, hd, hxi, h64]; rfl) ?_)
          | with_reducible refine wp_drawsS (seg_eval (by simp -dsimp -implicitDefEqProofs [hm, hd, hxi, h64]; rfl) ?_)
          | with_reducible refine wp_draws (seg_eval (by simp -dsimp -implicitDefEqProofs [hm, hd, hxi, h64]; rfl) ?_)
          | with_reducible refine seg_fin ?_
          | with_reducible refine seg_pan ?_
          | with_reducible refine seg_both ?_ ?_
          | with_reducible refine seg_case (fun x h => ?_) (fun h => ?_)
          | with_reducible refine seg_gate (fun h => ?_) (fun h => ?_)
          | with_reducible refine seg_need ?_ ?_
          | with_reducible refine wp_assoc ?_ | with_reducible refine wp_skipS ?_ | with_reducible refine wp_retS ?_ | with_reducible refine wp_exitS ?_ | with_reducible refine wp_dropS (wp_eqT (by simp -dsimp -implicitDefEqProofs [hm, hd, hxi, h64]; rfl) ?_) | with_reducible refine wp_sealS (by simp -dsimp -implicitDefEqProofs [hm, hd, hxi, h64]; rfl) ?_ | with_reducible refine wp_seal (by simp -dsimp -implicitDefEqProofs [hm, hd, hxi, h64]; rfl) ?_ | with_reducible refine wp_closeS (by simp -dsimp -implicitDefEqProofs [hm, hd, hxi, h64]; rfl) ?_ | with_reducible refine wp_close (by simp -dsimp -implicitDefEqProofs [hm, hd, hxi, h64]; rfl) ?_ | with_reducible refine wp_conc_out ?_ | with_reducible refine wp_open_out ?_ | with_reducible refine wp_pack_out ?_ | with_reducible refine wp_blockS ?_ | with_reducible refine wp_skip' ?_ | with_reducible refine wp_ret' ?_ | with_reducible refine wp_exit' ?_ | with_reducible refine wp_drop (wp_eqT (by simp -dsimp -implicitDefEqProofs [hm, hd, hxi, h64]; rfl) ?_) | with_reducible refine wp_block' ?_
          | with_reducible refine wp_condVS (by simp -dsimp -implicitDefEqProofs [hm, hd, hxi, h64]; rfl) ?_
          | with_reducible refine wp_condV (by simp -dsimp -implicitDefEqProofs [hm, hd, hxi, h64]; rfl) ?_
          | with_reducible refine cond_t ?_ | with_reducible refine cond_f ?_ | with_reducible refine cond_v (fun h => ?_) (fun h => ?_)
          | with_reducible refine post_then ?_ | with_reducible refine post_thenE ?_ | with_reducible refine post_thenP ?_ | with_reducible refine post_blkP ?_ | with_reducible refine post_thenR ?_ | with_reducible refine post_blkN ?_ | with_reducible refine post_blkE ?_ | with_reducible refine post_blkF rfl ?_ | with_reducible refine post_blkR ?_
          | with_reducible refine seg_eval (by simp -dsimp -implicitDefEqProofs [hm, hd, hxi, h64]; rfl) ?_
      all_goals first
        | omega
        | exact ⟨j - 1, by omega, [], [1], rfl, rfl, i + 1, by omega, by simp, by simp [htk, flatE_snoc]⟩
        | trace_state
    · have hd : decide (i < l.length) = false := by simp [hlt]
      have hil : i = l.length := by omega
      subst hil
      rw [List.take_length]
      repeat' first
          | with_reducible refine wp_regionS (seg_eval (by simp -dsimp -implicitDefEqProofs [hd]; rfl) ?_)
          | with_reducible refine wp_region (seg_eval (by simp -dsimp -implicitDefEqProofs [hd]; rfl) ?_)
          | with_reducible refine wp_drawsS (seg_eval (by simp -dsimp -implicitDefEqProofs [hd]; rfl) ?_)
          | with_reducible refine wp_draws (seg_eval (by simp -dsimp -implicitDefEqProofs [hd]; rfl) ?_)
          | with_reducible refine seg_fin ?_
          | with_reducible refine seg_pan ?_
          | with_reducible refine seg_both ?_ ?_
          | with_reducible refine seg_case (fun x h => ?_) (fun h => ?_)
          | with_reducible refine seg_gate (fun h => ?_) (fun h => ?_)
          | with_reducible refine seg_need ?_ ?_
          | with_reducible refine wp_assoc ?_ | with_reducible refine wp_skipS ?_ | with_reducible refine wp_retS ?_ | with_reducible refine wp_exitS ?_ | with_reducible refine wp_dropS (wp_eqT (by simp -dsimp -implicitDefEqProofs [hd]; rfl) ?_) | with_reducible refine wp_sealS (by simp -dsimp -implicitDefEqProofs [hd]; rfl) ?_ | with_reducible refine wp_seal (by simp -dsimp -implicitDefEqProofs [hd]; rfl) ?_ | with_reducible refine wp_closeS (by simp -dsimp -implicitDefEqProofs [hd]; rfl) ?_ | with_reducible refine wp_close (by simp -dsimp -implicitDefEqProofs [hd]; rfl) ?_ | with_reducible refine wp_conc_out ?_ | with_reducible refine wp_open_out ?_ | with_reducible refine wp_pack_out ?_ | with_reducible refine wp_blockS ?_ | with_reducible refine wp_skip' ?_ | with_reducible refine wp_ret' ?_ | with_reducible refine wp_exit' ?_ | with_reducible refine wp_drop (wp_eqT (by simp -dsimp -implicitDefEqProofs [hd]; rfl) ?_) | with_reducible refine wp_block' ?_
          | with_reducible refine wp_condVS (by simp -dsimp -implicitDefEqProofs [hd]; rfl) ?_
          | with_reducible refine wp_condV (by simp -dsimp -implicitDefEqProofs [hd]; rfl) ?_
          | with_reducible refine cond_t ?_ | with_reducible refine cond_f ?_ | with_reducible refine cond_v (fun h => ?_) (fun h => ?_)
          | with_reducible refine post_then ?_ | with_reducible refine post_thenE ?_ | with_reducible refine post_thenP ?_ | with_reducible refine post_blkP ?_ | with_reducible refine post_thenR ?_ | with_reducible refine post_blkN ?_ | with_reducible refine post_blkE ?_ | with_reducible refine post_blkF rfl ?_ | with_reducible refine post_blkR ?_
          | with_reducible refine seg_eval (by simp -dsimp -implicitDefEqProofs [hd]; rfl) ?_
      exact post_fin rfl rfl ⟨[0], [], rfl, rfl, rfl, rfl⟩

def E17d : Env := E17c.put 105 [] (fixS [4] spAllR)
theorem E17d_ok : EnvOk Tryz.prog E17d := Env.put_ok _ E17c_ok (allR_ok.fix _)
attribute [simp] E17d spAllR

def spEncodeR : Spec
  | [.fsl 4 es], [] => (uns un2 es).bind fun l => if l.all Fld.ok = true ∧ l.length ≤ 440 then some (.ret (.tup [.fsl 1 (bv (enc l)), .v (.int .i64 (encE l))]), []) else none
  | _, _ => none

set_option maxHeartbeats 2000000 in
theorem encodeR_ok : CallOk Tryz.prog 82 spEncodeR := by
  refine ok_82 E17d_ok spEncodeR fun args mem r mem1 h => ?_
  unfold spEncodeR at h
  split at h
  case h_2 => cases h
  rename_i es
  obtain ⟨l, hl, h2⟩ := Option.bind_eq_some_iff.1 h
  clear h
  have := uns2_some hl
  subst this
  clear hl
  obtain ⟨hx, h3⟩ := if_some h2
  clear h2
  cases h3
  have hok : ∀ f ∈ l, f.ok = true := by simpa using hx.1
  have hlen := hx.2
  clear hx
  unfold ac_82
  repeat' first
      | with_reducible refine wp_regionS (seg_eval (by simp -dsimp -implicitDefEqProofs; rfl) ?_)
      | with_reducible refine wp_region (seg_eval (by simp -dsimp -implicitDefEqProofs; rfl) ?_)
      | with_reducible refine wp_drawsS (seg_eval (by simp -dsimp -implicitDefEqProofs; rfl) ?_)
      | with_reducible refine wp_draws (seg_eval (by simp -dsimp -implicitDefEqProofs; rfl) ?_)
      | with_reducible refine seg_fin ?_
      | with_reducible refine seg_pan ?_
      | with_reducible refine seg_both ?_ ?_
      | with_reducible refine seg_case (fun x h => ?_) (fun h => ?_)
      | with_reducible refine seg_gate (fun h => ?_) (fun h => ?_)
      | with_reducible refine seg_need ?_ ?_
      | with_reducible refine wp_assoc ?_ | with_reducible refine wp_skipS ?_ | with_reducible refine wp_retS ?_ | with_reducible refine wp_exitS ?_ | with_reducible refine wp_dropS (wp_eqT (by simp -dsimp -implicitDefEqProofs; rfl) ?_) | with_reducible refine wp_sealS (by simp -dsimp -implicitDefEqProofs; rfl) ?_ | with_reducible refine wp_seal (by simp -dsimp -implicitDefEqProofs; rfl) ?_ | with_reducible refine wp_closeS (by simp -dsimp -implicitDefEqProofs; rfl) ?_ | with_reducible refine wp_close (by simp -dsimp -implicitDefEqProofs; rfl) ?_ | with_reducible refine wp_conc_out ?_ | with_reducible refine wp_open_out ?_ | with_reducible refine wp_pack_out ?_ | with_reducible refine wp_blockS ?_ | with_reducible refine wp_skip' ?_ | with_reducible refine wp_ret' ?_ | with_reducible refine wp_exit' ?_ | with_reducible refine wp_drop (wp_eqT (by simp -dsimp -implicitDefEqProofs; rfl) ?_) | with_reducible refine wp_block' ?_
      | with_reducible refine wp_condVS (by simp -dsimp -implicitDefEqProofs; rfl) ?_
      | with_reducible refine wp_condV (by simp -dsimp -implicitDefEqProofs; rfl) ?_
      | with_reducible refine cond_t ?_ | with_reducible refine cond_f ?_ | with_reducible refine cond_v (fun h => ?_) (fun h => ?_)
      | with_reducible refine post_then ?_ | with_reducible refine post_thenE ?_ | with_reducible refine post_thenP ?_ | with_reducible refine post_blkP ?_ | with_reducible refine post_thenR ?_ | with_reducible refine post_blkN ?_ | with_reducible refine post_blkE ?_ | with_reducible refine post_blkF rfl ?_ | with_reducible refine post_blkR ?_
      | with_reducible refine seg_eval (by simp -dsimp -implicitDefEqProofs; rfl) ?_
  refine wp_loop' (fun j ts mm => ∃ i : Nat, i + j = l.length ∧ (∀ x ∈ l.take i, may x = true) ∧ ts = [(0, .fsl 4 (l.map av2)), (4, .v (.int .i64 i))] ∧ mm = []) l.length ?_ ?_
  · exact ⟨[], [], rfl, rfl, 0, by omega, by simp, by simp, by simp⟩
  · rintro j ts mm ⟨i, hi, hmay, rfl, rfl⟩
    by_cases hlt : i < l.length
    · obtain ⟨x, hxi⟩ : ∃ x, l[i]? = some x := ⟨_, List.getElem?_eq_getElem hlt⟩
      have hxo := hok x (List.mem_of_getElem? hxi)
      rw [Fld.ok_iff] at hxo
      have htk := take_snoc hxi
      have hd : decide (i < l.length) = true := by simp [hlt]
      have h64 : IntKind.wrap .i64 ((i : Int) + 1) = ((i + 1 : Nat) : Int) := by rw [IntWalk.i64_in _ (by omega)]; rfl
      cases hm : may x with
      | false =>
        have he : encE l = 2 := by
          unfold encE
          rw [if_neg]
          intro hall
          have := (List.all_eq_true.1 hall) _ (List.mem_of_getElem? hxi)
          rw [hm] at this; cases this
        have he2 : enc l = [] := by unfold enc; rw [he]; rfl
        rw [he2, he]
        repeat' first
            | with_reducible refine wp_regionS (seg_eval (by simp -dsimp -implicitDefEqProofs [hm, hd, hxi, h64]; rfl) ?_)
            | with_reducible refine wp_region (seg_eval (by simp -dsimp -implicitDefEqProofs [hm, hd, hxi, h64]; rfl) ?_)
            | with_reducible refine wp_drawsS (seg_eval (by simp -dsimp -implicitDefEqProofs [hm, hd, hxi, h64]; rfl) ?_)
            | with_reducible refine wp_draws (seg_eval (by simp -dsimp -implicitDefEqProofs [hm, hd, hxi, h64]; rfl) ?_)
            | with_reducible refine seg_fin ?_
            | with_reducible refine seg_pan ?_
            | with_reducible refine seg_both ?_ ?_
            | with_reducible refine seg_case (fun x h => ?_) (fun h => ?_)
            | with_reducible refine seg_gate (fun h => ?_) (fun h => ?_)
            | with_reducible refine seg_need ?_ ?_
            | with_reducible refine wp_assoc ?_ | with_reducible refine wp_skipS ?_ | with_reducible refine wp_retS ?_ | with_reducible refine wp_exitS ?_ | with_reducible refine wp_dropS (wp_eqT (by simp -dsimp -implicitDefEqProofs [hm, hd, hxi, h64]; rfl) ?_) | with_reducible refine wp_sealS (by simp -dsimp -implicitDefEqProofs [hm, hd, hxi, h64]; rfl) ?_ | with_reducible refine wp_seal (by simp -dsimp -implicitDefEqProofs [hm, hd, hxi, h64]; rfl) ?_ | with_reducible refine wp_closeS (by simp -dsimp -implicitDefEqProofs [hm, hd, hxi, h64]; rfl) ?_ | with_reducible refine wp_close (by simp -dsimp -implicitDefEqProofs [hm, hd, hxi, h64]; rfl) ?_ | with_reducible refine wp_conc_out ?_ | with_reducible refine wp_open_out ?_ | with_reducible refine wp_pack_out ?_ | with_reducible refine wp_blockS ?_ | with_reducible refine wp_skip' ?_ | with_reducible refine wp_ret' ?_ | with_reducible refine wp_exit' ?_ | with_reducible refine wp_drop (wp_eqT (by simp -dsimp -implicitDefEqProofs [hm, hd, hxi, h64]; rfl) ?_) | with_reducible refine wp_block' ?_
            | with_reducible refine wp_condVS (by simp -dsimp -implicitDefEqProofs [hm, hd, hxi, h64]; rfl) ?_
            | with_reducible refine wp_condV (by simp -dsimp -implicitDefEqProofs [hm, hd, hxi, h64]; rfl) ?_
            | with_reducible refine cond_t ?_ | with_reducible refine cond_f ?_ | with_reducible refine cond_v (fun h => ?_) (fun h => ?_)
            | with_reducible refine post_then ?_ | with_reducible refine post_thenE ?_ | with_reducible refine post_thenP ?_ | with_reducible refine post_blkP ?_ | with_reducible refine post_thenR ?_ | with_reducible refine post_blkN ?_ | with_reducible refine post_blkE ?_ | with_reducible refine post_blkF rfl ?_ | with_reducible refine post_blkR ?_
            | with_reducible refine seg_eval (by simp -dsimp -implicitDefEqProofs [hm, hd, hxi, h64]; rfl) ?_
        all_goals first
          | omega
          | exact post_finS rfl rfl (.tup (.cons (.nilv 1) (.cons (.rfl _) .nil))) ⟨[], [], rfl, rfl, rfl, rfl⟩
          | trace_state
      | true =>
        repeat' first
            | with_reducible refine wp_regionS (seg_eval (by simp -dsimp -implicitDefEqProofs [hm, hd, hxi, h64]; rfl) ?_)
            | with_reducible refine wp_region (seg_eval (by simp -dsimp -implicitDefEqProofs [hm, hd, hxi, h64]; rfl) ?_)
            | with_reducible refine wp_drawsS (seg_eval (by simp -dsimp -implicitDefEqProofs [hm, hd, hxi, h64]; rfl) ?_)
            | with_reducible refine wp_draws (seg_eval (by simp -dsimp -implicitDefEqProofs [hm, hd, hxi, h64]; rfl) ?_)
            | with_reducible refine seg_fin ?_
            | with_reducible refine seg_pan ?_
            | with_reducible refine seg_both ?_ ?_
            | with_reducible refine seg_case (fun x h => ?_) (fun h => ?_)
            | with_reducible refine seg_gate (fun h => ?_) (fun h => ?_)
            | with_reducible refine seg_need ?_ ?_
            | with_reducible refine wp_assoc ?_ | with_reducible refine wp_skipS ?_ | with_reducible refine wp_retS ?_ | with_reducible refine wp_exitS ?_ | with_reducible refine wp_dropS (wp_eqT (by simp -dsimp -implicitDefEqProofs [hm, hd, hxi, h64]; rfl) ?_) | with_reducible refine wp_sealS (by simp -dsimp -implicitDefEqProofs [hm, hd, hxi, h64]; rfl) ?_ | with_reducible refine wp_seal (by simp -dsimp -implicitDefEqProofs [hm, hd, hxi, h64]; rfl) ?_ | with_reducible refine wp_closeS (by simp -dsimp -implicitDefEqProofs [hm, hd, hxi, h64]; rfl) ?_ | with_reducible refine wp_close (by simp -dsimp -implicitDefEqProofs [hm, hd, hxi, h64]; rfl) ?_ | with_reducible refine wp_conc_out ?_ | with_reducible refine wp_open_out ?_ | with_reducible refine wp_pack_out ?_ | with_reducible refine wp_blockS ?_ | with_reducible refine wp_skip' ?_ | with_reducible refine wp_ret' ?_ | with_reducible refine wp_exit' ?_ | with_reducible refine wp_drop (wp_eqT (by simp -dsimp -implicitDefEqProofs [hm, hd, hxi, h64]; rfl) ?_) | with_reducible refine wp_block' ?_
            | with_reducible refine wp_condVS (by simp -dsimp -implicitDefEqProofs [hm, hd, hxi, h64]; rfl) ?_
            | with_reducible refine wp_condV (by simp -dsimp -implicitDefEqProofs [hm, hd, hxi, h64]; rfl) ?_
            | with_reducible refine cond_t ?_ | with_reducible refine cond_f ?_ | with_reducible refine cond_v (fun h => ?_) (fun h => ?_)
            | with_reducible refine post_then ?_ | with_reducible refine post_thenE ?_ | with_reducible refine post_thenP ?_ | with_reducible refine post_blkP ?_ | with_reducible refine post_thenR ?_ | with_reducible refine post_blkN ?_ | with_reducible refine post_blkE ?_ | with_reducible refine post_blkF rfl ?_ | with_reducible refine post_blkR ?_
            | with_reducible refine seg_eval (by simp -dsimp -implicitDefEqProofs [hm, hd, hxi, h64]; rfl) ?_
        · omega
        · refine ⟨j - 1, by omega, [], [], rfl, rfl, i + 1, by omega, ?_, by simp, by simp⟩
          rw [htk]
          intro y hy
          rcases List.mem_append.1 hy with hy | hy
          · exact hmay y hy
          · rw [List.mem_singleton.1 hy]; exact hm
    · have hd : decide (i < l.length) = false := by simp [hlt]
      have hil : i = l.length := by omega
      subst hil
      rw [List.take_length] at hmay
      have hall : l.all may = true := List.all_eq_true.2 hmay
      have e1 : (200 < l.length ∨ 8000 < (encAll l).length) → encE l = 3 := fun h => by unfold encE; rw [if_pos hall, if_pos h]
      have e2 : ¬ (200 < l.length ∨ 8000 < (encAll l).length) → encE l = 0 := fun h => by unfold encE; rw [if_pos hall, if_neg h]
      have e3 : encE l = 3 → enc l = [] := fun h => by unfold enc; rw [h]; rfl
      have e4 : encE l = 0 → enc l = encAll l := fun h => by unfold enc; rw [h]; rfl
      repeat' first
          | with_reducible refine wp_regionS (seg_eval (by simp -dsimp -implicitDefEqProofs [hd]; rfl) ?_)
          | with_reducible refine wp_region (seg_eval (by simp -dsimp -implicitDefEqProofs [hd]; rfl) ?_)
          | with_reducible refine wp_drawsS (seg_eval (by simp -dsimp -implicitDefEqProofs [hd]; rfl) ?_)
          | with_reducible refine wp_draws (seg_eval (by simp -dsimp -implicitDefEqProofs [hd]; rfl) ?_)
          | with_reducible refine seg_fin ?_
          | with_reducible refine seg_pan ?_
          | with_reducible refine seg_both ?_ ?_
          | with_reducible refine seg_case (fun x h => ?_) (fun h => ?_)
          | with_reducible refine seg_gate (fun h => ?_) (fun h => ?_)
          | with_reducible refine seg_need ?_ ?_
          | with_reducible refine wp_assoc ?_ | with_reducible refine wp_skipS ?_ | with_reducible refine wp_retS ?_ | with_reducible refine wp_exitS ?_ | with_reducible refine wp_dropS (wp_eqT (by simp -dsimp -implicitDefEqProofs [hd]; rfl) ?_) | with_reducible refine wp_sealS (by simp -dsimp -implicitDefEqProofs [hd]; rfl) ?_ | with_reducible refine wp_seal (by simp -dsimp -implicitDefEqProofs [hd]; rfl) ?_ | with_reducible refine wp_closeS (by simp -dsimp -implicitDefEqProofs [hd]; rfl) ?_ | with_reducible refine wp_close (by simp -dsimp -implicitDefEqProofs [hd]; rfl) ?_ | with_reducible refine wp_conc_out ?_ | with_reducible refine wp_open_out ?_ | with_reducible refine wp_pack_out ?_ | with_reducible refine wp_blockS ?_ | with_reducible refine wp_skip' ?_ | with_reducible refine wp_ret' ?_ | with_reducible refine wp_exit' ?_ | with_reducible refine wp_drop (wp_eqT (by simp -dsimp -implicitDefEqProofs [hd]; rfl) ?_) | with_reducible refine wp_block' ?_
          | with_reducible refine wp_condVS (by simp -dsimp -implicitDefEqProofs [hd]; rfl) ?_
          | with_reducible refine wp_condV (by simp -dsimp -implicitDefEqProofs [hd]; rfl) ?_
          | with_reducible refine cond_t ?_ | with_reducible refine cond_f ?_ | with_reducible refine cond_v (fun h => ?_) (fun h => ?_)
          | with_reducible refine post_then ?_ | with_reducible refine post_thenE ?_ | with_reducible refine post_thenP ?_ | with_reducible refine post_blkP ?_ | with_reducible refine post_thenR ?_ | with_reducible refine post_blkN ?_ | with_reducible refine post_blkE ?_ | with_reducible refine post_blkF rfl ?_ | with_reducible refine post_blkR ?_
          | with_reducible refine seg_eval (by simp -dsimp -implicitDefEqProofs [hd]; rfl) ?_
      all_goals try simp only [decide_eq_true_eq, decide_eq_false_iff_not] at *
      all_goals first
        | exact ⟨hok, hmay, hlen⟩
        | (have h3 := e1 (by omega)
           rw [e3 h3, h3]
           exact post_finS rfl rfl (.tup (.cons (.nilv 1) (.cons (.rfl _) .nil))) ⟨[], [], rfl, rfl, rfl, rfl⟩)
        | (have h0 := e2 (by omega)
           rw [e4 h0, h0]
           exact post_fin rfl rfl ⟨[], [], rfl, rfl, rfl, rfl⟩)
        | trace_state

def E17e : Env := E17d.put 82 [] (fixS [4] spEncodeR)
theorem E17e_ok : EnvOk Tryz.prog E17e := Env.put_ok _ E17d_ok (encodeR_ok.fix _)
attribute [simp] E17e spEncodeR
end Go.Proofs.YtajpaagbfmjacaaGreatDoor.Am
