import Derived.Test.YtajpaagbfmjacaaGreatDoorZF5
import Derived.Test.YtajpaagbfmjacaaGreatDoorZQ5
namespace Go.Proofs.YtajpaagbfmjacaaGreatDoor.Am
set_option linter.unusedSimpArgs false
set_option linter.unusedVariables false
open Go Go.Proofs
attribute [local irreducible] wpA
attribute [simp] spBits spFrom

def E6 : Env := (E2b.put 118 [] spBits).put 131 [] spFrom
theorem E6_ok : EnvOk Tryz.prog E6 := Env.put_ok _ (Env.put_ok _ E2b_ok bits_ok) frombits_ok
attribute [simp] E6

/-! ### The program's floats -/
def spCanonF : Spec
  | [.v (.float .f64 x)], [] => if x < 18446744073709551616 then some (.ret (.v (.float .f64 (canon x))), []) else none
  | _, _ => none

theorem canonF_ok : CallOk Tryz.prog 119 spCanonF := by
  refine ok_119 E6_ok spCanonF fun args mem r mem1 h => ?_
  unfold spCanonF at h
  split at h
  case h_2 => cases h
  rename_i x
  obtain ⟨hx, h⟩ := if_some h
  cases h
  unfold ac_119
  repeat' first
      | with_reducible refine wp_regionS (seg_eval (by simp -dsimp -implicitDefEqProofs; rfl) ?_)
      | with_reducible refine wp_region (seg_eval (by simp -dsimp -implicitDefEqProofs; rfl) ?_)
      | with_reducible refine wp_drawsS (seg_eval (by simp -dsimp -implicitDefEqProofs; rfl) ?_)
      | with_reducible refine wp_draws (seg_eval (by simp -dsimp -implicitDefEqProofs; rfl) ?_)
      | with_reducible refine seg_fin ?_
      | with_reducible refine seg_pan ?_
      | with_reducible refine seg_both ?_ ?_
      | with_reducible refine seg_case (fun x h => ?_) (fun h => ?_)
      | with_reducible refine seg_gate (fun h => ?_) (fun h => ?_)
      | with_reducible refine seg_need ?_ ?_
      | with_reducible refine wp_assoc ?_ | with_reducible refine wp_skipS ?_ | with_reducible refine wp_retS ?_ | with_reducible refine wp_exitS ?_ | with_reducible refine wp_dropS (wp_eqT (by simp -dsimp -implicitDefEqProofs; rfl) ?_) | with_reducible refine wp_sealS (by simp -dsimp -implicitDefEqProofs; rfl) ?_ | with_reducible refine wp_seal (by simp -dsimp -implicitDefEqProofs; rfl) ?_ | with_reducible refine wp_closeS (by simp -dsimp -implicitDefEqProofs; rfl) ?_ | with_reducible refine wp_close (by simp -dsimp -implicitDefEqProofs; rfl) ?_ | with_reducible refine wp_conc_out ?_ | with_reducible refine wp_open_out ?_ | with_reducible refine wp_pack_out ?_ | with_reducible refine wp_blockS ?_ | with_reducible refine wp_skip' ?_ | with_reducible refine wp_ret' ?_ | with_reducible refine wp_exit' ?_ | with_reducible refine wp_drop (wp_eqT (by simp -dsimp -implicitDefEqProofs; rfl) ?_) | with_reducible refine wp_block' ?_
      | with_reducible refine wp_condVS (by simp -dsimp -implicitDefEqProofs; rfl) ?_
      | with_reducible refine wp_condV (by simp -dsimp -implicitDefEqProofs; rfl) ?_
      | with_reducible refine cond_t ?_ | with_reducible refine cond_f ?_ | with_reducible refine cond_v (fun h => ?_) (fun h => ?_)
      | with_reducible refine post_then ?_ | with_reducible refine post_thenE ?_ | with_reducible refine post_thenP ?_ | with_reducible refine post_blkP ?_ | with_reducible refine post_thenR ?_ | with_reducible refine post_blkN ?_ | with_reducible refine post_blkE ?_ | with_reducible refine post_blkF rfl ?_ | with_reducible refine post_blkR ?_
      | with_reducible refine seg_eval (by simp -dsimp -implicitDefEqProofs; rfl) ?_
  all_goals simp only [bne, order_self, order_zero, nanB, Bool.not_not, decide_eq_true_eq, decide_eq_false_iff_not] at *
  · rw [canon_nan (by assumption)]; exact post_fin rfl rfl ⟨[], [], rfl, rfl, rfl, rfl⟩
  · rw [canon_nought hx (by assumption)]; exact post_fin rfl rfl ⟨[], [], rfl, rfl, rfl, rfl⟩
  · rw [canon_other (by assumption) (by assumption)]; exact post_fin rfl rfl ⟨[], [], rfl, rfl, rfl, rfl⟩

def E6b : Env := E6.put 119 [] spCanonF
theorem E6b_ok : EnvOk Tryz.prog E6b := Env.put_ok _ E6_ok canonF_ok
attribute [simp] E6b spCanonF

def spCodeF : Spec
  | [.v (.float .f64 x)], [] => if x < 18446744073709551616 then some (.ret (.v (.int .u64 (rcode x))), []) else none
  | _, _ => none

theorem codeF_ok : CallOk Tryz.prog 103 spCodeF := by
  refine ok_103 E6b_ok spCodeF fun args mem r mem1 h => ?_
  unfold spCodeF at h
  split at h
  case h_2 => cases h
  rename_i x
  obtain ⟨hx, h⟩ := if_some h
  cases h
  unfold ac_103
  have hc := canon_lt hx
  repeat' first
      | with_reducible refine wp_regionS (seg_eval (by simp -dsimp -implicitDefEqProofs; rfl) ?_)
      | with_reducible refine wp_region (seg_eval (by simp -dsimp -implicitDefEqProofs; rfl) ?_)
      | with_reducible refine wp_drawsS (seg_eval (by simp -dsimp -implicitDefEqProofs; rfl) ?_)
      | with_reducible refine wp_draws (seg_eval (by simp -dsimp -implicitDefEqProofs; rfl) ?_)
      | with_reducible refine seg_fin ?_
      | with_reducible refine seg_pan ?_
      | with_reducible refine seg_both ?_ ?_
      | with_reducible refine seg_case (fun x h => ?_) (fun h => ?_)
      | with_reducible refine seg_gate (fun h => ?_) (fun h => ?_)
      | with_reducible refine seg_need ?_ ?_
      | with_reducible refine wp_assoc ?_ | with_reducible refine wp_skipS ?_ | with_reducible refine wp_retS ?_ | with_reducible refine wp_exitS ?_ | with_reducible refine wp_dropS (wp_eqT (by simp -dsimp -implicitDefEqProofs; rfl) ?_) | with_reducible refine wp_sealS (by simp -dsimp -implicitDefEqProofs; rfl) ?_ | with_reducible refine wp_seal (by simp -dsimp -implicitDefEqProofs; rfl) ?_ | with_reducible refine wp_closeS (by simp -dsimp -implicitDefEqProofs; rfl) ?_ | with_reducible refine wp_close (by simp -dsimp -implicitDefEqProofs; rfl) ?_ | with_reducible refine wp_conc_out ?_ | with_reducible refine wp_open_out ?_ | with_reducible refine wp_pack_out ?_ | with_reducible refine wp_blockS ?_ | with_reducible refine wp_skip' ?_ | with_reducible refine wp_ret' ?_ | with_reducible refine wp_exit' ?_ | with_reducible refine wp_drop (wp_eqT (by simp -dsimp -implicitDefEqProofs; rfl) ?_) | with_reducible refine wp_block' ?_
      | with_reducible refine wp_condVS (by simp -dsimp -implicitDefEqProofs; rfl) ?_
      | with_reducible refine wp_condV (by simp -dsimp -implicitDefEqProofs; rfl) ?_
      | with_reducible refine cond_t ?_ | with_reducible refine cond_f ?_ | with_reducible refine cond_v (fun h => ?_) (fun h => ?_)
      | with_reducible refine post_then ?_ | with_reducible refine post_thenE ?_ | with_reducible refine post_thenP ?_ | with_reducible refine post_blkP ?_ | with_reducible refine post_thenR ?_ | with_reducible refine post_blkN ?_ | with_reducible refine post_blkE ?_ | with_reducible refine post_blkF rfl ?_ | with_reducible refine post_blkR ?_
      | with_reducible refine seg_eval (by simp -dsimp -implicitDefEqProofs; rfl) ?_
  · exact hx
  · rw [and_sign _ hc, decide_eq_true_eq] at h
    rw [not_u64 _ hc]
    have e : rcode x = 18446744073709551615 - canon x := by unfold rcode; rw [if_pos h]
    rw [e]; exact post_fin rfl rfl ⟨[], [], rfl, rfl, rfl, rfl⟩
  · rw [and_sign _ hc, decide_eq_false_iff_not] at h
    rw [or_sign _ (by omega)]
    have e : rcode x = canon x + 9223372036854775808 := by unfold rcode; rw [if_neg h]
    rw [e]; exact post_fin rfl rfl ⟨[], [], rfl, rfl, rfl, rfl⟩

def E6c : Env := E6b.put 103 [] spCodeF
theorem E6c_ok : EnvOk Tryz.prog E6c := Env.put_ok _ E6b_ok codeF_ok
attribute [simp] E6c spCodeF

def E6d : Env := E6c
theorem E6d_ok : EnvOk Tryz.prog E6d := E6c_ok
attribute [simp] E6d

/-! ### The document's -/
def spCanonR : Spec
  | [.v (.int .u64 c)], [] => if 0 ≤ c ∧ c < 18446744073709551616 then some (.ret (.v (.int .u64 (canon c.toNat))), []) else none
  | _, _ => none

theorem canonR_ok : CallOk Tryz.prog 121 spCanonR := by
  refine ok_121 E6d_ok spCanonR fun args mem r mem1 h => ?_
  unfold spCanonR at h
  split at h
  case h_2 => cases h
  rename_i x
  obtain ⟨hx, h⟩ := if_some h
  cases h
  obtain ⟨m, rfl⟩ := Int.eq_ofNat_of_zero_le hx.1
  simp only [Int.toNat_natCast]
  unfold ac_121
  repeat' first
      | with_reducible refine wp_regionS (seg_eval (by simp -dsimp -implicitDefEqProofs; rfl) ?_)
      | with_reducible refine wp_region (seg_eval (by simp -dsimp -implicitDefEqProofs; rfl) ?_)
      | with_reducible refine wp_drawsS (seg_eval (by simp -dsimp -implicitDefEqProofs; rfl) ?_)
      | with_reducible refine wp_draws (seg_eval (by simp -dsimp -implicitDefEqProofs; rfl) ?_)
      | with_reducible refine seg_fin ?_
      | with_reducible refine seg_pan ?_
      | with_reducible refine seg_both ?_ ?_
      | with_reducible refine seg_case (fun x h => ?_) (fun h => ?_)
      | with_reducible refine seg_gate (fun h => ?_) (fun h => ?_)
      | with_reducible refine seg_need ?_ ?_
      | with_reducible refine wp_assoc ?_ | with_reducible refine wp_skipS ?_ | with_reducible refine wp_retS ?_ | with_reducible refine wp_exitS ?_ | with_reducible refine wp_dropS (wp_eqT (by simp -dsimp -implicitDefEqProofs; rfl) ?_) | with_reducible refine wp_sealS (by simp -dsimp -implicitDefEqProofs; rfl) ?_ | with_reducible refine wp_seal (by simp -dsimp -implicitDefEqProofs; rfl) ?_ | with_reducible refine wp_closeS (by simp -dsimp -implicitDefEqProofs; rfl) ?_ | with_reducible refine wp_close (by simp -dsimp -implicitDefEqProofs; rfl) ?_ | with_reducible refine wp_conc_out ?_ | with_reducible refine wp_open_out ?_ | with_reducible refine wp_pack_out ?_ | with_reducible refine wp_blockS ?_ | with_reducible refine wp_skip' ?_ | with_reducible refine wp_ret' ?_ | with_reducible refine wp_exit' ?_ | with_reducible refine wp_drop (wp_eqT (by simp -dsimp -implicitDefEqProofs; rfl) ?_) | with_reducible refine wp_block' ?_
      | with_reducible refine wp_condVS (by simp -dsimp -implicitDefEqProofs; rfl) ?_
      | with_reducible refine wp_condV (by simp -dsimp -implicitDefEqProofs; rfl) ?_
      | with_reducible refine cond_t ?_ | with_reducible refine cond_f ?_ | with_reducible refine cond_v (fun h => ?_) (fun h => ?_)
      | with_reducible refine post_then ?_ | with_reducible refine post_thenE ?_ | with_reducible refine post_thenP ?_ | with_reducible refine post_blkP ?_ | with_reducible refine post_thenR ?_ | with_reducible refine post_blkN ?_ | with_reducible refine post_blkE ?_ | with_reducible refine post_blkF rfl ?_ | with_reducible refine post_blkR ?_
      | with_reducible refine seg_eval (by simp -dsimp -implicitDefEqProofs; rfl) ?_
  all_goals simp only [decide_eq_true_eq, decide_eq_false_iff_not, beq_iff_eq, beq_eq_false_iff_ne] at *
  · have e : canon m = 0 := by unfold canon; rw [if_pos (by omega)]
    rw [e]; exact post_fin rfl rfl ⟨[], [], rfl, rfl, rfl, rfl⟩
  · rename_i h1 h2
    have e : canon m = 9221120237041090561 := canon_nan (by have : ((m : Int).tmod 9223372036854775808) = ((m % 9223372036854775808 : Nat) : Int) := rfl; omega)
    rw [e]; exact post_fin rfl rfl ⟨[], [], rfl, rfl, rfl, rfl⟩
  · rename_i h1 h2
    have e : canon m = m := by
      have : ((m : Int).tmod 9223372036854775808) = ((m % 9223372036854775808 : Nat) : Int) := rfl
      unfold canon; rw [if_neg (by omega), if_neg (by omega)]
    rw [e]; exact post_fin rfl rfl ⟨[], [], rfl, rfl, rfl, rfl⟩

def E6e : Env := E6d.put 121 [] spCanonR
theorem E6e_ok : EnvOk Tryz.prog E6e := Env.put_ok _ E6d_ok canonR_ok
attribute [simp] E6e spCanonR

def spCodeR : Spec
  | [.v (.int .u64 c)], [] => if 0 ≤ c ∧ c < 18446744073709551616 then some (.ret (.v (.int .u64 (rcode c.toNat))), []) else none
  | _, _ => none

theorem codeR_ok : CallOk Tryz.prog 134 spCodeR := by
  refine ok_134 E6e_ok spCodeR fun args mem r mem1 h => ?_
  unfold spCodeR at h
  split at h
  case h_2 => cases h
  rename_i x
  obtain ⟨hx, h⟩ := if_some h
  cases h
  obtain ⟨m, rfl⟩ := Int.eq_ofNat_of_zero_le hx.1
  have hm : m < 18446744073709551616 := by omega
  have hc := canon_lt hm
  simp only [Int.toNat_natCast]
  unfold ac_134
  repeat' first
      | with_reducible refine wp_regionS (seg_eval (by simp -dsimp -implicitDefEqProofs; rfl) ?_)
      | with_reducible refine wp_region (seg_eval (by simp -dsimp -implicitDefEqProofs; rfl) ?_)
      | with_reducible refine wp_drawsS (seg_eval (by simp -dsimp -implicitDefEqProofs; rfl) ?_)
      | with_reducible refine wp_draws (seg_eval (by simp -dsimp -implicitDefEqProofs; rfl) ?_)
      | with_reducible refine seg_fin ?_
      | with_reducible refine seg_pan ?_
      | with_reducible refine seg_both ?_ ?_
      | with_reducible refine seg_case (fun x h => ?_) (fun h => ?_)
      | with_reducible refine seg_gate (fun h => ?_) (fun h => ?_)
      | with_reducible refine seg_need ?_ ?_
      | with_reducible refine wp_assoc ?_ | with_reducible refine wp_skipS ?_ | with_reducible refine wp_retS ?_ | with_reducible refine wp_exitS ?_ | with_reducible refine wp_dropS (wp_eqT (by simp -dsimp -implicitDefEqProofs; rfl) ?_) | with_reducible refine wp_sealS (by simp -dsimp -implicitDefEqProofs; rfl) ?_ | with_reducible refine wp_seal (by simp -dsimp -implicitDefEqProofs; rfl) ?_ | with_reducible refine wp_closeS (by simp -dsimp -implicitDefEqProofs; rfl) ?_ | with_reducible refine wp_close (by simp -dsimp -implicitDefEqProofs; rfl) ?_ | with_reducible refine wp_conc_out ?_ | with_reducible refine wp_open_out ?_ | with_reducible refine wp_pack_out ?_ | with_reducible refine wp_blockS ?_ | with_reducible refine wp_skip' ?_ | with_reducible refine wp_ret' ?_ | with_reducible refine wp_exit' ?_ | with_reducible refine wp_drop (wp_eqT (by simp -dsimp -implicitDefEqProofs; rfl) ?_) | with_reducible refine wp_block' ?_
      | with_reducible refine wp_condVS (by simp -dsimp -implicitDefEqProofs; rfl) ?_
      | with_reducible refine wp_condV (by simp -dsimp -implicitDefEqProofs; rfl) ?_
      | with_reducible refine cond_t ?_ | with_reducible refine cond_f ?_ | with_reducible refine cond_v (fun h => ?_) (fun h => ?_)
      | with_reducible refine post_then ?_ | with_reducible refine post_thenE ?_ | with_reducible refine post_thenP ?_ | with_reducible refine post_blkP ?_ | with_reducible refine post_thenR ?_ | with_reducible refine post_blkN ?_ | with_reducible refine post_blkE ?_ | with_reducible refine post_blkF rfl ?_ | with_reducible refine post_blkR ?_
      | with_reducible refine seg_eval (by simp -dsimp -implicitDefEqProofs; rfl) ?_
  all_goals try simp only [decide_eq_true_eq, decide_eq_false_iff_not] at h
  · omega
  · have e : rcode m = 18446744073709551615 - canon m := by unfold rcode; rw [if_pos (by omega)]
    rw [u64_in _ (by omega)]
    rw [e, Int.ofNat_sub (by omega)]; exact post_fin rfl rfl ⟨[], [], rfl, rfl, rfl, rfl⟩
  · have e : rcode m = canon m + 9223372036854775808 := by unfold rcode; rw [if_neg (by omega)]
    rw [u64_in _ (by omega)]
    rw [e]; exact post_fin rfl rfl ⟨[], [], rfl, rfl, rfl, rfl⟩

def E6f : Env := E6e.put 134 [] spCodeR
theorem E6f_ok : EnvOk Tryz.prog E6f := Env.put_ok _ E6e_ok codeR_ok
attribute [simp] E6f spCodeR

def E6g : Env := E6f
theorem E6g_ok : EnvOk Tryz.prog E6g := E6f_ok
attribute [simp] E6g
end Go.Proofs.YtajpaagbfmjacaaGreatDoor.Am
