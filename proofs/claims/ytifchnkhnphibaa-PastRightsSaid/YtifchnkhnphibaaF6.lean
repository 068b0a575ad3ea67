import Derived.Test.YtifchnkhnphibaaF5
import Derived.Test.YtifchnkhnphibaaP1
namespace Go.Proofs.Ytifchnkhnphibaa.Am
set_option linter.unusedSimpArgs false
set_option linter.unusedVariables false
open Go Go.Proofs
attribute [local irreducible] wpA
attribute [simp] spBits spFrom

def E6 : Env := (E2b.put 40 [] spBits).put 50 [] spFrom
theorem E6_ok : EnvOk Try.prog E6 := Env.put_ok _ (Env.put_ok _ E2b_ok bits_ok) frombits_ok
attribute [simp] E6

/-! ### The program's floats -/
def spCanonF : Spec
  | [.v (.float .f64 x)], [] => if x < 18446744073709551616 then some (.ret (.v (.float .f64 (canon x))), []) else none
  | _, _ => none

theorem canonF_ok : CallOk Try.prog 41 spCanonF := by
  refine ok_41 E6_ok spCanonF fun args mem r mem1 h => ?_
  unfold spCanonF at h
  split at h
  case h_2 => cases h
  rename_i x
  obtain ⟨hx, h⟩ := if_some h
  cases h
  unfold ac_41
  repeat' first
      | with_reducible refine wp_regionS (seg_eval (by simp -dsimp -implicitDefEqProofs; rfl) ?_)
      | with_reducible refine wp_region (seg_eval (by simp -dsimp -implicitDefEqProofs; rfl) ?_)
      | with_reducible refine wp_drawsS (seg_eval (by simp -dsimp -implicitDefEqProofs; rfl) ?_)
      | with_reducible refine wp_draws (seg_eval (by simp -dsimp -implicitDefEqProofs; rfl) ?_)
      | with_reducible refine seg_fin ?_
      | with_reducible refine seg_pan ?_
      | with_reducible refine seg_both ?_ ?_
      | with_reducible refine seg_case (fun x h => ?_) (fun h => ?_)
      | with_reducible refine seg_gate (fun h => ?_) (fun h => ?_)
      | with_reducible refine seg_need ?_ ?_
      | with_reducible refine wp_assoc ?_ | with_reducible refine wp_skipS ?_ | with_reducible refine wp_retS ?_ | with_reducible refine wp_exitS ?_ | with_reducible refine wp_dropS (wp_eqT (by simp -dsimp -implicitDefEqProofs; rfl) ?_) | with_reducible refine wp_sealS (by simp -dsimp -implicitDefEqProofs; rfl) ?_ | with_reducible refine wp_seal (by simp -dsimp -implicitDefEqProofs; rfl) ?_ | with_reducible refine wp_blockS ?_ | with_reducible refine wp_skip' ?_ | with_reducible refine wp_ret' ?_ | with_reducible refine wp_exit' ?_ | with_reducible refine wp_drop (wp_eqT (by simp -dsimp -implicitDefEqProofs; rfl) ?_) | with_reducible refine wp_block' ?_
      | with_reducible refine wp_condVS (by simp -dsimp -implicitDefEqProofs; rfl) ?_
      | with_reducible refine wp_condV (by simp -dsimp -implicitDefEqProofs; rfl) ?_
      | with_reducible refine cond_t ?_ | with_reducible refine cond_f ?_ | with_reducible refine cond_v (fun h => ?_) (fun h => ?_)
      | with_reducible refine post_then ?_ | with_reducible refine post_thenE ?_ | with_reducible refine post_thenP ?_ | with_reducible refine post_blkP ?_ | with_reducible refine post_thenR ?_ | with_reducible refine post_blkN ?_ | with_reducible refine post_blkE ?_ | with_reducible refine post_blkF rfl ?_ | with_reducible refine post_blkR ?_
      | with_reducible refine seg_eval (by simp -dsimp -implicitDefEqProofs; rfl) ?_
  all_goals simp only [bne, order_self, order_zero, nanB, Bool.not_not, decide_eq_true_eq, decide_eq_false_iff_not] at *
  · rw [canon_nan (by assumption)]; exact post_fin rfl rfl ⟨[], [], rfl, rfl, rfl, rfl⟩
  · rw [canon_nought hx (by assumption)]; exact post_fin rfl rfl ⟨[], [], rfl, rfl, rfl, rfl⟩
  · rw [canon_other (by assumption) (by assumption)]; exact post_fin rfl rfl ⟨[], [], rfl, rfl, rfl, rfl⟩

def E6b : Env := E6.put 41 [] spCanonF
theorem E6b_ok : EnvOk Try.prog E6b := Env.put_ok _ E6_ok canonF_ok
attribute [simp] E6b spCanonF

def spCodeF : Spec
  | [.v (.float .f64 x)], [] => if x < 18446744073709551616 then some (.ret (.v (.int .u64 (rcode x))), []) else none
  | _, _ => none

theorem codeF_ok : CallOk Try.prog 33 spCodeF := by
  refine ok_33 E6b_ok spCodeF fun args mem r mem1 h => ?_
  unfold spCodeF at h
  split at h
  case h_2 => cases h
  rename_i x
  obtain ⟨hx, h⟩ := if_some h
  cases h
  unfold ac_33
  have hc := canon_lt hx
  repeat' first
      | with_reducible refine wp_regionS (seg_eval (by simp -dsimp -implicitDefEqProofs; rfl) ?_)
      | with_reducible refine wp_region (seg_eval (by simp -dsimp -implicitDefEqProofs; rfl) ?_)
      | with_reducible refine wp_drawsS (seg_eval (by simp -dsimp -implicitDefEqProofs; rfl) ?_)
      | with_reducible refine wp_draws (seg_eval (by simp -dsimp -implicitDefEqProofs; rfl) ?_)
      | with_reducible refine seg_fin ?_
      | with_reducible refine seg_pan ?_
      | with_reducible refine seg_both ?_ ?_
      | with_reducible refine seg_case (fun x h => ?_) (fun h => ?_)
      | with_reducible refine seg_gate (fun h => ?_) (fun h => ?_)
      | with_reducible refine seg_need ?_ ?_
      | with_reducible refine wp_assoc ?_ | with_reducible refine wp_skipS ?_ | with_reducible refine wp_retS ?_ | with_reducible refine wp_exitS ?_ | with_reducible refine wp_dropS (wp_eqT (by simp -dsimp -implicitDefEqProofs; rfl) ?_) | with_reducible refine wp_sealS (by simp -dsimp -implicitDefEqProofs; rfl) ?_ | with_reducible refine wp_seal (by simp -dsimp -implicitDefEqProofs; rfl) ?_ | with_reducible refine wp_blockS ?_ | with_reducible refine wp_skip' ?_ | with_reducible refine wp_ret' ?_ | with_reducible refine wp_exit' ?_ | with_reducible refine wp_drop (wp_eqT (by simp -dsimp -implicitDefEqProofs; rfl) ?_) | with_reducible refine wp_block' ?_
      | with_reducible refine wp_condVS (by simp -dsimp -implicitDefEqProofs; rfl) ?_
      | with_reducible refine wp_condV (by simp -dsimp -implicitDefEqProofs; rfl) ?_
      | with_reducible refine cond_t ?_ | with_reducible refine cond_f ?_ | with_reducible refine cond_v (fun h => ?_) (fun h => ?_)
      | with_reducible refine post_then ?_ | with_reducible refine post_thenE ?_ | with_reducible refine post_thenP ?_ | with_reducible refine post_blkP ?_ | with_reducible refine post_thenR ?_ | with_reducible refine post_blkN ?_ | with_reducible refine post_blkE ?_ | with_reducible refine post_blkF rfl ?_ | with_reducible refine post_blkR ?_
      | with_reducible refine seg_eval (by simp -dsimp -implicitDefEqProofs; rfl) ?_
  · exact hx
  · rw [and_sign _ hc, decide_eq_true_eq] at h
    rw [not_u64 _ hc]
    have e : rcode x = 18446744073709551615 - canon x := by unfold rcode; rw [if_pos h]
    rw [e]; exact post_fin rfl rfl ⟨[], [], rfl, rfl, rfl, rfl⟩
  · rw [and_sign _ hc, decide_eq_false_iff_not] at h
    rw [or_sign _ (by omega)]
    have e : rcode x = canon x + 9223372036854775808 := by unfold rcode; rw [if_neg h]
    rw [e]; exact post_fin rfl rfl ⟨[], [], rfl, rfl, rfl, rfl⟩

def E6c : Env := E6b.put 33 [] spCodeF
theorem E6c_ok : EnvOk Try.prog E6c := Env.put_ok _ E6b_ok codeF_ok
attribute [simp] E6c spCodeF

def spDecodeF : Spec
  | [.v (.int .u64 c)], [] => if 0 ≤ c ∧ c < 18446744073709551616 then some (.ret (.tup [.v (.float .f64 ((rdec c.toNat).getD 0)), .v (.bool (rdec c.toNat).isSome)]), []) else none
  | _, _ => none

theorem decodeF_ok : CallOk Try.prog 46 spDecodeF := by
  refine ok_46 E6c_ok spDecodeF fun args mem r mem1 h => ?_
  unfold spDecodeF at h
  split at h
  case h_2 => cases h
  rename_i x
  obtain ⟨hx, h⟩ := if_some h
  cases h
  obtain ⟨m, rfl⟩ := Int.eq_ofNat_of_zero_le hx.1
  have hm : m < 18446744073709551616 := by omega
  have hb := rback_lt hm
  have e0 := not_u64 m hm
  simp only [Int.toNat_natCast]
  unfold ac_46
  have evA : 9223372036854775808 ≤ m → andNotI .u64 (m : Int) 9223372036854775808 = (rback m : Int) := fun h => by rw [andNot_sign _ ⟨h, hm⟩]; unfold rback; rw [if_pos h]
  have evN : ¬ 9223372036854775808 ≤ m → notI .u64 (m : Int) = (rback m : Int) := fun h => by rw [not_u64 _ hm]; unfold rback; rw [if_neg h]
  have dT : rcode (rback m) = m → rdec m = some (rback m) := fun h => by unfold rdec; rw [if_pos h]
  have dF : ¬ rcode (rback m) = m → rdec m = none := fun h => by unfold rdec; rw [if_neg h]
  clear e0
  repeat' first
      | with_reducible refine wp_regionS (seg_eval (by simp -dsimp -implicitDefEqProofs; rfl) ?_)
      | with_reducible refine wp_region (seg_eval (by simp -dsimp -implicitDefEqProofs; rfl) ?_)
      | with_reducible refine wp_drawsS (seg_eval (by simp -dsimp -implicitDefEqProofs; rfl) ?_)
      | with_reducible refine wp_draws (seg_eval (by simp -dsimp -implicitDefEqProofs; rfl) ?_)
      | with_reducible refine seg_fin ?_
      | with_reducible refine seg_pan ?_
      | with_reducible refine seg_both ?_ ?_
      | with_reducible refine seg_case (fun x h => ?_) (fun h => ?_)
      | with_reducible refine seg_gate (fun h => ?_) (fun h => ?_)
      | with_reducible refine seg_need ?_ ?_
      | with_reducible refine wp_assoc ?_ | with_reducible refine wp_skipS ?_ | with_reducible refine wp_retS ?_ | with_reducible refine wp_exitS ?_ | with_reducible refine wp_dropS (wp_eqT (by simp -dsimp -implicitDefEqProofs; rfl) ?_) | with_reducible refine wp_sealS (by simp -dsimp -implicitDefEqProofs; rfl) ?_ | with_reducible refine wp_seal (by simp -dsimp -implicitDefEqProofs; rfl) ?_ | with_reducible refine wp_blockS ?_ | with_reducible refine wp_skip' ?_ | with_reducible refine wp_ret' ?_ | with_reducible refine wp_exit' ?_ | with_reducible refine wp_drop (wp_eqT (by simp -dsimp -implicitDefEqProofs; rfl) ?_) | with_reducible refine wp_block' ?_
      | with_reducible refine wp_condVS (by simp -dsimp -implicitDefEqProofs; rfl) ?_
      | with_reducible refine wp_condV (by simp -dsimp -implicitDefEqProofs; rfl) ?_
      | with_reducible refine cond_t ?_ | with_reducible refine cond_f ?_ | with_reducible refine cond_v (fun h => ?_) (fun h => ?_)
      | with_reducible refine post_then ?_ | with_reducible refine post_thenE ?_ | with_reducible refine post_thenP ?_ | with_reducible refine post_blkP ?_ | with_reducible refine post_thenR ?_ | with_reducible refine post_blkN ?_ | with_reducible refine post_blkE ?_ | with_reducible refine post_blkF rfl ?_ | with_reducible refine post_blkR ?_
      | with_reducible refine seg_eval (by simp -dsimp -implicitDefEqProofs; rfl) ?_
  all_goals (rw [and_sign _ hm] at *; simp only [decide_eq_true_eq, decide_eq_false_iff_not] at *)
  all_goals first | rw [evA (by assumption)] at * | rw [evN (by assumption)] at *
  · omega
  · rename_i hne
    rw [dF (by simpa using hne)]; exact post_fin rfl rfl ⟨[], [], rfl, rfl, rfl, rfl⟩
  · rename_i hne
    rw [dT (by simpa using hne)]; exact post_fin rfl rfl ⟨[], [], rfl, rfl, rfl, rfl⟩
  · omega
  · rename_i hne
    rw [dF (by simpa using hne)]; exact post_fin rfl rfl ⟨[], [], rfl, rfl, rfl, rfl⟩
  · rename_i hne
    rw [dT (by simpa using hne)]; exact post_fin rfl rfl ⟨[], [], rfl, rfl, rfl, rfl⟩

def E6d : Env := E6c.put 46 [] spDecodeF
theorem E6d_ok : EnvOk Try.prog E6d := Env.put_ok _ E6c_ok decodeF_ok
attribute [simp] E6d spDecodeF

/-! ### The document's -/
def spCanonR : Spec
  | [.v (.int .u64 c)], [] => if 0 ≤ c ∧ c < 18446744073709551616 then some (.ret (.v (.int .u64 (canon c.toNat))), []) else none
  | _, _ => none

theorem canonR_ok : CallOk Try.prog 43 spCanonR := by
  refine ok_43 E6d_ok spCanonR fun args mem r mem1 h => ?_
  unfold spCanonR at h
  split at h
  case h_2 => cases h
  rename_i x
  obtain ⟨hx, h⟩ := if_some h
  cases h
  obtain ⟨m, rfl⟩ := Int.eq_ofNat_of_zero_le hx.1
  simp only [Int.toNat_natCast]
  unfold ac_43
  repeat' first
      | with_reducible refine wp_regionS (seg_eval (by simp -dsimp -implicitDefEqProofs; rfl) ?_)
      | with_reducible refine wp_region (seg_eval (by simp -dsimp -implicitDefEqProofs; rfl) ?_)
      | with_reducible refine wp_drawsS (seg_eval (by simp -dsimp -implicitDefEqProofs; rfl) ?_)
      | with_reducible refine wp_draws (seg_eval (by simp -dsimp -implicitDefEqProofs; rfl) ?_)
      | with_reducible refine seg_fin ?_
      | with_reducible refine seg_pan ?_
      | with_reducible refine seg_both ?_ ?_
      | with_reducible refine seg_case (fun x h => ?_) (fun h => ?_)
      | with_reducible refine seg_gate (fun h => ?_) (fun h => ?_)
      | with_reducible refine seg_need ?_ ?_
      | with_reducible refine wp_assoc ?_ | with_reducible refine wp_skipS ?_ | with_reducible refine wp_retS ?_ | with_reducible refine wp_exitS ?_ | with_reducible refine wp_dropS (wp_eqT (by simp -dsimp -implicitDefEqProofs; rfl) ?_) | with_reducible refine wp_sealS (by simp -dsimp -implicitDefEqProofs; rfl) ?_ | with_reducible refine wp_seal (by simp -dsimp -implicitDefEqProofs; rfl) ?_ | with_reducible refine wp_blockS ?_ | with_reducible refine wp_skip' ?_ | with_reducible refine wp_ret' ?_ | with_reducible refine wp_exit' ?_ | with_reducible refine wp_drop (wp_eqT (by simp -dsimp -implicitDefEqProofs; rfl) ?_) | with_reducible refine wp_block' ?_
      | with_reducible refine wp_condVS (by simp -dsimp -implicitDefEqProofs; rfl) ?_
      | with_reducible refine wp_condV (by simp -dsimp -implicitDefEqProofs; rfl) ?_
      | with_reducible refine cond_t ?_ | with_reducible refine cond_f ?_ | with_reducible refine cond_v (fun h => ?_) (fun h => ?_)
      | with_reducible refine post_then ?_ | with_reducible refine post_thenE ?_ | with_reducible refine post_thenP ?_ | with_reducible refine post_blkP ?_ | with_reducible refine post_thenR ?_ | with_reducible refine post_blkN ?_ | with_reducible refine post_blkE ?_ | with_reducible refine post_blkF rfl ?_ | with_reducible refine post_blkR ?_
      | with_reducible refine seg_eval (by simp -dsimp -implicitDefEqProofs; rfl) ?_
  all_goals simp only [decide_eq_true_eq, decide_eq_false_iff_not, beq_iff_eq, beq_eq_false_iff_ne] at *
  · have e : canon m = 0 := by unfold canon; rw [if_pos (by omega)]
    rw [e]; exact post_fin rfl rfl ⟨[], [], rfl, rfl, rfl, rfl⟩
  · rename_i h1 h2
    have e : canon m = 9221120237041090561 := canon_nan (by have : ((m : Int).tmod 9223372036854775808) = ((m % 9223372036854775808 : Nat) : Int) := rfl; omega)
    rw [e]; exact post_fin rfl rfl ⟨[], [], rfl, rfl, rfl, rfl⟩
  · rename_i h1 h2
    have e : canon m = m := by
      have : ((m : Int).tmod 9223372036854775808) = ((m % 9223372036854775808 : Nat) : Int) := rfl
      unfold canon; rw [if_neg (by omega), if_neg (by omega)]
    rw [e]; exact post_fin rfl rfl ⟨[], [], rfl, rfl, rfl, rfl⟩

def E6e : Env := E6d.put 43 [] spCanonR
theorem E6e_ok : EnvOk Try.prog E6e := Env.put_ok _ E6d_ok canonR_ok
attribute [simp] E6e spCanonR

def spCodeR : Spec
  | [.v (.int .u64 c)], [] => if 0 ≤ c ∧ c < 18446744073709551616 then some (.ret (.v (.int .u64 (rcode c.toNat))), []) else none
  | _, _ => none

theorem codeR_ok : CallOk Try.prog 53 spCodeR := by
  refine ok_53 E6e_ok spCodeR fun args mem r mem1 h => ?_
  unfold spCodeR at h
  split at h
  case h_2 => cases h
  rename_i x
  obtain ⟨hx, h⟩ := if_some h
  cases h
  obtain ⟨m, rfl⟩ := Int.eq_ofNat_of_zero_le hx.1
  have hm : m < 18446744073709551616 := by omega
  have hc := canon_lt hm
  simp only [Int.toNat_natCast]
  unfold ac_53
  repeat' first
      | with_reducible refine wp_regionS (seg_eval (by simp -dsimp -implicitDefEqProofs; rfl) ?_)
      | with_reducible refine wp_region (seg_eval (by simp -dsimp -implicitDefEqProofs; rfl) ?_)
      | with_reducible refine wp_drawsS (seg_eval (by simp -dsimp -implicitDefEqProofs; rfl) ?_)
      | with_reducible refine wp_draws (seg_eval (by simp -dsimp -implicitDefEqProofs; rfl) ?_)
      | with_reducible refine seg_fin ?_
      | with_reducible refine seg_pan ?_
      | with_reducible refine seg_both ?_ ?_
      | with_reducible refine seg_case (fun x h => ?_) (fun h => ?_)
      | with_reducible refine seg_gate (fun h => ?_) (fun h => ?_)
      | with_reducible refine seg_need ?_ ?_
      | with_reducible refine wp_assoc ?_ | with_reducible refine wp_skipS ?_ | with_reducible refine wp_retS ?_ | with_reducible refine wp_exitS ?_ | with_reducible refine wp_dropS (wp_eqT (by simp -dsimp -implicitDefEqProofs; rfl) ?_) | with_reducible refine wp_sealS (by simp -dsimp -implicitDefEqProofs; rfl) ?_ | with_reducible refine wp_seal (by simp -dsimp -implicitDefEqProofs; rfl) ?_ | with_reducible refine wp_blockS ?_ | with_reducible refine wp_skip' ?_ | with_reducible refine wp_ret' ?_ | with_reducible refine wp_exit' ?_ | with_reducible refine wp_drop (wp_eqT (by simp -dsimp -implicitDefEqProofs; rfl) ?_) | with_reducible refine wp_block' ?_
      | with_reducible refine wp_condVS (by simp -dsimp -implicitDefEqProofs; rfl) ?_
      | with_reducible refine wp_condV (by simp -dsimp -implicitDefEqProofs; rfl) ?_
      | with_reducible refine cond_t ?_ | with_reducible refine cond_f ?_ | with_reducible refine cond_v (fun h => ?_) (fun h => ?_)
      | with_reducible refine post_then ?_ | with_reducible refine post_thenE ?_ | with_reducible refine post_thenP ?_ | with_reducible refine post_blkP ?_ | with_reducible refine post_thenR ?_ | with_reducible refine post_blkN ?_ | with_reducible refine post_blkE ?_ | with_reducible refine post_blkF rfl ?_ | with_reducible refine post_blkR ?_
      | with_reducible refine seg_eval (by simp -dsimp -implicitDefEqProofs; rfl) ?_
  all_goals try simp only [decide_eq_true_eq, decide_eq_false_iff_not] at h
  · omega
  · have e : rcode m = 18446744073709551615 - canon m := by unfold rcode; rw [if_pos (by omega)]
    rw [u64_in _ (by omega)]
    rw [e, Int.ofNat_sub (by omega)]; exact post_fin rfl rfl ⟨[], [], rfl, rfl, rfl, rfl⟩
  · have e : rcode m = canon m + 9223372036854775808 := by unfold rcode; rw [if_neg (by omega)]
    rw [u64_in _ (by omega)]
    rw [e]; exact post_fin rfl rfl ⟨[], [], rfl, rfl, rfl, rfl⟩

def E6f : Env := E6e.put 53 [] spCodeR
theorem E6f_ok : EnvOk Try.prog E6f := Env.put_ok _ E6e_ok codeR_ok
attribute [simp] E6f spCodeR

def spDecodeR : Spec
  | [.v (.int .u64 c)], [] => if 0 ≤ c ∧ c < 18446744073709551616 then some (.ret (.tup [.v (.int .u64 ((rdec c.toNat).getD 0 : Nat)), .v (.bool (rdec c.toNat).isSome)]), []) else none
  | _, _ => none

theorem decodeR_ok : CallOk Try.prog 48 spDecodeR := by
  refine ok_48 E6f_ok spDecodeR fun args mem r mem1 h => ?_
  unfold spDecodeR at h
  split at h
  case h_2 => cases h
  rename_i x
  obtain ⟨hx, h⟩ := if_some h
  cases h
  obtain ⟨m, rfl⟩ := Int.eq_ofNat_of_zero_le hx.1
  have hm : m < 18446744073709551616 := by omega
  have hb := rback_lt hm
  simp only [Int.toNat_natCast]
  unfold ac_48
  have evA : 9223372036854775808 ≤ m → IntKind.wrap .u64 ((m : Int) - 9223372036854775808) = (rback m : Int) := fun h => by rw [u64_in _ (by omega)]; unfold rback; rw [if_pos h]; omega
  have evN : ¬ 9223372036854775808 ≤ m → IntKind.wrap .u64 (18446744073709551615 - (m : Int)) = (rback m : Int) := fun h => by rw [u64_in _ (by omega)]; unfold rback; rw [if_neg h]; omega
  have dT : rcode (rback m) = m → rdec m = some (rback m) := fun h => by unfold rdec; rw [if_pos h]
  have dF : ¬ rcode (rback m) = m → rdec m = none := fun h => by unfold rdec; rw [if_neg h]
  repeat' first
      | with_reducible refine wp_regionS (seg_eval (by simp -dsimp -implicitDefEqProofs; rfl) ?_)
      | with_reducible refine wp_region (seg_eval (by simp -dsimp -implicitDefEqProofs; rfl) ?_)
      | with_reducible refine wp_drawsS (seg_eval (by simp -dsimp -implicitDefEqProofs; rfl) ?_)
      | with_reducible refine wp_draws (seg_eval (by simp -dsimp -implicitDefEqProofs; rfl) ?_)
      | with_reducible refine seg_fin ?_
      | with_reducible refine seg_pan ?_
      | with_reducible refine seg_both ?_ ?_
      | with_reducible refine seg_case (fun x h => ?_) (fun h => ?_)
      | with_reducible refine seg_gate (fun h => ?_) (fun h => ?_)
      | with_reducible refine seg_need ?_ ?_
      | with_reducible refine wp_assoc ?_ | with_reducible refine wp_skipS ?_ | with_reducible refine wp_retS ?_ | with_reducible refine wp_exitS ?_ | with_reducible refine wp_dropS (wp_eqT (by simp -dsimp -implicitDefEqProofs; rfl) ?_) | with_reducible refine wp_sealS (by simp -dsimp -implicitDefEqProofs; rfl) ?_ | with_reducible refine wp_seal (by simp -dsimp -implicitDefEqProofs; rfl) ?_ | with_reducible refine wp_blockS ?_ | with_reducible refine wp_skip' ?_ | with_reducible refine wp_ret' ?_ | with_reducible refine wp_exit' ?_ | with_reducible refine wp_drop (wp_eqT (by simp -dsimp -implicitDefEqProofs; rfl) ?_) | with_reducible refine wp_block' ?_
      | with_reducible refine wp_condVS (by simp -dsimp -implicitDefEqProofs; rfl) ?_
      | with_reducible refine wp_condV (by simp -dsimp -implicitDefEqProofs; rfl) ?_
      | with_reducible refine cond_t ?_ | with_reducible refine cond_f ?_ | with_reducible refine cond_v (fun h => ?_) (fun h => ?_)
      | with_reducible refine post_then ?_ | with_reducible refine post_thenE ?_ | with_reducible refine post_thenP ?_ | with_reducible refine post_blkP ?_ | with_reducible refine post_thenR ?_ | with_reducible refine post_blkN ?_ | with_reducible refine post_blkE ?_ | with_reducible refine post_blkF rfl ?_ | with_reducible refine post_blkR ?_
      | with_reducible refine seg_eval (by simp -dsimp -implicitDefEqProofs; rfl) ?_
  all_goals simp only [decide_eq_true_eq, decide_eq_false_iff_not] at *
  all_goals first | rw [evA (by omega)] at * | rw [evN (by omega)] at *
  · omega
  · rename_i hne
    rw [dF (by simpa using hne)]; exact post_fin rfl rfl ⟨[], [], rfl, rfl, rfl, rfl⟩
  · rename_i hne
    rw [dT (by simpa using hne)]; exact post_fin rfl rfl ⟨[], [], rfl, rfl, rfl, rfl⟩
  · omega
  · rename_i hne
    rw [dF (by simpa using hne)]; exact post_fin rfl rfl ⟨[], [], rfl, rfl, rfl, rfl⟩
  · rename_i hne
    rw [dT (by simpa using hne)]; exact post_fin rfl rfl ⟨[], [], rfl, rfl, rfl, rfl⟩

def E6g : Env := E6f.put 48 [] spDecodeR
theorem E6g_ok : EnvOk Try.prog E6g := Env.put_ok _ E6f_ok decodeR_ok
attribute [simp] E6g spDecodeR
end Go.Proofs.Ytifchnkhnphibaa.Am
