/-
  SETS OF MEMBERS: who is in one, and how many they are.
-/
import Derived.Test.YtjmgnodeohmboaaDoorCode
import Derived.Test.YtjmgnodeohmboaaDoorS0
namespace Go.Proofs.YtjmgnodeohmboaaDoor.Am
set_option linter.unusedSimpArgs false
set_option linter.unusedVariables false
open Go Go.Proofs
attribute [local irreducible] wpA

theorem bit_wrap (i : Nat) (hi : i < 256) : IntKind.wrap .u16 (IntKind.wrap .u64 (1 * 2 ^ min i 64)) = ((bitS i : Nat) : Int) := by
  unfold bitS
  by_cases h : i < 16
  · rw [if_pos h]
    have : ∀ k : Fin 16, IntKind.wrap .u16 (IntKind.wrap .u64 (1 * 2 ^ min k.val 64)) = ((2 ^ k.val : Nat) : Int) := by decide
    exact this ⟨i, h⟩
  · rw [if_neg h]
    by_cases h2 : i < 64
    · have : ∀ k : Fin 64, ¬ k.val < 16 → IntKind.wrap .u16 (IntKind.wrap .u64 (1 * 2 ^ min k.val 64)) = 0 := by decide
      exact this ⟨i, h2⟩ h
    · rw [Nat.min_eq_right (by omega)]; decide

def spBit : Spec
  | [.v (.int .u8 i)], [] => if 0 ≤ i ∧ i < 256 then some (.ret (.v (.int .u16 (bitS i.toNat))), []) else none
  | _, _ => none
theorem bit_ok : CallOk Tryd.prog 34 spBit := by
  refine ok_34 (Env.none_ok _) spBit fun args mem r mem1 h => ?_
  unfold spBit at h
  split at h
  case h_2 => cases h
  rename_i i
  obtain ⟨⟨h0, h1⟩, h2⟩ := if_some h
  cases h2
  obtain ⟨i, rfl⟩ := Int.eq_ofNat_of_zero_le h0
  have hw := bit_wrap i (by omega)
  have hw' : IntKind.wrap .u16 (IntKind.wrap .u64 (2 ^ min i 64)) = ((bitS i : Nat) : Int) := by rw [← hw, Int.one_mul]
  unfold ac_34
  repeat' first
      | with_reducible refine wp_regionS (seg_eval (by simp -dsimp -implicitDefEqProofs [hw, hw']; rfl) ?_)
      | with_reducible refine wp_region (seg_eval (by simp -dsimp -implicitDefEqProofs [hw, hw']; rfl) ?_)
      | with_reducible refine wp_drawsS (seg_eval (by simp -dsimp -implicitDefEqProofs [hw, hw']; rfl) ?_)
      | with_reducible refine wp_draws (seg_eval (by simp -dsimp -implicitDefEqProofs [hw, hw']; rfl) ?_)
      | with_reducible refine seg_fin ?_
      | with_reducible refine seg_pan ?_
      | with_reducible refine seg_both ?_ ?_
      | with_reducible refine seg_case (fun x h => ?_) (fun h => ?_)
      | with_reducible refine seg_gate (fun h => ?_) (fun h => ?_)
      | with_reducible refine seg_need ?_ ?_
      | with_reducible refine wp_assoc ?_ | with_reducible refine wp_skipS ?_ | with_reducible refine wp_retS ?_ | with_reducible refine wp_exitS ?_ | with_reducible refine wp_dropS (wp_eqT (by simp -dsimp -implicitDefEqProofs [hw, hw']; rfl) ?_) | with_reducible refine wp_sealS (by simp -dsimp -implicitDefEqProofs [hw, hw']; rfl) ?_ | with_reducible refine wp_seal (by simp -dsimp -implicitDefEqProofs [hw, hw']; rfl) ?_ | with_reducible refine wp_closeS (by simp -dsimp -implicitDefEqProofs [hw, hw']; rfl) ?_ | with_reducible refine wp_close (by simp -dsimp -implicitDefEqProofs [hw, hw']; rfl) ?_ | with_reducible refine wp_conc_out ?_ | with_reducible refine wp_open_out ?_ | with_reducible refine wp_pack_out ?_ | with_reducible refine wp_blockS ?_ | with_reducible refine wp_skip' ?_ | with_reducible refine wp_ret' ?_ | with_reducible refine wp_exit' ?_ | with_reducible refine wp_drop (wp_eqT (by simp -dsimp -implicitDefEqProofs [hw, hw']; rfl) ?_) | with_reducible refine wp_block' ?_
      | with_reducible refine wp_condVS (by simp -dsimp -implicitDefEqProofs [hw, hw']; rfl) ?_
      | with_reducible refine wp_condV (by simp -dsimp -implicitDefEqProofs [hw, hw']; rfl) ?_
      | with_reducible refine cond_t ?_ | with_reducible refine cond_f ?_ | with_reducible refine cond_v (fun h => ?_) (fun h => ?_)
      | with_reducible refine post_then ?_ | with_reducible refine post_thenE ?_ | with_reducible refine post_thenP ?_ | with_reducible refine post_blkP ?_ | with_reducible refine post_thenR ?_ | with_reducible refine post_blkN ?_ | with_reducible refine post_blkE ?_ | with_reducible refine post_blkF rfl ?_ | with_reducible refine post_blkR ?_
      | with_reducible refine seg_eval (by simp -dsimp -implicitDefEqProofs [hw, hw']; rfl) ?_
  all_goals first
    | omega
    | exact post_fin rfl rfl ⟨[], [], rfl, rfl, rfl, rfl⟩
    | trace_state

theorem and_nat (a b : Nat) (ha : a < 65536) (hb : b < 65536) : andI .u16 (a : Int) (b : Int) = ((a &&& b : Nat) : Int) := by
  unfold andI
  have e : ((BitVec.ofInt 16 (a : Int) &&& BitVec.ofInt 16 (b : Int)).toNat) = a &&& b := by
    rw [BitVec.toNat_and, BitVec.toNat_ofInt, BitVec.toNat_ofInt]
    congr 1 <;> omega
  show IntKind.wrap .u16 (((BitVec.ofInt 16 (a : Int) &&& BitVec.ofInt 16 (b : Int)).toNat : Nat) : Int) = _
  rw [e, IntKind.wrap_u16]
  have : a &&& b < 65536 := Nat.lt_of_le_of_lt Nat.and_le_left ha
  omega
theorem or_nat (a b : Nat) (ha : a < 65536) (hb : b < 65536) : orI .u16 (a : Int) (b : Int) = ((a ||| b : Nat) : Int) := by
  unfold orI
  have e : ((BitVec.ofInt 16 (a : Int) ||| BitVec.ofInt 16 (b : Int)).toNat) = a ||| b := by
    rw [BitVec.toNat_or, BitVec.toNat_ofInt, BitVec.toNat_ofInt]
    congr 1 <;> omega
  show IntKind.wrap .u16 (((BitVec.ofInt 16 (a : Int) ||| BitVec.ofInt 16 (b : Int)).toNat : Nat) : Int) = _
  rw [e, IntKind.wrap_u16]
  have : a ||| b < 65536 := Nat.or_lt_two_pow (n := 16) ha hb
  omega
theorem xor_nat (a b : Nat) (ha : a < 65536) (hb : b < 65536) : xorI .u16 (a : Int) (b : Int) = ((a ^^^ b : Nat) : Int) := by
  unfold xorI
  have e : ((BitVec.ofInt 16 (a : Int) ^^^ BitVec.ofInt 16 (b : Int)).toNat) = a ^^^ b := by
    rw [BitVec.toNat_xor, BitVec.toNat_ofInt, BitVec.toNat_ofInt]
    congr 1 <;> omega
  show IntKind.wrap .u16 (((BitVec.ofInt 16 (a : Int) ^^^ BitVec.ofInt 16 (b : Int)).toNat : Nat) : Int) = _
  rw [e, IntKind.wrap_u16]
  have : a ^^^ b < 65536 := Nat.xor_lt_two_pow (n := 16) ha hb
  omega

def spHas : Spec
  | [.v (.int .u16 m), .v (.int .u8 i)], [] => if 0 ≤ m ∧ m < 65536 ∧ 0 ≤ i ∧ i < 256 then some (.ret (.v (.bool (hasS m.toNat i.toNat))), []) else none
  | _, _ => none
theorem has_ok : CallOk Tryd.prog 23 spHas := by
  refine ok_23 (Env.put_ok [] (Env.none_ok _) bit_ok) spHas fun args mem r mem1 h => ?_
  unfold spHas at h
  split at h
  case h_2 => cases h
  rename_i m i
  obtain ⟨⟨h0, h1, h2, h3⟩, h4⟩ := if_some h
  cases h4
  obtain ⟨m, rfl⟩ := Int.eq_ofNat_of_zero_le h0
  obtain ⟨i, rfl⟩ := Int.eq_ofNat_of_zero_le h2
  have hw := and_nat m (bitS i) (by omega) (bitS_lt i)
  have hh := has_and_bit (m := m) (by omega) i
  unfold ac_23
  repeat' first
      | with_reducible refine wp_regionS (seg_eval (by simp -dsimp -implicitDefEqProofs [spBit, hw, hh]; rfl) ?_)
      | with_reducible refine wp_region (seg_eval (by simp -dsimp -implicitDefEqProofs [spBit, hw, hh]; rfl) ?_)
      | with_reducible refine wp_drawsS (seg_eval (by simp -dsimp -implicitDefEqProofs [spBit, hw, hh]; rfl) ?_)
      | with_reducible refine wp_draws (seg_eval (by simp -dsimp -implicitDefEqProofs [spBit, hw, hh]; rfl) ?_)
      | with_reducible refine seg_fin ?_
      | with_reducible refine seg_pan ?_
      | with_reducible refine seg_both ?_ ?_
      | with_reducible refine seg_case (fun x h => ?_) (fun h => ?_)
      | with_reducible refine seg_gate (fun h => ?_) (fun h => ?_)
      | with_reducible refine seg_need ?_ ?_
      | with_reducible refine wp_assoc ?_ | with_reducible refine wp_skipS ?_ | with_reducible refine wp_retS ?_ | with_reducible refine wp_exitS ?_ | with_reducible refine wp_dropS (wp_eqT (by simp -dsimp -implicitDefEqProofs [spBit, hw, hh]; rfl) ?_) | with_reducible refine wp_sealS (by simp -dsimp -implicitDefEqProofs [spBit, hw, hh]; rfl) ?_ | with_reducible refine wp_seal (by simp -dsimp -implicitDefEqProofs [spBit, hw, hh]; rfl) ?_ | with_reducible refine wp_closeS (by simp -dsimp -implicitDefEqProofs [spBit, hw, hh]; rfl) ?_ | with_reducible refine wp_close (by simp -dsimp -implicitDefEqProofs [spBit, hw, hh]; rfl) ?_ | with_reducible refine wp_conc_out ?_ | with_reducible refine wp_open_out ?_ | with_reducible refine wp_pack_out ?_ | with_reducible refine wp_blockS ?_ | with_reducible refine wp_skip' ?_ | with_reducible refine wp_ret' ?_ | with_reducible refine wp_exit' ?_ | with_reducible refine wp_drop (wp_eqT (by simp -dsimp -implicitDefEqProofs [spBit, hw, hh]; rfl) ?_) | with_reducible refine wp_block' ?_
      | with_reducible refine wp_condVS (by simp -dsimp -implicitDefEqProofs [spBit, hw, hh]; rfl) ?_
      | with_reducible refine wp_condV (by simp -dsimp -implicitDefEqProofs [spBit, hw, hh]; rfl) ?_
      | with_reducible refine cond_t ?_ | with_reducible refine cond_f ?_ | with_reducible refine cond_v (fun h => ?_) (fun h => ?_)
      | with_reducible refine post_then ?_ | with_reducible refine post_thenE ?_ | with_reducible refine post_thenP ?_ | with_reducible refine post_blkP ?_ | with_reducible refine post_thenR ?_ | with_reducible refine post_blkN ?_ | with_reducible refine post_blkE ?_ | with_reducible refine post_blkF rfl ?_ | with_reducible refine post_blkR ?_
      | with_reducible refine seg_eval (by simp -dsimp -implicitDefEqProofs [spBit, hw, hh]; rfl) ?_
  all_goals first
    | omega
    | exact post_bool rfl rfl
    | trace_state

def spWith : Spec
  | [.v (.int .u16 m), .v (.int .u8 i)], [] => if 0 ≤ m ∧ m < 65536 ∧ 0 ≤ i ∧ i < 256 then some (.ret (.v (.int .u16 (withS m.toNat i.toNat))), []) else none
  | _, _ => none
theorem with_ok : CallOk Tryd.prog 25 spWith := by
  refine ok_25 (Env.put_ok [] (Env.none_ok _) bit_ok) spWith fun args mem r mem1 h => ?_
  unfold spWith at h
  split at h
  case h_2 => cases h
  rename_i m i
  obtain ⟨⟨h0, h1, h2, h3⟩, h4⟩ := if_some h
  cases h4
  obtain ⟨m, rfl⟩ := Int.eq_ofNat_of_zero_le h0
  obtain ⟨i, rfl⟩ := Int.eq_ofNat_of_zero_le h2
  have hw := or_nat m (bitS i) (by omega) (bitS_lt i)
  unfold ac_25
  repeat' first
      | with_reducible refine wp_regionS (seg_eval (by simp -dsimp -implicitDefEqProofs [spBit, hw]; rfl) ?_)
      | with_reducible refine wp_region (seg_eval (by simp -dsimp -implicitDefEqProofs [spBit, hw]; rfl) ?_)
      | with_reducible refine wp_drawsS (seg_eval (by simp -dsimp -implicitDefEqProofs [spBit, hw]; rfl) ?_)
      | with_reducible refine wp_draws (seg_eval (by simp -dsimp -implicitDefEqProofs [spBit, hw]; rfl) ?_)
      | with_reducible refine seg_fin ?_
      | with_reducible refine seg_pan ?_
      | with_reducible refine seg_both ?_ ?_
      | with_reducible refine seg_case (fun x h => ?_) (fun h => ?_)
      | with_reducible refine seg_gate (fun h => ?_) (fun h => ?_)
      | with_reducible refine seg_need ?_ ?_
      | with_reducible refine wp_assoc ?_ | with_reducible refine wp_skipS ?_ | with_reducible refine wp_retS ?_ | with_reducible refine wp_exitS ?_ | with_reducible refine wp_dropS (wp_eqT (by simp -dsimp -implicitDefEqProofs [spBit, hw]; rfl) ?_) | with_reducible refine wp_sealS (by simp -dsimp -implicitDefEqProofs [spBit, hw]; rfl) ?_ | with_reducible refine wp_seal (by simp -dsimp -implicitDefEqProofs [spBit, hw]; rfl) ?_ | with_reducible refine wp_closeS (by simp -dsimp -implicitDefEqProofs [spBit, hw]; rfl) ?_ | with_reducible refine wp_close (by simp -dsimp -implicitDefEqProofs [spBit, hw]; rfl) ?_ | with_reducible refine wp_conc_out ?_ | with_reducible refine wp_open_out ?_ | with_reducible refine wp_pack_out ?_ | with_reducible refine wp_blockS ?_ | with_reducible refine wp_skip' ?_ | with_reducible refine wp_ret' ?_ | with_reducible refine wp_exit' ?_ | with_reducible refine wp_drop (wp_eqT (by simp -dsimp -implicitDefEqProofs [spBit, hw]; rfl) ?_) | with_reducible refine wp_block' ?_
      | with_reducible refine wp_condVS (by simp -dsimp -implicitDefEqProofs [spBit, hw]; rfl) ?_
      | with_reducible refine wp_condV (by simp -dsimp -implicitDefEqProofs [spBit, hw]; rfl) ?_
      | with_reducible refine cond_t ?_ | with_reducible refine cond_f ?_ | with_reducible refine cond_v (fun h => ?_) (fun h => ?_)
      | with_reducible refine post_then ?_ | with_reducible refine post_thenE ?_ | with_reducible refine post_thenP ?_ | with_reducible refine post_blkP ?_ | with_reducible refine post_thenR ?_ | with_reducible refine post_blkN ?_ | with_reducible refine post_blkE ?_ | with_reducible refine post_blkF rfl ?_ | with_reducible refine post_blkR ?_
      | with_reducible refine seg_eval (by simp -dsimp -implicitDefEqProofs [spBit, hw]; rfl) ?_
  all_goals first
    | omega
    | exact post_fin rfl rfl ⟨[], [], rfl, rfl, rfl, rfl⟩
    | trace_state

/-! ### How many there are -/
def spSize : Spec
  | [.v (.int .u16 m)], [] => if 0 ≤ m ∧ m < 65536 then some (.ret (.v (.int .i64 (sizeS m.toNat))), []) else none
  | _, _ => none
end Go.Proofs.YtjmgnodeohmboaaDoor.Am
