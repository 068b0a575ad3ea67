/-
  SETS OF MEMBERS: who is in one, and how many they are.
-/
import Derived.Test.YtkbgndebfcjojaaZCode
import Derived.Test.YtkbgndebfcjojaaZQ5
import Derived.Test.YtkbgndebfcjojaaZQ3
namespace Go.Proofs.Ytkbgndebfcjojaa.Am
set_option linter.unusedSimpArgs false
set_option linter.unusedVariables false
open Go Go.Proofs
attribute [local irreducible] wpA

theorem bit_wrap (i : Nat) (hi : i < 256) : IntKind.wrap .u16 (IntKind.wrap .u64 (1 * 2 ^ min i 64)) = ((bitS i : Nat) : Int) := by
  unfold bitS
  by_cases h : i < 16
  · rw [if_pos h]
    have : ∀ k : Fin 16, IntKind.wrap .u16 (IntKind.wrap .u64 (1 * 2 ^ min k.val 64)) = ((2 ^ k.val : Nat) : Int) := by decide
    exact this ⟨i, h⟩
  · rw [if_neg h]
    by_cases h2 : i < 64
    · have : ∀ k : Fin 64, ¬ k.val < 16 → IntKind.wrap .u16 (IntKind.wrap .u64 (1 * 2 ^ min k.val 64)) = 0 := by decide
      exact this ⟨i, h2⟩ h
    · rw [Nat.min_eq_right (by omega)]; decide

def spBit : Spec
  | [.v (.int .u8 i)], [] => if 0 ≤ i ∧ i < 256 then some (.ret (.v (.int .u16 (bitS i.toNat))), []) else none
  | _, _ => none
theorem bit_ok : CallOk Try.prog 58 spBit := by
  refine ok_58 (Env.none_ok _) spBit fun args mem r mem1 h => ?_
  unfold spBit at h
  split at h
  case h_2 => cases h
  rename_i i
  obtain ⟨⟨h0, h1⟩, h2⟩ := if_some h
  cases h2
  obtain ⟨i, rfl⟩ := Int.eq_ofNat_of_zero_le h0
  have hw := bit_wrap i (by omega)
  have hw' : IntKind.wrap .u16 (IntKind.wrap .u64 (2 ^ min i 64)) = ((bitS i : Nat) : Int) := by rw [← hw, Int.one_mul]
  unfold ac_58
  repeat' first
      | with_reducible refine wp_regionS (seg_eval (by simp -dsimp -implicitDefEqProofs [hw, hw']; rfl) ?_)
      | with_reducible refine wp_region (seg_eval (by simp -dsimp -implicitDefEqProofs [hw, hw']; rfl) ?_)
      | with_reducible refine wp_drawsS (seg_eval (by simp -dsimp -implicitDefEqProofs [hw, hw']; rfl) ?_)
      | with_reducible refine wp_draws (seg_eval (by simp -dsimp -implicitDefEqProofs [hw, hw']; rfl) ?_)
      | with_reducible refine seg_fin ?_
      | with_reducible refine seg_pan ?_
      | with_reducible refine seg_both ?_ ?_
      | with_reducible refine seg_case (fun x h => ?_) (fun h => ?_)
      | with_reducible refine seg_gate (fun h => ?_) (fun h => ?_)
      | with_reducible refine seg_need ?_ ?_
      | with_reducible refine wp_assoc ?_ | with_reducible refine wp_skipS ?_ | with_reducible refine wp_retS ?_ | with_reducible refine wp_exitS ?_ | with_reducible refine wp_dropS (wp_eqT (by simp -dsimp -implicitDefEqProofs [hw, hw']; rfl) ?_) | with_reducible refine wp_sealS (by simp -dsimp -implicitDefEqProofs [hw, hw']; rfl) ?_ | with_reducible refine wp_seal (by simp -dsimp -implicitDefEqProofs [hw, hw']; rfl) ?_ | with_reducible refine wp_closeS (by simp -dsimp -implicitDefEqProofs [hw, hw']; rfl) ?_ | with_reducible refine wp_close (by simp -dsimp -implicitDefEqProofs [hw, hw']; rfl) ?_ | with_reducible refine wp_conc_out ?_ | with_reducible refine wp_open_out ?_ | with_reducible refine wp_pack_out ?_ | with_reducible refine wp_blockS ?_ | with_reducible refine wp_skip' ?_ | with_reducible refine wp_ret' ?_ | with_reducible refine wp_exit' ?_ | with_reducible refine wp_drop (wp_eqT (by simp -dsimp -implicitDefEqProofs [hw, hw']; rfl) ?_) | with_reducible refine wp_block' ?_
      | with_reducible refine wp_condVS (by simp -dsimp -implicitDefEqProofs [hw, hw']; rfl) ?_
      | with_reducible refine wp_condV (by simp -dsimp -implicitDefEqProofs [hw, hw']; rfl) ?_
      | with_reducible refine cond_t ?_ | with_reducible refine cond_f ?_ | with_reducible refine cond_v (fun h => ?_) (fun h => ?_)
      | with_reducible refine post_then ?_ | with_reducible refine post_thenE ?_ | with_reducible refine post_thenP ?_ | with_reducible refine post_blkP ?_ | with_reducible refine post_thenR ?_ | with_reducible refine post_blkN ?_ | with_reducible refine post_blkE ?_ | with_reducible refine post_blkF rfl ?_ | with_reducible refine post_blkR ?_
      | with_reducible refine seg_eval (by simp -dsimp -implicitDefEqProofs [hw, hw']; rfl) ?_
  all_goals first
    | omega
    | exact post_fin rfl rfl ⟨[], [], rfl, rfl, rfl, rfl⟩
    | trace_state

theorem and_nat (a b : Nat) (ha : a < 65536) (hb : b < 65536) : andI .u16 (a : Int) (b : Int) = ((a &&& b : Nat) : Int) := by
  unfold andI
  have e : ((BitVec.ofInt 16 (a : Int) &&& BitVec.ofInt 16 (b : Int)).toNat) = a &&& b := by
    rw [BitVec.toNat_and, BitVec.toNat_ofInt, BitVec.toNat_ofInt]
    congr 1 <;> omega
  show IntKind.wrap .u16 (((BitVec.ofInt 16 (a : Int) &&& BitVec.ofInt 16 (b : Int)).toNat : Nat) : Int) = _
  rw [e, IntKind.wrap_u16]
  have : a &&& b < 65536 := Nat.lt_of_le_of_lt Nat.and_le_left ha
  omega
theorem or_nat (a b : Nat) (ha : a < 65536) (hb : b < 65536) : orI .u16 (a : Int) (b : Int) = ((a ||| b : Nat) : Int) := by
  unfold orI
  have e : ((BitVec.ofInt 16 (a : Int) ||| BitVec.ofInt 16 (b : Int)).toNat) = a ||| b := by
    rw [BitVec.toNat_or, BitVec.toNat_ofInt, BitVec.toNat_ofInt]
    congr 1 <;> omega
  show IntKind.wrap .u16 (((BitVec.ofInt 16 (a : Int) ||| BitVec.ofInt 16 (b : Int)).toNat : Nat) : Int) = _
  rw [e, IntKind.wrap_u16]
  have : a ||| b < 65536 := Nat.or_lt_two_pow (n := 16) ha hb
  omega
theorem xor_nat (a b : Nat) (ha : a < 65536) (hb : b < 65536) : xorI .u16 (a : Int) (b : Int) = ((a ^^^ b : Nat) : Int) := by
  unfold xorI
  have e : ((BitVec.ofInt 16 (a : Int) ^^^ BitVec.ofInt 16 (b : Int)).toNat) = a ^^^ b := by
    rw [BitVec.toNat_xor, BitVec.toNat_ofInt, BitVec.toNat_ofInt]
    congr 1 <;> omega
  show IntKind.wrap .u16 (((BitVec.ofInt 16 (a : Int) ^^^ BitVec.ofInt 16 (b : Int)).toNat : Nat) : Int) = _
  rw [e, IntKind.wrap_u16]
  have : a ^^^ b < 65536 := Nat.xor_lt_two_pow (n := 16) ha hb
  omega

def spHas : Spec
  | [.v (.int .u16 m), .v (.int .u8 i)], [] => if 0 ≤ m ∧ m < 65536 ∧ 0 ≤ i ∧ i < 256 then some (.ret (.v (.bool (hasS m.toNat i.toNat))), []) else none
  | _, _ => none
theorem has_ok : CallOk Try.prog 33 spHas := by
  refine ok_33 (Env.put_ok [] (Env.none_ok _) bit_ok) spHas fun args mem r mem1 h => ?_
  unfold spHas at h
  split at h
  case h_2 => cases h
  rename_i m i
  obtain ⟨⟨h0, h1, h2, h3⟩, h4⟩ := if_some h
  cases h4
  obtain ⟨m, rfl⟩ := Int.eq_ofNat_of_zero_le h0
  obtain ⟨i, rfl⟩ := Int.eq_ofNat_of_zero_le h2
  have hw := and_nat m (bitS i) (by omega) (bitS_lt i)
  have hh := has_and_bit (m := m) (by omega) i
  unfold ac_33
  repeat' first
      | with_reducible refine wp_regionS (seg_eval (by simp -dsimp -implicitDefEqProofs [spBit, hw, hh]; rfl) ?_)
      | with_reducible refine wp_region (seg_eval (by simp -dsimp -implicitDefEqProofs [spBit, hw, hh]; rfl) ?_)
      | with_reducible refine wp_drawsS (seg_eval (by simp -dsimp -implicitDefEqProofs [spBit, hw, hh]; rfl) ?_)
      | with_reducible refine wp_draws (seg_eval (by simp -dsimp -implicitDefEqProofs [spBit, hw, hh]; rfl) ?_)
      | with_reducible refine seg_fin ?_
      | with_reducible refine seg_pan ?_
      | with_reducible refine seg_both ?_ ?_
      | with_reducible refine seg_case (fun x h => ?_) (fun h => ?_)
      | with_reducible refine seg_gate (fun h => ?_) (fun h => ?_)
      | with_reducible refine seg_need ?_ ?_
      | with_reducible refine wp_assoc ?_ | with_reducible refine wp_skipS ?_ | with_reducible refine wp_retS ?_ | with_reducible refine wp_exitS ?_ | with_reducible refine wp_dropS (wp_eqT (by simp -dsimp -implicitDefEqProofs [spBit, hw, hh]; rfl) ?_) | with_reducible refine wp_sealS (by simp -dsimp -implicitDefEqProofs [spBit, hw, hh]; rfl) ?_ | with_reducible refine wp_seal (by simp -dsimp -implicitDefEqProofs [spBit, hw, hh]; rfl) ?_ | with_reducible refine wp_closeS (by simp -dsimp -implicitDefEqProofs [spBit, hw, hh]; rfl) ?_ | with_reducible refine wp_close (by simp -dsimp -implicitDefEqProofs [spBit, hw, hh]; rfl) ?_ | with_reducible refine wp_conc_out ?_ | with_reducible refine wp_open_out ?_ | with_reducible refine wp_pack_out ?_ | with_reducible refine wp_blockS ?_ | with_reducible refine wp_skip' ?_ | with_reducible refine wp_ret' ?_ | with_reducible refine wp_exit' ?_ | with_reducible refine wp_drop (wp_eqT (by simp -dsimp -implicitDefEqProofs [spBit, hw, hh]; rfl) ?_) | with_reducible refine wp_block' ?_
      | with_reducible refine wp_condVS (by simp -dsimp -implicitDefEqProofs [spBit, hw, hh]; rfl) ?_
      | with_reducible refine wp_condV (by simp -dsimp -implicitDefEqProofs [spBit, hw, hh]; rfl) ?_
      | with_reducible refine cond_t ?_ | with_reducible refine cond_f ?_ | with_reducible refine cond_v (fun h => ?_) (fun h => ?_)
      | with_reducible refine post_then ?_ | with_reducible refine post_thenE ?_ | with_reducible refine post_thenP ?_ | with_reducible refine post_blkP ?_ | with_reducible refine post_thenR ?_ | with_reducible refine post_blkN ?_ | with_reducible refine post_blkE ?_ | with_reducible refine post_blkF rfl ?_ | with_reducible refine post_blkR ?_
      | with_reducible refine seg_eval (by simp -dsimp -implicitDefEqProofs [spBit, hw, hh]; rfl) ?_
  all_goals first
    | omega
    | exact post_bool rfl rfl
    | trace_state

def spWith : Spec
  | [.v (.int .u16 m), .v (.int .u8 i)], [] => if 0 ≤ m ∧ m < 65536 ∧ 0 ≤ i ∧ i < 256 then some (.ret (.v (.int .u16 (withS m.toNat i.toNat))), []) else none
  | _, _ => none
theorem with_ok : CallOk Try.prog 67 spWith := by
  refine ok_67 (Env.put_ok [] (Env.none_ok _) bit_ok) spWith fun args mem r mem1 h => ?_
  unfold spWith at h
  split at h
  case h_2 => cases h
  rename_i m i
  obtain ⟨⟨h0, h1, h2, h3⟩, h4⟩ := if_some h
  cases h4
  obtain ⟨m, rfl⟩ := Int.eq_ofNat_of_zero_le h0
  obtain ⟨i, rfl⟩ := Int.eq_ofNat_of_zero_le h2
  have hw := or_nat m (bitS i) (by omega) (bitS_lt i)
  unfold ac_67
  repeat' first
      | with_reducible refine wp_regionS (seg_eval (by simp -dsimp -implicitDefEqProofs [spBit, hw]; rfl) ?_)
      | with_reducible refine wp_region (seg_eval (by simp -dsimp -implicitDefEqProofs [spBit, hw]; rfl) ?_)
      | with_reducible refine wp_drawsS (seg_eval (by simp -dsimp -implicitDefEqProofs [spBit, hw]; rfl) ?_)
      | with_reducible refine wp_draws (seg_eval (by simp -dsimp -implicitDefEqProofs [spBit, hw]; rfl) ?_)
      | with_reducible refine seg_fin ?_
      | with_reducible refine seg_pan ?_
      | with_reducible refine seg_both ?_ ?_
      | with_reducible refine seg_case (fun x h => ?_) (fun h => ?_)
      | with_reducible refine seg_gate (fun h => ?_) (fun h => ?_)
      | with_reducible refine seg_need ?_ ?_
      | with_reducible refine wp_assoc ?_ | with_reducible refine wp_skipS ?_ | with_reducible refine wp_retS ?_ | with_reducible refine wp_exitS ?_ | with_reducible refine wp_dropS (wp_eqT (by simp -dsimp -implicitDefEqProofs [spBit, hw]; rfl) ?_) | with_reducible refine wp_sealS (by simp -dsimp -implicitDefEqProofs [spBit, hw]; rfl) ?_ | with_reducible refine wp_seal (by simp -dsimp -implicitDefEqProofs [spBit, hw]; rfl) ?_ | with_reducible refine wp_closeS (by simp -dsimp -implicitDefEqProofs [spBit, hw]; rfl) ?_ | with_reducible refine wp_close (by simp -dsimp -implicitDefEqProofs [spBit, hw]; rfl) ?_ | with_reducible refine wp_conc_out ?_ | with_reducible refine wp_open_out ?_ | with_reducible refine wp_pack_out ?_ | with_reducible refine wp_blockS ?_ | with_reducible refine wp_skip' ?_ | with_reducible refine wp_ret' ?_ | with_reducible refine wp_exit' ?_ | with_reducible refine wp_drop (wp_eqT (by simp -dsimp -implicitDefEqProofs [spBit, hw]; rfl) ?_) | with_reducible refine wp_block' ?_
      | with_reducible refine wp_condVS (by simp -dsimp -implicitDefEqProofs [spBit, hw]; rfl) ?_
      | with_reducible refine wp_condV (by simp -dsimp -implicitDefEqProofs [spBit, hw]; rfl) ?_
      | with_reducible refine cond_t ?_ | with_reducible refine cond_f ?_ | with_reducible refine cond_v (fun h => ?_) (fun h => ?_)
      | with_reducible refine post_then ?_ | with_reducible refine post_thenE ?_ | with_reducible refine post_thenP ?_ | with_reducible refine post_blkP ?_ | with_reducible refine post_thenR ?_ | with_reducible refine post_blkN ?_ | with_reducible refine post_blkE ?_ | with_reducible refine post_blkF rfl ?_ | with_reducible refine post_blkR ?_
      | with_reducible refine seg_eval (by simp -dsimp -implicitDefEqProofs [spBit, hw]; rfl) ?_
  all_goals first
    | omega
    | exact post_fin rfl rfl ⟨[], [], rfl, rfl, rfl, rfl⟩
    | trace_state

/-! ### How many there are -/
def popT (i : Nat) : Nat := cntTo i 8
theorem pop_tab : ∀ i : Fin 256, (bytes_5967fadc.data.toList[i.val]?).map UInt8.toNat = some (popT i.val) := by decide +kernel
theorem cnt_shift (m : Nat) : ∀ k, cntTo m (8 + k) = cntTo m 8 + cntTo (m / 256) k
  | 0 => rfl
  | k + 1 => by
    have h : hasS m (8 + k) = hasS (m / 256) k := by
      unfold hasS
      rw [show 256 = 2 ^ 8 from rfl, Nat.testBit_div_two_pow, Nat.add_comm]
    have e1 : cntTo m (8 + (k + 1)) = cntTo m (8 + k) + (if hasS m (8 + k) then 1 else 0) := rfl
    have e2 : cntTo (m / 256) (k + 1) = cntTo (m / 256) k + (if hasS (m / 256) k then 1 else 0) := rfl
    rw [e1, e2, cnt_shift m k, h, Nat.add_assoc]
theorem cnt_low (m : Nat) : cntTo (m % 256) 8 = cntTo m 8 := cnt_congr 8 fun i hi => by
  unfold hasS
  rw [show 256 = 2 ^ 8 from rfl, Nat.testBit_mod_two_pow]
  simp [hi]
theorem size_halves (m : Nat) : popT (m / 256) + popT (m % 256) = sizeS m := by
  rw [size_cnt, show (16 : Nat) = 8 + 8 from rfl, cnt_shift, popT, popT, cnt_low]; omega

def spSize : Spec
  | [.v (.int .u16 m)], [] => if 0 ≤ m ∧ m < 65536 then some (.ret (.v (.int .i64 (sizeS m.toNat))), []) else none
  | _, _ => none
set_option maxHeartbeats 1000000 in
set_option maxRecDepth 20000 in
theorem ones_ok : CallOk Try.prog 63 spSize := by
  refine ok_63 (Env.none_ok _) spSize fun args mem r mem1 h => ?_
  unfold spSize at h
  split at h
  case h_2 => cases h
  rename_i m
  obtain ⟨⟨h0, h1⟩, h4⟩ := if_some h
  cases h4
  obtain ⟨m, rfl⟩ := Int.eq_ofNat_of_zero_le h0
  have hm : m < 65536 := by omega
  obtain ⟨a, ha, ha'⟩ := Option.map_eq_some_iff.1 (pop_tab ⟨m / 256, by omega⟩)
  obtain ⟨b, hb, hb'⟩ := Option.map_eq_some_iff.1 (pop_tab ⟨m % 256, by omega⟩)
  simp only at ha hb ha' hb'
  have e1 : (m : Int).fdiv (2 ^ 8) = (m : Int) / 256 := by rw [Int.fdiv_eq_ediv_of_nonneg _ (by decide)]; rfl
  have e1'' : ((m : Int) / 256).toNat = m / 256 := by omega
  have e2 : andI .u16 (m : Int) 255 = (m : Int) % 256 := by
    have := and_nat m 255 hm (by decide)
    rw [show (255 : Nat) = 2 ^ 8 - 1 from rfl, Nat.and_two_pow_sub_one_eq_mod] at this
    exact this
  have e2' : ((m : Int) % 256).toNat = m % 256 := by omega
  have e3 := size_halves m
  have hp1 := cnt_le (m / 256) 8
  have hp2 := cnt_le (m % 256) 8
  have e4 : IntKind.wrap .u8 ((a.toNat : Int) + (b.toNat : Int)) = ((sizeS m : Nat) : Int) := by
    rw [ha', hb', ← Int.natCast_add, e3, IntKind.wrap_u8]
    have := size_le m; omega
  have e5 : IntKind.wrap .i64 ((sizeS m : Nat) : Int) = ((sizeS m : Nat) : Int) := IntWalk.i64_in _ (by have := size_le m; omega)
  unfold ac_63
  have ha2 : bytes_5967fadc.data[m / 256]? = some a := by simpa using ha
  have hb2 : bytes_5967fadc.data[m % 256]? = some b := by simpa using hb
  repeat' first
      | with_reducible refine wp_regionS (seg_eval (by simp -dsimp -implicitDefEqProofs [e1, e1'', e2, e2', ha2, hb2, e4, e5]; rfl) ?_)
      | with_reducible refine wp_region (seg_eval (by simp -dsimp -implicitDefEqProofs [e1, e1'', e2, e2', ha2, hb2, e4, e5]; rfl) ?_)
      | with_reducible refine wp_drawsS (seg_eval (by simp -dsimp -implicitDefEqProofs [e1, e1'', e2, e2', ha2, hb2, e4, e5]; rfl) ?_)
      | with_reducible refine wp_draws (seg_eval (by simp -dsimp -implicitDefEqProofs [e1, e1'', e2, e2', ha2, hb2, e4, e5]; rfl) ?_)
      | with_reducible refine seg_fin ?_
      | with_reducible refine seg_pan ?_
      | with_reducible refine seg_both ?_ ?_
      | with_reducible refine seg_case (fun x h => ?_) (fun h => ?_)
      | with_reducible refine seg_gate (fun h => ?_) (fun h => ?_)
      | with_reducible refine seg_need ?_ ?_
      | with_reducible refine wp_assoc ?_ | with_reducible refine wp_skipS ?_ | with_reducible refine wp_retS ?_ | with_reducible refine wp_exitS ?_ | with_reducible refine wp_dropS (wp_eqT (by simp -dsimp -implicitDefEqProofs [e1, e1'', e2, e2', ha2, hb2, e4, e5]; rfl) ?_) | with_reducible refine wp_sealS (by simp -dsimp -implicitDefEqProofs [e1, e1'', e2, e2', ha2, hb2, e4, e5]; rfl) ?_ | with_reducible refine wp_seal (by simp -dsimp -implicitDefEqProofs [e1, e1'', e2, e2', ha2, hb2, e4, e5]; rfl) ?_ | with_reducible refine wp_closeS (by simp -dsimp -implicitDefEqProofs [e1, e1'', e2, e2', ha2, hb2, e4, e5]; rfl) ?_ | with_reducible refine wp_close (by simp -dsimp -implicitDefEqProofs [e1, e1'', e2, e2', ha2, hb2, e4, e5]; rfl) ?_ | with_reducible refine wp_conc_out ?_ | with_reducible refine wp_open_out ?_ | with_reducible refine wp_pack_out ?_ | with_reducible refine wp_blockS ?_ | with_reducible refine wp_skip' ?_ | with_reducible refine wp_ret' ?_ | with_reducible refine wp_exit' ?_ | with_reducible refine wp_drop (wp_eqT (by simp -dsimp -implicitDefEqProofs [e1, e1'', e2, e2', ha2, hb2, e4, e5]; rfl) ?_) | with_reducible refine wp_block' ?_
      | with_reducible refine wp_condVS (by simp -dsimp -implicitDefEqProofs [e1, e1'', e2, e2', ha2, hb2, e4, e5]; rfl) ?_
      | with_reducible refine wp_condV (by simp -dsimp -implicitDefEqProofs [e1, e1'', e2, e2', ha2, hb2, e4, e5]; rfl) ?_
      | with_reducible refine cond_t ?_ | with_reducible refine cond_f ?_ | with_reducible refine cond_v (fun h => ?_) (fun h => ?_)
      | with_reducible refine post_then ?_ | with_reducible refine post_thenE ?_ | with_reducible refine post_thenP ?_ | with_reducible refine post_blkP ?_ | with_reducible refine post_thenR ?_ | with_reducible refine post_blkN ?_ | with_reducible refine post_blkE ?_ | with_reducible refine post_blkF rfl ?_ | with_reducible refine post_blkR ?_
      | with_reducible refine seg_eval (by simp -dsimp -implicitDefEqProofs [e1, e1'', e2, e2', ha2, hb2, e4, e5]; rfl) ?_
  all_goals first
    | omega
    | exact post_fin rfl rfl ⟨[], [], rfl, rfl, rfl, rfl⟩
    | trace_state

theorem size_ok : CallOk Try.prog 41 spSize := by
  refine ok_41 (Env.put_ok [] (Env.none_ok _) ones_ok) spSize fun args mem r mem1 h => ?_
  unfold spSize at h
  split at h
  case h_2 => cases h
  rename_i m
  obtain ⟨⟨h0, h1⟩, h4⟩ := if_some h
  cases h4
  unfold ac_41
  repeat' first
      | with_reducible refine wp_regionS (seg_eval (by simp -dsimp -implicitDefEqProofs [spSize]; rfl) ?_)
      | with_reducible refine wp_region (seg_eval (by simp -dsimp -implicitDefEqProofs [spSize]; rfl) ?_)
      | with_reducible refine wp_drawsS (seg_eval (by simp -dsimp -implicitDefEqProofs [spSize]; rfl) ?_)
      | with_reducible refine wp_draws (seg_eval (by simp -dsimp -implicitDefEqProofs [spSize]; rfl) ?_)
      | with_reducible refine seg_fin ?_
      | with_reducible refine seg_pan ?_
      | with_reducible refine seg_both ?_ ?_
      | with_reducible refine seg_case (fun x h => ?_) (fun h => ?_)
      | with_reducible refine seg_gate (fun h => ?_) (fun h => ?_)
      | with_reducible refine seg_need ?_ ?_
      | with_reducible refine wp_assoc ?_ | with_reducible refine wp_skipS ?_ | with_reducible refine wp_retS ?_ | with_reducible refine wp_exitS ?_ | with_reducible refine wp_dropS (wp_eqT (by simp -dsimp -implicitDefEqProofs [spSize]; rfl) ?_) | with_reducible refine wp_sealS (by simp -dsimp -implicitDefEqProofs [spSize]; rfl) ?_ | with_reducible refine wp_seal (by simp -dsimp -implicitDefEqProofs [spSize]; rfl) ?_ | with_reducible refine wp_closeS (by simp -dsimp -implicitDefEqProofs [spSize]; rfl) ?_ | with_reducible refine wp_close (by simp -dsimp -implicitDefEqProofs [spSize]; rfl) ?_ | with_reducible refine wp_conc_out ?_ | with_reducible refine wp_open_out ?_ | with_reducible refine wp_pack_out ?_ | with_reducible refine wp_blockS ?_ | with_reducible refine wp_skip' ?_ | with_reducible refine wp_ret' ?_ | with_reducible refine wp_exit' ?_ | with_reducible refine wp_drop (wp_eqT (by simp -dsimp -implicitDefEqProofs [spSize]; rfl) ?_) | with_reducible refine wp_block' ?_
      | with_reducible refine wp_condVS (by simp -dsimp -implicitDefEqProofs [spSize]; rfl) ?_
      | with_reducible refine wp_condV (by simp -dsimp -implicitDefEqProofs [spSize]; rfl) ?_
      | with_reducible refine cond_t ?_ | with_reducible refine cond_f ?_ | with_reducible refine cond_v (fun h => ?_) (fun h => ?_)
      | with_reducible refine post_then ?_ | with_reducible refine post_thenE ?_ | with_reducible refine post_thenP ?_ | with_reducible refine post_blkP ?_ | with_reducible refine post_thenR ?_ | with_reducible refine post_blkN ?_ | with_reducible refine post_blkE ?_ | with_reducible refine post_blkF rfl ?_ | with_reducible refine post_blkR ?_
      | with_reducible refine seg_eval (by simp -dsimp -implicitDefEqProofs [spSize]; rfl) ?_
  all_goals first
    | omega
    | exact ⟨h0, h1⟩
    | exact post_fin rfl rfl ⟨[], [], rfl, rfl, rfl, rfl⟩
    | trace_state
end Go.Proofs.Ytkbgndebfcjojaa.Am
/-
  SETS OF MEMBERS, as the document tells them.
-/
namespace Go.Proofs.Ytkbgndebfcjojaa.Am
set_option linter.unusedSimpArgs false
set_option linter.unusedVariables false
open Go Go.Proofs
attribute [local irreducible] wpA

set_option maxHeartbeats 1000000 in
theorem valueR_ok : CallOk Try.prog 60 spBit := by
  refine ok_60 (Env.none_ok _) spBit fun args mem r mem1 h => ?_
  unfold spBit at h
  split at h
  case h_2 => cases h
  rename_i i
  obtain ⟨⟨h0, h1⟩, h2⟩ := if_some h
  cases h2
  obtain ⟨n, rfl⟩ := Int.eq_ofNat_of_zero_le h0
  simp only [Int.toNat_natCast]
  unfold ac_60
  by_cases hb : 15 < n
  · have hd : decide (15 < n) = true := by simp [hb]
    have hd' : decide ((15 : Int) < (n : Int)) = true := by rw [decide_eq_true_eq]; omega
    rw [show bitS n = 0 by unfold bitS; rw [if_neg (by omega)]]
    repeat' first
        | with_reducible refine wp_regionS (seg_eval (by simp -dsimp -implicitDefEqProofs [hd, hd']; rfl) ?_)
        | with_reducible refine wp_region (seg_eval (by simp -dsimp -implicitDefEqProofs [hd, hd']; rfl) ?_)
        | with_reducible refine wp_drawsS (seg_eval (by simp -dsimp -implicitDefEqProofs [hd, hd']; rfl) ?_)
        | with_reducible refine wp_draws (seg_eval (by simp -dsimp -implicitDefEqProofs [hd, hd']; rfl) ?_)
        | with_reducible refine seg_fin ?_
        | with_reducible refine seg_pan ?_
        | with_reducible refine seg_both ?_ ?_
        | with_reducible refine seg_case (fun x h => ?_) (fun h => ?_)
        | with_reducible refine seg_gate (fun h => ?_) (fun h => ?_)
        | with_reducible refine seg_need ?_ ?_
        | with_reducible refine wp_assoc ?_ | with_reducible refine wp_skipS ?_ | with_reducible refine wp_retS ?_ | with_reducible refine wp_exitS ?_ | with_reducible refine wp_dropS (wp_eqT (by simp -dsimp -implicitDefEqProofs [hd, hd']; rfl) ?_) | with_reducible refine wp_sealS (by simp -dsimp -implicitDefEqProofs [hd, hd']; rfl) ?_ | with_reducible refine wp_seal (by simp -dsimp -implicitDefEqProofs [hd, hd']; rfl) ?_ | with_reducible refine wp_closeS (by simp -dsimp -implicitDefEqProofs [hd, hd']; rfl) ?_ | with_reducible refine wp_close (by simp -dsimp -implicitDefEqProofs [hd, hd']; rfl) ?_ | with_reducible refine wp_conc_out ?_ | with_reducible refine wp_open_out ?_ | with_reducible refine wp_pack_out ?_ | with_reducible refine wp_blockS ?_ | with_reducible refine wp_skip' ?_ | with_reducible refine wp_ret' ?_ | with_reducible refine wp_exit' ?_ | with_reducible refine wp_drop (wp_eqT (by simp -dsimp -implicitDefEqProofs [hd, hd']; rfl) ?_) | with_reducible refine wp_block' ?_
        | with_reducible refine wp_condVS (by simp -dsimp -implicitDefEqProofs [hd, hd']; rfl) ?_
        | with_reducible refine wp_condV (by simp -dsimp -implicitDefEqProofs [hd, hd']; rfl) ?_
        | with_reducible refine cond_t ?_ | with_reducible refine cond_f ?_ | with_reducible refine cond_v (fun h => ?_) (fun h => ?_)
        | with_reducible refine post_then ?_ | with_reducible refine post_thenE ?_ | with_reducible refine post_thenP ?_ | with_reducible refine post_blkP ?_ | with_reducible refine post_thenR ?_ | with_reducible refine post_blkN ?_ | with_reducible refine post_blkE ?_ | with_reducible refine post_blkF rfl ?_ | with_reducible refine post_blkR ?_
        | with_reducible refine seg_eval (by simp -dsimp -implicitDefEqProofs [hd, hd']; rfl) ?_
    all_goals first
      | omega
      | exact post_fin rfl rfl ⟨[], [], rfl, rfl, rfl, rfl⟩
      | trace_state
  · have hd : decide (15 < n) = false := by simp; omega
    have hd' : decide ((15 : Int) < (n : Int)) = false := by rw [decide_eq_false_iff_not]; omega
    rw [show bitS n = 2 ^ n by unfold bitS; rw [if_pos (by omega)]]
    repeat' first
        | with_reducible refine wp_regionS (seg_eval (by simp -dsimp -implicitDefEqProofs [hd, hd']; rfl) ?_)
        | with_reducible refine wp_region (seg_eval (by simp -dsimp -implicitDefEqProofs [hd, hd']; rfl) ?_)
        | with_reducible refine wp_drawsS (seg_eval (by simp -dsimp -implicitDefEqProofs [hd, hd']; rfl) ?_)
        | with_reducible refine wp_draws (seg_eval (by simp -dsimp -implicitDefEqProofs [hd, hd']; rfl) ?_)
        | with_reducible refine seg_fin ?_
        | with_reducible refine seg_pan ?_
        | with_reducible refine seg_both ?_ ?_
        | with_reducible refine seg_case (fun x h => ?_) (fun h => ?_)
        | with_reducible refine seg_gate (fun h => ?_) (fun h => ?_)
        | with_reducible refine seg_need ?_ ?_
        | with_reducible refine wp_assoc ?_ | with_reducible refine wp_skipS ?_ | with_reducible refine wp_retS ?_ | with_reducible refine wp_exitS ?_ | with_reducible refine wp_dropS (wp_eqT (by simp -dsimp -implicitDefEqProofs [hd, hd']; rfl) ?_) | with_reducible refine wp_sealS (by simp -dsimp -implicitDefEqProofs [hd, hd']; rfl) ?_ | with_reducible refine wp_seal (by simp -dsimp -implicitDefEqProofs [hd, hd']; rfl) ?_ | with_reducible refine wp_closeS (by simp -dsimp -implicitDefEqProofs [hd, hd']; rfl) ?_ | with_reducible refine wp_close (by simp -dsimp -implicitDefEqProofs [hd, hd']; rfl) ?_ | with_reducible refine wp_conc_out ?_ | with_reducible refine wp_open_out ?_ | with_reducible refine wp_pack_out ?_ | with_reducible refine wp_blockS ?_ | with_reducible refine wp_skip' ?_ | with_reducible refine wp_ret' ?_ | with_reducible refine wp_exit' ?_ | with_reducible refine wp_drop (wp_eqT (by simp -dsimp -implicitDefEqProofs [hd, hd']; rfl) ?_) | with_reducible refine wp_block' ?_
        | with_reducible refine wp_condVS (by simp -dsimp -implicitDefEqProofs [hd, hd']; rfl) ?_
        | with_reducible refine wp_condV (by simp -dsimp -implicitDefEqProofs [hd, hd']; rfl) ?_
        | with_reducible refine cond_t ?_ | with_reducible refine cond_f ?_ | with_reducible refine cond_v (fun h => ?_) (fun h => ?_)
        | with_reducible refine post_then ?_ | with_reducible refine post_thenE ?_ | with_reducible refine post_thenP ?_ | with_reducible refine post_blkP ?_ | with_reducible refine post_thenR ?_ | with_reducible refine post_blkN ?_ | with_reducible refine post_blkE ?_ | with_reducible refine post_blkF rfl ?_ | with_reducible refine post_blkR ?_
        | with_reducible refine seg_eval (by simp -dsimp -implicitDefEqProofs [hd, hd']; rfl) ?_
    refine wp_loop' (fun j ts mm => ∃ i p : Nat, i + j = n ∧ p = 2 ^ i ∧ ts = [(0, .v (.int .u8 n)), (3, .v (.int .u16 p)), (4, .v (.int .i64 i))] ∧ mm = []) n ?_ ?_
    · exact ⟨[], [], rfl, rfl, 0, 1, by omega, rfl, by simp, by simp⟩
    · rintro j ts mm ⟨i, p, hi, hp, rfl, rfl⟩
      have wn : IntKind.wrap .i64 (n : Int) = (n : Int) := IntWalk.i64_in _ (by omega)
      have h64 : IntKind.wrap .i64 ((i : Int) + 1) = ((i + 1 : Nat) : Int) := by rw [IntWalk.i64_in _ (by omega)]; rfl
      by_cases hlt : i < n
      · have hd2 : decide (i < n) = true := by simp [hlt]
        have hd3 : decide ((i : Int) < (n : Int)) = true := by rw [decide_eq_true_eq]; omega
        have hp2 : 2 * p ≤ 32768 := by
          have : 2 ^ (i + 1) ≤ 2 ^ 15 := Nat.pow_le_pow_right (by decide) (by omega)
          rw [Nat.pow_succ] at this; omega
        have hw : IntKind.wrap .u16 ((p : Int) * 2) = ((2 * p : Nat) : Int) := by rw [IntWalk.u16_in _ (by omega)]; omega
        repeat' first
            | with_reducible refine wp_regionS (seg_eval (by simp -dsimp -implicitDefEqProofs [wn, hd2, hd3, hw, h64]; rfl) ?_)
            | with_reducible refine wp_region (seg_eval (by simp -dsimp -implicitDefEqProofs [wn, hd2, hd3, hw, h64]; rfl) ?_)
            | with_reducible refine wp_drawsS (seg_eval (by simp -dsimp -implicitDefEqProofs [wn, hd2, hd3, hw, h64]; rfl) ?_)
            | with_reducible refine wp_draws (seg_eval (by simp -dsimp -implicitDefEqProofs [wn, hd2, hd3, hw, h64]; rfl) ?_)
            | with_reducible refine seg_fin ?_
            | with_reducible refine seg_pan ?_
            | with_reducible refine seg_both ?_ ?_
            | with_reducible refine seg_case (fun x h => ?_) (fun h => ?_)
            | with_reducible refine seg_gate (fun h => ?_) (fun h => ?_)
            | with_reducible refine seg_need ?_ ?_
            | with_reducible refine wp_assoc ?_ | with_reducible refine wp_skipS ?_ | with_reducible refine wp_retS ?_ | with_reducible refine wp_exitS ?_ | with_reducible refine wp_dropS (wp_eqT (by simp -dsimp -implicitDefEqProofs [wn, hd2, hd3, hw, h64]; rfl) ?_) | with_reducible refine wp_sealS (by simp -dsimp -implicitDefEqProofs [wn, hd2, hd3, hw, h64]; rfl) ?_ | with_reducible refine wp_seal (by simp -dsimp -implicitDefEqProofs [wn, hd2, hd3, hw, h64]; rfl) ?_ | with_reducible refine wp_closeS (by simp -dsimp -implicitDefEqProofs [wn, hd2, hd3, hw, h64]; rfl) ?_ | with_reducible refine wp_close (by simp -dsimp -implicitDefEqProofs [wn, hd2, hd3, hw, h64]; rfl) ?_ | with_reducible refine wp_conc_out ?_ | with_reducible refine wp_open_out ?_ | with_reducible refine wp_pack_out ?_ | with_reducible refine wp_blockS ?_ | with_reducible refine wp_skip' ?_ | with_reducible refine wp_ret' ?_ | with_reducible refine wp_exit' ?_ | with_reducible refine wp_drop (wp_eqT (by simp -dsimp -implicitDefEqProofs [wn, hd2, hd3, hw, h64]; rfl) ?_) | with_reducible refine wp_block' ?_
            | with_reducible refine wp_condVS (by simp -dsimp -implicitDefEqProofs [wn, hd2, hd3, hw, h64]; rfl) ?_
            | with_reducible refine wp_condV (by simp -dsimp -implicitDefEqProofs [wn, hd2, hd3, hw, h64]; rfl) ?_
            | with_reducible refine cond_t ?_ | with_reducible refine cond_f ?_ | with_reducible refine cond_v (fun h => ?_) (fun h => ?_)
            | with_reducible refine post_then ?_ | with_reducible refine post_thenE ?_ | with_reducible refine post_thenP ?_ | with_reducible refine post_blkP ?_ | with_reducible refine post_thenR ?_ | with_reducible refine post_blkN ?_ | with_reducible refine post_blkE ?_ | with_reducible refine post_blkF rfl ?_ | with_reducible refine post_blkR ?_
            | with_reducible refine seg_eval (by simp -dsimp -implicitDefEqProofs [wn, hd2, hd3, hw, h64]; rfl) ?_
        all_goals first
          | omega
          | exact ⟨j - 1, by omega, [], [], rfl, rfl, i + 1, 2 * p, by omega, by rw [hp, Nat.pow_succ]; omega, by simp, by simp⟩
          | trace_state
      · have hd2 : decide (i < n) = false := by simp; omega
        have hd3 : decide ((i : Int) < (n : Int)) = false := by rw [decide_eq_false_iff_not]; omega
        have : i = n := by omega
        subst this
        rw [← hp]
        repeat' first
            | with_reducible refine wp_regionS (seg_eval (by simp -dsimp -implicitDefEqProofs [wn, hd2, hd3]; rfl) ?_)
            | with_reducible refine wp_region (seg_eval (by simp -dsimp -implicitDefEqProofs [wn, hd2, hd3]; rfl) ?_)
            | with_reducible refine wp_drawsS (seg_eval (by simp -dsimp -implicitDefEqProofs [wn, hd2, hd3]; rfl) ?_)
            | with_reducible refine wp_draws (seg_eval (by simp -dsimp -implicitDefEqProofs [wn, hd2, hd3]; rfl) ?_)
            | with_reducible refine seg_fin ?_
            | with_reducible refine seg_pan ?_
            | with_reducible refine seg_both ?_ ?_
            | with_reducible refine seg_case (fun x h => ?_) (fun h => ?_)
            | with_reducible refine seg_gate (fun h => ?_) (fun h => ?_)
            | with_reducible refine seg_need ?_ ?_
            | with_reducible refine wp_assoc ?_ | with_reducible refine wp_skipS ?_ | with_reducible refine wp_retS ?_ | with_reducible refine wp_exitS ?_ | with_reducible refine wp_dropS (wp_eqT (by simp -dsimp -implicitDefEqProofs [wn, hd2, hd3]; rfl) ?_) | with_reducible refine wp_sealS (by simp -dsimp -implicitDefEqProofs [wn, hd2, hd3]; rfl) ?_ | with_reducible refine wp_seal (by simp -dsimp -implicitDefEqProofs [wn, hd2, hd3]; rfl) ?_ | with_reducible refine wp_closeS (by simp -dsimp -implicitDefEqProofs [wn, hd2, hd3]; rfl) ?_ | with_reducible refine wp_close (by simp -dsimp -implicitDefEqProofs [wn, hd2, hd3]; rfl) ?_ | with_reducible refine wp_conc_out ?_ | with_reducible refine wp_open_out ?_ | with_reducible refine wp_pack_out ?_ | with_reducible refine wp_blockS ?_ | with_reducible refine wp_skip' ?_ | with_reducible refine wp_ret' ?_ | with_reducible refine wp_exit' ?_ | with_reducible refine wp_drop (wp_eqT (by simp -dsimp -implicitDefEqProofs [wn, hd2, hd3]; rfl) ?_) | with_reducible refine wp_block' ?_
            | with_reducible refine wp_condVS (by simp -dsimp -implicitDefEqProofs [wn, hd2, hd3]; rfl) ?_
            | with_reducible refine wp_condV (by simp -dsimp -implicitDefEqProofs [wn, hd2, hd3]; rfl) ?_
            | with_reducible refine cond_t ?_ | with_reducible refine cond_f ?_ | with_reducible refine cond_v (fun h => ?_) (fun h => ?_)
            | with_reducible refine post_then ?_ | with_reducible refine post_thenE ?_ | with_reducible refine post_thenP ?_ | with_reducible refine post_blkP ?_ | with_reducible refine post_thenR ?_ | with_reducible refine post_blkN ?_ | with_reducible refine post_blkE ?_ | with_reducible refine post_blkF rfl ?_ | with_reducible refine post_blkR ?_
            | with_reducible refine seg_eval (by simp -dsimp -implicitDefEqProofs [wn, hd2, hd3]; rfl) ?_
        all_goals first
          | omega
          | exact post_fin rfl rfl ⟨[], [], rfl, rfl, rfl, rfl⟩
          | trace_state

set_option maxHeartbeats 1000000 in
theorem hasR_ok : CallOk Try.prog 35 spHas := by
  refine ok_35 (Env.put_ok [] (Env.none_ok _) valueR_ok) spHas fun args mem r mem1 h => ?_
  unfold spHas at h
  split at h
  case h_2 => cases h
  rename_i m i
  obtain ⟨⟨h0, h1, h2, h3⟩, h4⟩ := if_some h
  cases h4
  obtain ⟨m, rfl⟩ := Int.eq_ofNat_of_zero_le h0
  obtain ⟨i, rfl⟩ := Int.eq_ofNat_of_zero_le h2
  simp only [Int.toNat_natCast]
  have hm : m < 65536 := by omega
  unfold ac_35
  by_cases hb : i ≤ 15
  · have hd : decide (i ≤ 15) = true := by simp [hb]
    have hd' : decide ((i : Int) ≤ 15) = true := by rw [decide_eq_true_eq]; omega
    have hbs : bitS i = 2 ^ i := by unfold bitS; rw [if_pos (by omega)]
    have hdv := has_div (m := m) (i := i)
    have hp := Nat.two_pow_pos i
    have hql : m / 2 ^ i ≤ m := Nat.div_le_self _ _
    have e0 : (m : Int).tdiv ((bitS i : Nat) : Int) = ((m / 2 ^ i : Nat) : Int) := by rw [hbs]; rfl
    generalize m / 2 ^ i = q at hdv e0 hql
    have e1 : IntKind.wrap .u16 ((m : Int).tdiv ((bitS i : Nat) : Int)) = (q : Int) := by rw [e0]; exact IntWalk.u16_in _ (by omega)
    have e1' : IntKind.wrap .u16 (q : Int) = (q : Int) := IntWalk.u16_in _ (by omega)
    have e2 : (q : Int).tmod 2 = ((q % 2 : Nat) : Int) := rfl
    have e2' : (q : Int) % 2 = ((q % 2 : Nat) : Int) := by omega
    generalize q % 2 = s at hdv e2 e2'
    have e3 : (((s : Int) == 1) : Bool) = hasS m i := by rw [← hdv, Bool.eq_iff_iff]; simp only [beq_iff_eq]; omega
    have hne : ¬ ((bitS i : Nat) : Int) = 0 := by rw [hbs]; omega
    have hne' : ¬ bitS i = 0 := by rw [hbs]; omega
    repeat' first
        | with_reducible refine wp_regionS (seg_eval (by simp -dsimp -implicitDefEqProofs [spBit, hd, hd', e0, e1, e1', e2, e2', e3, hne, hne']; rfl) ?_)
        | with_reducible refine wp_region (seg_eval (by simp -dsimp -implicitDefEqProofs [spBit, hd, hd', e0, e1, e1', e2, e2', e3, hne, hne']; rfl) ?_)
        | with_reducible refine wp_drawsS (seg_eval (by simp -dsimp -implicitDefEqProofs [spBit, hd, hd', e0, e1, e1', e2, e2', e3, hne, hne']; rfl) ?_)
        | with_reducible refine wp_draws (seg_eval (by simp -dsimp -implicitDefEqProofs [spBit, hd, hd', e0, e1, e1', e2, e2', e3, hne, hne']; rfl) ?_)
        | with_reducible refine seg_fin ?_
        | with_reducible refine seg_pan ?_
        | with_reducible refine seg_both ?_ ?_
        | with_reducible refine seg_case (fun x h => ?_) (fun h => ?_)
        | with_reducible refine seg_gate (fun h => ?_) (fun h => ?_)
        | with_reducible refine seg_need ?_ ?_
        | with_reducible refine wp_assoc ?_ | with_reducible refine wp_skipS ?_ | with_reducible refine wp_retS ?_ | with_reducible refine wp_exitS ?_ | with_reducible refine wp_dropS (wp_eqT (by simp -dsimp -implicitDefEqProofs [spBit, hd, hd', e0, e1, e1', e2, e2', e3, hne, hne']; rfl) ?_) | with_reducible refine wp_sealS (by simp -dsimp -implicitDefEqProofs [spBit, hd, hd', e0, e1, e1', e2, e2', e3, hne, hne']; rfl) ?_ | with_reducible refine wp_seal (by simp -dsimp -implicitDefEqProofs [spBit, hd, hd', e0, e1, e1', e2, e2', e3, hne, hne']; rfl) ?_ | with_reducible refine wp_closeS (by simp -dsimp -implicitDefEqProofs [spBit, hd, hd', e0, e1, e1', e2, e2', e3, hne, hne']; rfl) ?_ | with_reducible refine wp_close (by simp -dsimp -implicitDefEqProofs [spBit, hd, hd', e0, e1, e1', e2, e2', e3, hne, hne']; rfl) ?_ | with_reducible refine wp_conc_out ?_ | with_reducible refine wp_open_out ?_ | with_reducible refine wp_pack_out ?_ | with_reducible refine wp_blockS ?_ | with_reducible refine wp_skip' ?_ | with_reducible refine wp_ret' ?_ | with_reducible refine wp_exit' ?_ | with_reducible refine wp_drop (wp_eqT (by simp -dsimp -implicitDefEqProofs [spBit, hd, hd', e0, e1, e1', e2, e2', e3, hne, hne']; rfl) ?_) | with_reducible refine wp_block' ?_
        | with_reducible refine wp_condVS (by simp -dsimp -implicitDefEqProofs [spBit, hd, hd', e0, e1, e1', e2, e2', e3, hne, hne']; rfl) ?_
        | with_reducible refine wp_condV (by simp -dsimp -implicitDefEqProofs [spBit, hd, hd', e0, e1, e1', e2, e2', e3, hne, hne']; rfl) ?_
        | with_reducible refine cond_t ?_ | with_reducible refine cond_f ?_ | with_reducible refine cond_v (fun h => ?_) (fun h => ?_)
        | with_reducible refine post_then ?_ | with_reducible refine post_thenE ?_ | with_reducible refine post_thenP ?_ | with_reducible refine post_blkP ?_ | with_reducible refine post_thenR ?_ | with_reducible refine post_blkN ?_ | with_reducible refine post_blkE ?_ | with_reducible refine post_blkF rfl ?_ | with_reducible refine post_blkR ?_
        | with_reducible refine seg_eval (by simp -dsimp -implicitDefEqProofs [spBit, hd, hd', e0, e1, e1', e2, e2', e3, hne, hne']; rfl) ?_
    all_goals first
      | omega
      | exact post_bool rfl rfl
      | trace_state
  · have hd : decide (i ≤ 15) = false := by simp; omega
    have hd' : decide ((i : Int) ≤ 15) = false := by rw [decide_eq_false_iff_not]; omega
    rw [has_ge hm (show 16 ≤ i by omega)]
    repeat' first
        | with_reducible refine wp_regionS (seg_eval (by simp -dsimp -implicitDefEqProofs [hd, hd']; rfl) ?_)
        | with_reducible refine wp_region (seg_eval (by simp -dsimp -implicitDefEqProofs [hd, hd']; rfl) ?_)
        | with_reducible refine wp_drawsS (seg_eval (by simp -dsimp -implicitDefEqProofs [hd, hd']; rfl) ?_)
        | with_reducible refine wp_draws (seg_eval (by simp -dsimp -implicitDefEqProofs [hd, hd']; rfl) ?_)
        | with_reducible refine seg_fin ?_
        | with_reducible refine seg_pan ?_
        | with_reducible refine seg_both ?_ ?_
        | with_reducible refine seg_case (fun x h => ?_) (fun h => ?_)
        | with_reducible refine seg_gate (fun h => ?_) (fun h => ?_)
        | with_reducible refine seg_need ?_ ?_
        | with_reducible refine wp_assoc ?_ | with_reducible refine wp_skipS ?_ | with_reducible refine wp_retS ?_ | with_reducible refine wp_exitS ?_ | with_reducible refine wp_dropS (wp_eqT (by simp -dsimp -implicitDefEqProofs [hd, hd']; rfl) ?_) | with_reducible refine wp_sealS (by simp -dsimp -implicitDefEqProofs [hd, hd']; rfl) ?_ | with_reducible refine wp_seal (by simp -dsimp -implicitDefEqProofs [hd, hd']; rfl) ?_ | with_reducible refine wp_closeS (by simp -dsimp -implicitDefEqProofs [hd, hd']; rfl) ?_ | with_reducible refine wp_close (by simp -dsimp -implicitDefEqProofs [hd, hd']; rfl) ?_ | with_reducible refine wp_conc_out ?_ | with_reducible refine wp_open_out ?_ | with_reducible refine wp_pack_out ?_ | with_reducible refine wp_blockS ?_ | with_reducible refine wp_skip' ?_ | with_reducible refine wp_ret' ?_ | with_reducible refine wp_exit' ?_ | with_reducible refine wp_drop (wp_eqT (by simp -dsimp -implicitDefEqProofs [hd, hd']; rfl) ?_) | with_reducible refine wp_block' ?_
        | with_reducible refine wp_condVS (by simp -dsimp -implicitDefEqProofs [hd, hd']; rfl) ?_
        | with_reducible refine wp_condV (by simp -dsimp -implicitDefEqProofs [hd, hd']; rfl) ?_
        | with_reducible refine cond_t ?_ | with_reducible refine cond_f ?_ | with_reducible refine cond_v (fun h => ?_) (fun h => ?_)
        | with_reducible refine post_then ?_ | with_reducible refine post_thenE ?_ | with_reducible refine post_thenP ?_ | with_reducible refine post_blkP ?_ | with_reducible refine post_thenR ?_ | with_reducible refine post_blkN ?_ | with_reducible refine post_blkE ?_ | with_reducible refine post_blkF rfl ?_ | with_reducible refine post_blkR ?_
        | with_reducible refine seg_eval (by simp -dsimp -implicitDefEqProofs [hd, hd']; rfl) ?_
    all_goals first
      | omega
      | exact post_bool rfl rfl
      | trace_state

/-! ### All that are in one -/
def u8s (l : List Nat) : List AV := l.map fun (n : Nat) => .v (.int .u8 n)
def spList : Spec
  | [.v (.int .u16 m)], [] => if 0 ≤ m ∧ m < 65536 then some (.ret (.fsl 1 (u8s (listS m.toNat))), []) else none
  | _, _ => none
def listTo (m k : Nat) : List Nat := (List.range k).filter fun i => hasS m i
theorem listTo_succ (m k : Nat) : listTo m (k + 1) = if hasS m k = true then listTo m k ++ [k] else listTo m k := by
  unfold listTo
  rw [List.range_succ, List.filter_append]
  cases h : hasS m k <;> simp [h]
theorem listTo_len (m k : Nat) : (listTo m k).length ≤ k := by
  unfold listTo; refine Nat.le_trans (List.length_filter_le _ _) ?_; simp
theorem u8s_shaped (l : List Nat) : (u8s l).all AV.shaped = true := by simp [u8s, AV.shaped, AV.one, Value.oneCell']
theorem u8s_len (l : List Nat) : (u8s l).length = l.length := by simp [u8s]
theorem u8s_snoc (l : List Nat) (k : Nat) : u8s l ++ [.v (.int .u8 (k : Int))] = u8s (l ++ [k]) := by simp [u8s]
attribute [simp] u8s_shaped u8s_len u8s_snoc

set_option maxHeartbeats 1000000 in
theorem listR_ok : CallOk Try.prog 71 spList := by
  refine ok_71 (Env.put_ok [] (Env.none_ok _) hasR_ok) spList fun args mem r mem1 h => ?_
  unfold spList at h
  split at h
  case h_2 => cases h
  rename_i m
  obtain ⟨⟨h0, h1⟩, h4⟩ := if_some h
  cases h4
  obtain ⟨m, rfl⟩ := Int.eq_ofNat_of_zero_le h0
  simp only [Int.toNat_natCast]
  unfold ac_71
  repeat' first
      | with_reducible refine wp_regionS (seg_eval (by simp -dsimp -implicitDefEqProofs; rfl) ?_)
      | with_reducible refine wp_region (seg_eval (by simp -dsimp -implicitDefEqProofs; rfl) ?_)
      | with_reducible refine wp_drawsS (seg_eval (by simp -dsimp -implicitDefEqProofs; rfl) ?_)
      | with_reducible refine wp_draws (seg_eval (by simp -dsimp -implicitDefEqProofs; rfl) ?_)
      | with_reducible refine seg_fin ?_
      | with_reducible refine seg_pan ?_
      | with_reducible refine seg_both ?_ ?_
      | with_reducible refine seg_case (fun x h => ?_) (fun h => ?_)
      | with_reducible refine seg_gate (fun h => ?_) (fun h => ?_)
      | with_reducible refine seg_need ?_ ?_
      | with_reducible refine wp_assoc ?_ | with_reducible refine wp_skipS ?_ | with_reducible refine wp_retS ?_ | with_reducible refine wp_exitS ?_ | with_reducible refine wp_dropS (wp_eqT (by simp -dsimp -implicitDefEqProofs; rfl) ?_) | with_reducible refine wp_sealS (by simp -dsimp -implicitDefEqProofs; rfl) ?_ | with_reducible refine wp_seal (by simp -dsimp -implicitDefEqProofs; rfl) ?_ | with_reducible refine wp_closeS (by simp -dsimp -implicitDefEqProofs; rfl) ?_ | with_reducible refine wp_close (by simp -dsimp -implicitDefEqProofs; rfl) ?_ | with_reducible refine wp_conc_out ?_ | with_reducible refine wp_open_out ?_ | with_reducible refine wp_pack_out ?_ | with_reducible refine wp_blockS ?_ | with_reducible refine wp_skip' ?_ | with_reducible refine wp_ret' ?_ | with_reducible refine wp_exit' ?_ | with_reducible refine wp_drop (wp_eqT (by simp -dsimp -implicitDefEqProofs; rfl) ?_) | with_reducible refine wp_block' ?_
      | with_reducible refine wp_condVS (by simp -dsimp -implicitDefEqProofs; rfl) ?_
      | with_reducible refine wp_condV (by simp -dsimp -implicitDefEqProofs; rfl) ?_
      | with_reducible refine cond_t ?_ | with_reducible refine cond_f ?_ | with_reducible refine cond_v (fun h => ?_) (fun h => ?_)
      | with_reducible refine post_then ?_ | with_reducible refine post_thenE ?_ | with_reducible refine post_thenP ?_ | with_reducible refine post_blkP ?_ | with_reducible refine post_thenR ?_ | with_reducible refine post_blkN ?_ | with_reducible refine post_blkE ?_ | with_reducible refine post_blkF rfl ?_ | with_reducible refine post_blkR ?_
      | with_reducible refine seg_eval (by simp -dsimp -implicitDefEqProofs; rfl) ?_
  refine wp_loop' (fun j ts mm => ∃ i : Nat, i + j = 16 ∧ ts = [(0, .v (.int .u16 m)), (3, .osl 0), (4, .v (.int .i64 i))] ∧ mm = [.arr 5 1 (u8s (listTo m i))]) 16 ?_ ?_
  · exact ⟨[(3, 5, 1)], [0], rfl, rfl, 0, by omega, by simp, by simp [listTo, u8s]⟩
  · rintro j ts mm ⟨i, hi, rfl, rfl⟩
    have h64 : IntKind.wrap .i64 ((i : Int) + 1) = ((i + 1 : Nat) : Int) := by rw [IntWalk.i64_in _ (by omega)]; rfl
    have h8 : IntKind.wrap .u8 (i : Int) = (i : Int) := IntWalk.u8_in _ (by omega)
    have hl := listTo_len m i
    by_cases hlt : i < 16
    · have hd2 : decide (i < 16) = true := by simp [hlt]
      have hd3 : decide ((i : Int) < 16) = true := by rw [decide_eq_true_eq]; omega
      have hs := listTo_succ m i
      cases hh : hasS m i with
      | true =>
        rw [hh, if_pos rfl] at hs
        repeat' first
            | with_reducible refine wp_regionS (seg_eval (by simp -dsimp -implicitDefEqProofs [-wrap_u8_cast, spHas, hd2, hd3, h64, h8, hh]; rfl) ?_)
            | with_reducible refine wp_region (seg_eval (by simp -dsimp -implicitDefEqProofs [-wrap_u8_cast, spHas, hd2, hd3, h64, h8, hh]; rfl) ?_)
            | with_reducible refine wp_drawsS (seg_eval (by simp -dsimp -implicitDefEqProofs [-wrap_u8_cast, spHas, hd2, hd3, h64, h8, hh]; rfl) ?_)
            | with_reducible refine wp_draws (seg_eval (by simp -dsimp -implicitDefEqProofs [-wrap_u8_cast, spHas, hd2, hd3, h64, h8, hh]; rfl) ?_)
            | with_reducible refine seg_fin ?_
            | with_reducible refine seg_pan ?_
            | with_reducible refine seg_both ?_ ?_
            | with_reducible refine seg_case (fun x h => ?_) (fun h => ?_)
            | with_reducible refine seg_gate (fun h => ?_) (fun h => ?_)
            | with_reducible refine seg_need ?_ ?_
            | with_reducible refine wp_assoc ?_ | with_reducible refine wp_skipS ?_ | with_reducible refine wp_retS ?_ | with_reducible refine wp_exitS ?_ | with_reducible refine wp_dropS (wp_eqT (by simp -dsimp -implicitDefEqProofs [-wrap_u8_cast, spHas, hd2, hd3, h64, h8, hh]; rfl) ?_) | with_reducible refine wp_sealS (by simp -dsimp -implicitDefEqProofs [-wrap_u8_cast, spHas, hd2, hd3, h64, h8, hh]; rfl) ?_ | with_reducible refine wp_seal (by simp -dsimp -implicitDefEqProofs [-wrap_u8_cast, spHas, hd2, hd3, h64, h8, hh]; rfl) ?_ | with_reducible refine wp_closeS (by simp -dsimp -implicitDefEqProofs [-wrap_u8_cast, spHas, hd2, hd3, h64, h8, hh]; rfl) ?_ | with_reducible refine wp_close (by simp -dsimp -implicitDefEqProofs [-wrap_u8_cast, spHas, hd2, hd3, h64, h8, hh]; rfl) ?_ | with_reducible refine wp_conc_out ?_ | with_reducible refine wp_open_out ?_ | with_reducible refine wp_pack_out ?_ | with_reducible refine wp_blockS ?_ | with_reducible refine wp_skip' ?_ | with_reducible refine wp_ret' ?_ | with_reducible refine wp_exit' ?_ | with_reducible refine wp_drop (wp_eqT (by simp -dsimp -implicitDefEqProofs [-wrap_u8_cast, spHas, hd2, hd3, h64, h8, hh]; rfl) ?_) | with_reducible refine wp_block' ?_
            | with_reducible refine wp_condVS (by simp -dsimp -implicitDefEqProofs [-wrap_u8_cast, spHas, hd2, hd3, h64, h8, hh]; rfl) ?_
            | with_reducible refine wp_condV (by simp -dsimp -implicitDefEqProofs [-wrap_u8_cast, spHas, hd2, hd3, h64, h8, hh]; rfl) ?_
            | with_reducible refine cond_t ?_ | with_reducible refine cond_f ?_ | with_reducible refine cond_v (fun h => ?_) (fun h => ?_)
            | with_reducible refine post_then ?_ | with_reducible refine post_thenE ?_ | with_reducible refine post_thenP ?_ | with_reducible refine post_blkP ?_ | with_reducible refine post_thenR ?_ | with_reducible refine post_blkN ?_ | with_reducible refine post_blkE ?_ | with_reducible refine post_blkF rfl ?_ | with_reducible refine post_blkR ?_
            | with_reducible refine seg_eval (by simp -dsimp -implicitDefEqProofs [-wrap_u8_cast, spHas, hd2, hd3, h64, h8, hh]; rfl) ?_
        all_goals first
          | omega
          | exact ⟨j - 1, by omega, [], [2], rfl, rfl, i + 1, by omega, by simp, by simp [hs]⟩
          | trace_state
      | false =>
        rw [hh, if_neg (by simp)] at hs
        repeat' first
            | with_reducible refine wp_regionS (seg_eval (by simp -dsimp -implicitDefEqProofs [-wrap_u8_cast, spHas, hd2, hd3, h64, h8, hh]; rfl) ?_)
            | with_reducible refine wp_region (seg_eval (by simp -dsimp -implicitDefEqProofs [-wrap_u8_cast, spHas, hd2, hd3, h64, h8, hh]; rfl) ?_)
            | with_reducible refine wp_drawsS (seg_eval (by simp -dsimp -implicitDefEqProofs [-wrap_u8_cast, spHas, hd2, hd3, h64, h8, hh]; rfl) ?_)
            | with_reducible refine wp_draws (seg_eval (by simp -dsimp -implicitDefEqProofs [-wrap_u8_cast, spHas, hd2, hd3, h64, h8, hh]; rfl) ?_)
            | with_reducible refine seg_fin ?_
            | with_reducible refine seg_pan ?_
            | with_reducible refine seg_both ?_ ?_
            | with_reducible refine seg_case (fun x h => ?_) (fun h => ?_)
            | with_reducible refine seg_gate (fun h => ?_) (fun h => ?_)
            | with_reducible refine seg_need ?_ ?_
            | with_reducible refine wp_assoc ?_ | with_reducible refine wp_skipS ?_ | with_reducible refine wp_retS ?_ | with_reducible refine wp_exitS ?_ | with_reducible refine wp_dropS (wp_eqT (by simp -dsimp -implicitDefEqProofs [-wrap_u8_cast, spHas, hd2, hd3, h64, h8, hh]; rfl) ?_) | with_reducible refine wp_sealS (by simp -dsimp -implicitDefEqProofs [-wrap_u8_cast, spHas, hd2, hd3, h64, h8, hh]; rfl) ?_ | with_reducible refine wp_seal (by simp -dsimp -implicitDefEqProofs [-wrap_u8_cast, spHas, hd2, hd3, h64, h8, hh]; rfl) ?_ | with_reducible refine wp_closeS (by simp -dsimp -implicitDefEqProofs [-wrap_u8_cast, spHas, hd2, hd3, h64, h8, hh]; rfl) ?_ | with_reducible refine wp_close (by simp -dsimp -implicitDefEqProofs [-wrap_u8_cast, spHas, hd2, hd3, h64, h8, hh]; rfl) ?_ | with_reducible refine wp_conc_out ?_ | with_reducible refine wp_open_out ?_ | with_reducible refine wp_pack_out ?_ | with_reducible refine wp_blockS ?_ | with_reducible refine wp_skip' ?_ | with_reducible refine wp_ret' ?_ | with_reducible refine wp_exit' ?_ | with_reducible refine wp_drop (wp_eqT (by simp -dsimp -implicitDefEqProofs [-wrap_u8_cast, spHas, hd2, hd3, h64, h8, hh]; rfl) ?_) | with_reducible refine wp_block' ?_
            | with_reducible refine wp_condVS (by simp -dsimp -implicitDefEqProofs [-wrap_u8_cast, spHas, hd2, hd3, h64, h8, hh]; rfl) ?_
            | with_reducible refine wp_condV (by simp -dsimp -implicitDefEqProofs [-wrap_u8_cast, spHas, hd2, hd3, h64, h8, hh]; rfl) ?_
            | with_reducible refine cond_t ?_ | with_reducible refine cond_f ?_ | with_reducible refine cond_v (fun h => ?_) (fun h => ?_)
            | with_reducible refine post_then ?_ | with_reducible refine post_thenE ?_ | with_reducible refine post_thenP ?_ | with_reducible refine post_blkP ?_ | with_reducible refine post_thenR ?_ | with_reducible refine post_blkN ?_ | with_reducible refine post_blkE ?_ | with_reducible refine post_blkF rfl ?_ | with_reducible refine post_blkR ?_
            | with_reducible refine seg_eval (by simp -dsimp -implicitDefEqProofs [-wrap_u8_cast, spHas, hd2, hd3, h64, h8, hh]; rfl) ?_
        all_goals first
          | omega
          | exact ⟨j - 1, by omega, [], [0], rfl, rfl, i + 1, by omega, by simp, by simp [hs]⟩
          | trace_state
    · have hd2 : decide (i < 16) = false := by simp; omega
      have hd3 : decide ((i : Int) < 16) = false := by rw [decide_eq_false_iff_not]; omega
      have : i = 16 := by omega
      subst this
      repeat' first
          | with_reducible refine wp_regionS (seg_eval (by simp -dsimp -implicitDefEqProofs [hd2, hd3]; rfl) ?_)
          | with_reducible refine wp_region (seg_eval (by simp -dsimp -implicitDefEqProofs [hd2, hd3]; rfl) ?_)
          | with_reducible refine wp_drawsS (seg_eval (by simp -dsimp -implicitDefEqProofs [hd2, hd3]; rfl) ?_)
          | with_reducible refine wp_draws (seg_eval (by simp -dsimp -implicitDefEqProofs [hd2, hd3]; rfl) ?_)
          | with_reducible refine seg_fin ?_
          | with_reducible refine seg_pan ?_
          | with_reducible refine seg_both ?_ ?_
          | with_reducible refine seg_case (fun x h => ?_) (fun h => ?_)
          | with_reducible refine seg_gate (fun h => ?_) (fun h => ?_)
          | with_reducible refine seg_need ?_ ?_
          | with_reducible refine wp_assoc ?_ | with_reducible refine wp_skipS ?_ | with_reducible refine wp_retS ?_ | with_reducible refine wp_exitS ?_ | with_reducible refine wp_dropS (wp_eqT (by simp -dsimp -implicitDefEqProofs [hd2, hd3]; rfl) ?_) | with_reducible refine wp_sealS (by simp -dsimp -implicitDefEqProofs [hd2, hd3]; rfl) ?_ | with_reducible refine wp_seal (by simp -dsimp -implicitDefEqProofs [hd2, hd3]; rfl) ?_ | with_reducible refine wp_closeS (by simp -dsimp -implicitDefEqProofs [hd2, hd3]; rfl) ?_ | with_reducible refine wp_close (by simp -dsimp -implicitDefEqProofs [hd2, hd3]; rfl) ?_ | with_reducible refine wp_conc_out ?_ | with_reducible refine wp_open_out ?_ | with_reducible refine wp_pack_out ?_ | with_reducible refine wp_blockS ?_ | with_reducible refine wp_skip' ?_ | with_reducible refine wp_ret' ?_ | with_reducible refine wp_exit' ?_ | with_reducible refine wp_drop (wp_eqT (by simp -dsimp -implicitDefEqProofs [hd2, hd3]; rfl) ?_) | with_reducible refine wp_block' ?_
          | with_reducible refine wp_condVS (by simp -dsimp -implicitDefEqProofs [hd2, hd3]; rfl) ?_
          | with_reducible refine wp_condV (by simp -dsimp -implicitDefEqProofs [hd2, hd3]; rfl) ?_
          | with_reducible refine cond_t ?_ | with_reducible refine cond_f ?_ | with_reducible refine cond_v (fun h => ?_) (fun h => ?_)
          | with_reducible refine post_then ?_ | with_reducible refine post_thenE ?_ | with_reducible refine post_thenP ?_ | with_reducible refine post_blkP ?_ | with_reducible refine post_thenR ?_ | with_reducible refine post_blkN ?_ | with_reducible refine post_blkE ?_ | with_reducible refine post_blkF rfl ?_ | with_reducible refine post_blkR ?_
          | with_reducible refine seg_eval (by simp -dsimp -implicitDefEqProofs [hd2, hd3]; rfl) ?_
      all_goals first
        | omega
        | exact post_fin rfl rfl ⟨[0], [], rfl, rfl, rfl, rfl⟩
        | trace_state

theorem sizeR_ok : CallOk Try.prog 55 spSize := by
  refine ok_55 (Env.put_ok [] (Env.none_ok _) listR_ok) spSize fun args mem r mem1 h => ?_
  unfold spSize at h
  split at h
  case h_2 => cases h
  rename_i m
  obtain ⟨⟨h0, h1⟩, h4⟩ := if_some h
  cases h4
  have e : (listS m.toNat).length = sizeS m.toNat := rfl
  unfold ac_55
  repeat' first
      | with_reducible refine wp_regionS (seg_eval (by simp -dsimp -implicitDefEqProofs [spList, e]; rfl) ?_)
      | with_reducible refine wp_region (seg_eval (by simp -dsimp -implicitDefEqProofs [spList, e]; rfl) ?_)
      | with_reducible refine wp_drawsS (seg_eval (by simp -dsimp -implicitDefEqProofs [spList, e]; rfl) ?_)
      | with_reducible refine wp_draws (seg_eval (by simp -dsimp -implicitDefEqProofs [spList, e]; rfl) ?_)
      | with_reducible refine seg_fin ?_
      | with_reducible refine seg_pan ?_
      | with_reducible refine seg_both ?_ ?_
      | with_reducible refine seg_case (fun x h => ?_) (fun h => ?_)
      | with_reducible refine seg_gate (fun h => ?_) (fun h => ?_)
      | with_reducible refine seg_need ?_ ?_
      | with_reducible refine wp_assoc ?_ | with_reducible refine wp_skipS ?_ | with_reducible refine wp_retS ?_ | with_reducible refine wp_exitS ?_ | with_reducible refine wp_dropS (wp_eqT (by simp -dsimp -implicitDefEqProofs [spList, e]; rfl) ?_) | with_reducible refine wp_sealS (by simp -dsimp -implicitDefEqProofs [spList, e]; rfl) ?_ | with_reducible refine wp_seal (by simp -dsimp -implicitDefEqProofs [spList, e]; rfl) ?_ | with_reducible refine wp_closeS (by simp -dsimp -implicitDefEqProofs [spList, e]; rfl) ?_ | with_reducible refine wp_close (by simp -dsimp -implicitDefEqProofs [spList, e]; rfl) ?_ | with_reducible refine wp_conc_out ?_ | with_reducible refine wp_open_out ?_ | with_reducible refine wp_pack_out ?_ | with_reducible refine wp_blockS ?_ | with_reducible refine wp_skip' ?_ | with_reducible refine wp_ret' ?_ | with_reducible refine wp_exit' ?_ | with_reducible refine wp_drop (wp_eqT (by simp -dsimp -implicitDefEqProofs [spList, e]; rfl) ?_) | with_reducible refine wp_block' ?_
      | with_reducible refine wp_condVS (by simp -dsimp -implicitDefEqProofs [spList, e]; rfl) ?_
      | with_reducible refine wp_condV (by simp -dsimp -implicitDefEqProofs [spList, e]; rfl) ?_
      | with_reducible refine cond_t ?_ | with_reducible refine cond_f ?_ | with_reducible refine cond_v (fun h => ?_) (fun h => ?_)
      | with_reducible refine post_then ?_ | with_reducible refine post_thenE ?_ | with_reducible refine post_thenP ?_ | with_reducible refine post_blkP ?_ | with_reducible refine post_thenR ?_ | with_reducible refine post_blkN ?_ | with_reducible refine post_blkE ?_ | with_reducible refine post_blkF rfl ?_ | with_reducible refine post_blkR ?_
      | with_reducible refine seg_eval (by simp -dsimp -implicitDefEqProofs [spList, e]; rfl) ?_
  all_goals first
    | omega
    | exact ⟨h0, h1⟩
    | exact post_fin rfl rfl ⟨[], [], rfl, rfl, rfl, rfl⟩
    | trace_state
end Go.Proofs.Ytkbgndebfcjojaa.Am
/-
  HOW MANY MEMBERS ARE ENOUGH.
-/
namespace Go.Proofs.Ytkbgndebfcjojaa.Am
set_option linter.unusedSimpArgs false
set_option linter.unusedVariables false
open Go Go.Proofs
attribute [local irreducible] wpA

def spHeld : Spec
  | [.v (.int .i64 n)], [] => some (.ret (.v (.int .i64 (heldS n))), [])
  | _, _ => none
theorem held_ok : CallOk Try.prog 64 spHeld := by
  refine ok_64 (Env.none_ok _) spHeld fun args mem r mem1 h => ?_
  unfold spHeld at h
  split at h
  case h_2 => cases h
  rename_i n
  cases h
  have e : (if 1 < (if 16 < n then 16 else n) then (if 16 < n then 16 else n) else 1) = heldS n := by unfold heldS; split <;> split <;> omega
  unfold ac_64
  repeat' first
      | with_reducible refine wp_regionS (seg_eval (by simp -dsimp -implicitDefEqProofs [e]; rfl) ?_)
      | with_reducible refine wp_region (seg_eval (by simp -dsimp -implicitDefEqProofs [e]; rfl) ?_)
      | with_reducible refine wp_drawsS (seg_eval (by simp -dsimp -implicitDefEqProofs [e]; rfl) ?_)
      | with_reducible refine wp_draws (seg_eval (by simp -dsimp -implicitDefEqProofs [e]; rfl) ?_)
      | with_reducible refine seg_fin ?_
      | with_reducible refine seg_pan ?_
      | with_reducible refine seg_both ?_ ?_
      | with_reducible refine seg_case (fun x h => ?_) (fun h => ?_)
      | with_reducible refine seg_gate (fun h => ?_) (fun h => ?_)
      | with_reducible refine seg_need ?_ ?_
      | with_reducible refine wp_assoc ?_ | with_reducible refine wp_skipS ?_ | with_reducible refine wp_retS ?_ | with_reducible refine wp_exitS ?_ | with_reducible refine wp_dropS (wp_eqT (by simp -dsimp -implicitDefEqProofs [e]; rfl) ?_) | with_reducible refine wp_sealS (by simp -dsimp -implicitDefEqProofs [e]; rfl) ?_ | with_reducible refine wp_seal (by simp -dsimp -implicitDefEqProofs [e]; rfl) ?_ | with_reducible refine wp_closeS (by simp -dsimp -implicitDefEqProofs [e]; rfl) ?_ | with_reducible refine wp_close (by simp -dsimp -implicitDefEqProofs [e]; rfl) ?_ | with_reducible refine wp_conc_out ?_ | with_reducible refine wp_open_out ?_ | with_reducible refine wp_pack_out ?_ | with_reducible refine wp_blockS ?_ | with_reducible refine wp_skip' ?_ | with_reducible refine wp_ret' ?_ | with_reducible refine wp_exit' ?_ | with_reducible refine wp_drop (wp_eqT (by simp -dsimp -implicitDefEqProofs [e]; rfl) ?_) | with_reducible refine wp_block' ?_
      | with_reducible refine wp_condVS (by simp -dsimp -implicitDefEqProofs [e]; rfl) ?_
      | with_reducible refine wp_condV (by simp -dsimp -implicitDefEqProofs [e]; rfl) ?_
      | with_reducible refine cond_t ?_ | with_reducible refine cond_f ?_ | with_reducible refine cond_v (fun h => ?_) (fun h => ?_)
      | with_reducible refine post_then ?_ | with_reducible refine post_thenE ?_ | with_reducible refine post_thenP ?_ | with_reducible refine post_blkP ?_ | with_reducible refine post_thenR ?_ | with_reducible refine post_blkN ?_ | with_reducible refine post_blkE ?_ | with_reducible refine post_blkF rfl ?_ | with_reducible refine post_blkR ?_
      | with_reducible refine seg_eval (by simp -dsimp -implicitDefEqProofs [e]; rfl) ?_
  all_goals first
    | exact post_fin rfl rfl ⟨[], [], rfl, rfl, rfl, rfl⟩
    | trace_state

def spFaulty : Spec
  | [.v (.int .i64 n)], [] => some (.ret (.v (.int .i64 (faultyS n))), [])
  | _, _ => none
theorem faulty_ok : CallOk Try.prog 65 spFaulty := by
  refine ok_65 (Env.put_ok [] (Env.none_ok _) held_ok) spFaulty fun args mem r mem1 h => ?_
  unfold spFaulty at h
  split at h
  case h_2 => cases h
  rename_i n
  cases h
  have hr := held_range n
  have w1 : IntKind.wrap .i64 (heldS n - 1) = heldS n - 1 := IntWalk.i64_in _ (by omega)
  have e1 : (heldS n - 1).tdiv 3 = faultyS n := by unfold faultyS; rw [Int.tdiv_eq_ediv_of_nonneg (by omega)]
  have w2 : IntKind.wrap .i64 (faultyS n) = faultyS n := IntWalk.i64_in _ (by have := faulty_range n; omega)
  unfold ac_65
  repeat' first
      | with_reducible refine wp_regionS (seg_eval (by simp -dsimp -implicitDefEqProofs [spHeld, w1, e1, w2]; rfl) ?_)
      | with_reducible refine wp_region (seg_eval (by simp -dsimp -implicitDefEqProofs [spHeld, w1, e1, w2]; rfl) ?_)
      | with_reducible refine wp_drawsS (seg_eval (by simp -dsimp -implicitDefEqProofs [spHeld, w1, e1, w2]; rfl) ?_)
      | with_reducible refine wp_draws (seg_eval (by simp -dsimp -implicitDefEqProofs [spHeld, w1, e1, w2]; rfl) ?_)
      | with_reducible refine seg_fin ?_
      | with_reducible refine seg_pan ?_
      | with_reducible refine seg_both ?_ ?_
      | with_reducible refine seg_case (fun x h => ?_) (fun h => ?_)
      | with_reducible refine seg_gate (fun h => ?_) (fun h => ?_)
      | with_reducible refine seg_need ?_ ?_
      | with_reducible refine wp_assoc ?_ | with_reducible refine wp_skipS ?_ | with_reducible refine wp_retS ?_ | with_reducible refine wp_exitS ?_ | with_reducible refine wp_dropS (wp_eqT (by simp -dsimp -implicitDefEqProofs [spHeld, w1, e1, w2]; rfl) ?_) | with_reducible refine wp_sealS (by simp -dsimp -implicitDefEqProofs [spHeld, w1, e1, w2]; rfl) ?_ | with_reducible refine wp_seal (by simp -dsimp -implicitDefEqProofs [spHeld, w1, e1, w2]; rfl) ?_ | with_reducible refine wp_closeS (by simp -dsimp -implicitDefEqProofs [spHeld, w1, e1, w2]; rfl) ?_ | with_reducible refine wp_close (by simp -dsimp -implicitDefEqProofs [spHeld, w1, e1, w2]; rfl) ?_ | with_reducible refine wp_conc_out ?_ | with_reducible refine wp_open_out ?_ | with_reducible refine wp_pack_out ?_ | with_reducible refine wp_blockS ?_ | with_reducible refine wp_skip' ?_ | with_reducible refine wp_ret' ?_ | with_reducible refine wp_exit' ?_ | with_reducible refine wp_drop (wp_eqT (by simp -dsimp -implicitDefEqProofs [spHeld, w1, e1, w2]; rfl) ?_) | with_reducible refine wp_block' ?_
      | with_reducible refine wp_condVS (by simp -dsimp -implicitDefEqProofs [spHeld, w1, e1, w2]; rfl) ?_
      | with_reducible refine wp_condV (by simp -dsimp -implicitDefEqProofs [spHeld, w1, e1, w2]; rfl) ?_
      | with_reducible refine cond_t ?_ | with_reducible refine cond_f ?_ | with_reducible refine cond_v (fun h => ?_) (fun h => ?_)
      | with_reducible refine post_then ?_ | with_reducible refine post_thenE ?_ | with_reducible refine post_thenP ?_ | with_reducible refine post_blkP ?_ | with_reducible refine post_thenR ?_ | with_reducible refine post_blkN ?_ | with_reducible refine post_blkE ?_ | with_reducible refine post_blkF rfl ?_ | with_reducible refine post_blkR ?_
      | with_reducible refine seg_eval (by simp -dsimp -implicitDefEqProofs [spHeld, w1, e1, w2]; rfl) ?_
  all_goals first
    | exact post_fin rfl rfl ⟨[], [], rfl, rfl, rfl, rfl⟩
    | trace_state

def spEchoes : Spec
  | [.v (.int .i64 n)], [] => some (.ret (.v (.int .i64 (echoesS n))), [])
  | _, _ => none
theorem echoes_ok : CallOk Try.prog 42 spEchoes := by
  refine ok_42 (Env.put_ok [] (Env.put_ok [] (Env.none_ok _) held_ok) faulty_ok) spEchoes fun args mem r mem1 h => ?_
  unfold spEchoes at h
  split at h
  case h_2 => cases h
  rename_i n
  cases h
  have hr := held_range n
  have hf := faulty_range n
  have w1 : IntKind.wrap .i64 (heldS n + faultyS n) = heldS n + faultyS n := IntWalk.i64_in _ (by omega)
  have e1 : (heldS n + faultyS n).tdiv 2 = (heldS n + faultyS n) / 2 := by rw [Int.tdiv_eq_ediv_of_nonneg (by omega)]
  have w2 : IntKind.wrap .i64 ((heldS n + faultyS n) / 2) = (heldS n + faultyS n) / 2 := IntWalk.i64_in _ (by omega)
  have w3 : IntKind.wrap .i64 ((heldS n + faultyS n) / 2 + 1) = echoesS n := by rw [IntWalk.i64_in _ (by omega)]; rfl
  unfold ac_42
  repeat' first
      | with_reducible refine wp_regionS (seg_eval (by simp -dsimp -implicitDefEqProofs [spHeld, spFaulty, w1, e1, w2, w3]; rfl) ?_)
      | with_reducible refine wp_region (seg_eval (by simp -dsimp -implicitDefEqProofs [spHeld, spFaulty, w1, e1, w2, w3]; rfl) ?_)
      | with_reducible refine wp_drawsS (seg_eval (by simp -dsimp -implicitDefEqProofs [spHeld, spFaulty, w1, e1, w2, w3]; rfl) ?_)
      | with_reducible refine wp_draws (seg_eval (by simp -dsimp -implicitDefEqProofs [spHeld, spFaulty, w1, e1, w2, w3]; rfl) ?_)
      | with_reducible refine seg_fin ?_
      | with_reducible refine seg_pan ?_
      | with_reducible refine seg_both ?_ ?_
      | with_reducible refine seg_case (fun x h => ?_) (fun h => ?_)
      | with_reducible refine seg_gate (fun h => ?_) (fun h => ?_)
      | with_reducible refine seg_need ?_ ?_
      | with_reducible refine wp_assoc ?_ | with_reducible refine wp_skipS ?_ | with_reducible refine wp_retS ?_ | with_reducible refine wp_exitS ?_ | with_reducible refine wp_dropS (wp_eqT (by simp -dsimp -implicitDefEqProofs [spHeld, spFaulty, w1, e1, w2, w3]; rfl) ?_) | with_reducible refine wp_sealS (by simp -dsimp -implicitDefEqProofs [spHeld, spFaulty, w1, e1, w2, w3]; rfl) ?_ | with_reducible refine wp_seal (by simp -dsimp -implicitDefEqProofs [spHeld, spFaulty, w1, e1, w2, w3]; rfl) ?_ | with_reducible refine wp_closeS (by simp -dsimp -implicitDefEqProofs [spHeld, spFaulty, w1, e1, w2, w3]; rfl) ?_ | with_reducible refine wp_close (by simp -dsimp -implicitDefEqProofs [spHeld, spFaulty, w1, e1, w2, w3]; rfl) ?_ | with_reducible refine wp_conc_out ?_ | with_reducible refine wp_open_out ?_ | with_reducible refine wp_pack_out ?_ | with_reducible refine wp_blockS ?_ | with_reducible refine wp_skip' ?_ | with_reducible refine wp_ret' ?_ | with_reducible refine wp_exit' ?_ | with_reducible refine wp_drop (wp_eqT (by simp -dsimp -implicitDefEqProofs [spHeld, spFaulty, w1, e1, w2, w3]; rfl) ?_) | with_reducible refine wp_block' ?_
      | with_reducible refine wp_condVS (by simp -dsimp -implicitDefEqProofs [spHeld, spFaulty, w1, e1, w2, w3]; rfl) ?_
      | with_reducible refine wp_condV (by simp -dsimp -implicitDefEqProofs [spHeld, spFaulty, w1, e1, w2, w3]; rfl) ?_
      | with_reducible refine cond_t ?_ | with_reducible refine cond_f ?_ | with_reducible refine cond_v (fun h => ?_) (fun h => ?_)
      | with_reducible refine post_then ?_ | with_reducible refine post_thenE ?_ | with_reducible refine post_thenP ?_ | with_reducible refine post_blkP ?_ | with_reducible refine post_thenR ?_ | with_reducible refine post_blkN ?_ | with_reducible refine post_blkE ?_ | with_reducible refine post_blkF rfl ?_ | with_reducible refine post_blkR ?_
      | with_reducible refine seg_eval (by simp -dsimp -implicitDefEqProofs [spHeld, spFaulty, w1, e1, w2, w3]; rfl) ?_
  all_goals first
    | exact post_fin rfl rfl ⟨[], [], rfl, rfl, rfl, rfl⟩
    | trace_state

theorem heldR_ok : CallOk Try.prog 84 spHeld := by
  refine ok_84 (Env.none_ok _) spHeld fun args mem r mem1 h => ?_
  unfold spHeld at h
  split at h
  case h_2 => cases h
  rename_i n
  cases h
  have e : (if 1 < (if 16 < n then 16 else n) then (if 16 < n then 16 else n) else 1) = heldS n := by unfold heldS; split <;> split <;> omega
  unfold ac_84
  repeat' first
      | with_reducible refine wp_regionS (seg_eval (by simp -dsimp -implicitDefEqProofs [e]; rfl) ?_)
      | with_reducible refine wp_region (seg_eval (by simp -dsimp -implicitDefEqProofs [e]; rfl) ?_)
      | with_reducible refine wp_drawsS (seg_eval (by simp -dsimp -implicitDefEqProofs [e]; rfl) ?_)
      | with_reducible refine wp_draws (seg_eval (by simp -dsimp -implicitDefEqProofs [e]; rfl) ?_)
      | with_reducible refine seg_fin ?_
      | with_reducible refine seg_pan ?_
      | with_reducible refine seg_both ?_ ?_
      | with_reducible refine seg_case (fun x h => ?_) (fun h => ?_)
      | with_reducible refine seg_gate (fun h => ?_) (fun h => ?_)
      | with_reducible refine seg_need ?_ ?_
      | with_reducible refine wp_assoc ?_ | with_reducible refine wp_skipS ?_ | with_reducible refine wp_retS ?_ | with_reducible refine wp_exitS ?_ | with_reducible refine wp_dropS (wp_eqT (by simp -dsimp -implicitDefEqProofs [e]; rfl) ?_) | with_reducible refine wp_sealS (by simp -dsimp -implicitDefEqProofs [e]; rfl) ?_ | with_reducible refine wp_seal (by simp -dsimp -implicitDefEqProofs [e]; rfl) ?_ | with_reducible refine wp_closeS (by simp -dsimp -implicitDefEqProofs [e]; rfl) ?_ | with_reducible refine wp_close (by simp -dsimp -implicitDefEqProofs [e]; rfl) ?_ | with_reducible refine wp_conc_out ?_ | with_reducible refine wp_open_out ?_ | with_reducible refine wp_pack_out ?_ | with_reducible refine wp_blockS ?_ | with_reducible refine wp_skip' ?_ | with_reducible refine wp_ret' ?_ | with_reducible refine wp_exit' ?_ | with_reducible refine wp_drop (wp_eqT (by simp -dsimp -implicitDefEqProofs [e]; rfl) ?_) | with_reducible refine wp_block' ?_
      | with_reducible refine wp_condVS (by simp -dsimp -implicitDefEqProofs [e]; rfl) ?_
      | with_reducible refine wp_condV (by simp -dsimp -implicitDefEqProofs [e]; rfl) ?_
      | with_reducible refine cond_t ?_ | with_reducible refine cond_f ?_ | with_reducible refine cond_v (fun h => ?_) (fun h => ?_)
      | with_reducible refine post_then ?_ | with_reducible refine post_thenE ?_ | with_reducible refine post_thenP ?_ | with_reducible refine post_blkP ?_ | with_reducible refine post_thenR ?_ | with_reducible refine post_blkN ?_ | with_reducible refine post_blkE ?_ | with_reducible refine post_blkF rfl ?_ | with_reducible refine post_blkR ?_
      | with_reducible refine seg_eval (by simp -dsimp -implicitDefEqProofs [e]; rfl) ?_
  all_goals first
    | exact post_fin rfl rfl ⟨[], [], rfl, rfl, rfl, rfl⟩
    | trace_state

theorem faultyR_ok : CallOk Try.prog 85 spFaulty := by
  refine ok_85 (Env.put_ok [] (Env.none_ok _) heldR_ok) spFaulty fun args mem r mem1 h => ?_
  unfold spFaulty at h
  split at h
  case h_2 => cases h
  rename_i n
  cases h
  have hr := held_range n
  have w1 : IntKind.wrap .i64 (heldS n - 1) = heldS n - 1 := IntWalk.i64_in _ (by omega)
  have e1 : (heldS n - 1).tdiv 3 = faultyS n := by unfold faultyS; rw [Int.tdiv_eq_ediv_of_nonneg (by omega)]
  have w2 : IntKind.wrap .i64 (faultyS n) = faultyS n := IntWalk.i64_in _ (by have := faulty_range n; omega)
  unfold ac_85
  repeat' first
      | with_reducible refine wp_regionS (seg_eval (by simp -dsimp -implicitDefEqProofs [spHeld, w1, e1, w2]; rfl) ?_)
      | with_reducible refine wp_region (seg_eval (by simp -dsimp -implicitDefEqProofs [spHeld, w1, e1, w2]; rfl) ?_)
      | with_reducible refine wp_drawsS (seg_eval (by simp -dsimp -implicitDefEqProofs [spHeld, w1, e1, w2]; rfl) ?_)
      | with_reducible refine wp_draws (seg_eval (by simp -dsimp -implicitDefEqProofs [spHeld, w1, e1, w2]; rfl) ?_)
      | with_reducible refine seg_fin ?_
      | with_reducible refine seg_pan ?_
      | with_reducible refine seg_both ?_ ?_
      | with_reducible refine seg_case (fun x h => ?_) (fun h => ?_)
      | with_reducible refine seg_gate (fun h => ?_) (fun h => ?_)
      | with_reducible refine seg_need ?_ ?_
      | with_reducible refine wp_assoc ?_ | with_reducible refine wp_skipS ?_ | with_reducible refine wp_retS ?_ | with_reducible refine wp_exitS ?_ | with_reducible refine wp_dropS (wp_eqT (by simp -dsimp -implicitDefEqProofs [spHeld, w1, e1, w2]; rfl) ?_) | with_reducible refine wp_sealS (by simp -dsimp -implicitDefEqProofs [spHeld, w1, e1, w2]; rfl) ?_ | with_reducible refine wp_seal (by simp -dsimp -implicitDefEqProofs [spHeld, w1, e1, w2]; rfl) ?_ | with_reducible refine wp_closeS (by simp -dsimp -implicitDefEqProofs [spHeld, w1, e1, w2]; rfl) ?_ | with_reducible refine wp_close (by simp -dsimp -implicitDefEqProofs [spHeld, w1, e1, w2]; rfl) ?_ | with_reducible refine wp_conc_out ?_ | with_reducible refine wp_open_out ?_ | with_reducible refine wp_pack_out ?_ | with_reducible refine wp_blockS ?_ | with_reducible refine wp_skip' ?_ | with_reducible refine wp_ret' ?_ | with_reducible refine wp_exit' ?_ | with_reducible refine wp_drop (wp_eqT (by simp -dsimp -implicitDefEqProofs [spHeld, w1, e1, w2]; rfl) ?_) | with_reducible refine wp_block' ?_
      | with_reducible refine wp_condVS (by simp -dsimp -implicitDefEqProofs [spHeld, w1, e1, w2]; rfl) ?_
      | with_reducible refine wp_condV (by simp -dsimp -implicitDefEqProofs [spHeld, w1, e1, w2]; rfl) ?_
      | with_reducible refine cond_t ?_ | with_reducible refine cond_f ?_ | with_reducible refine cond_v (fun h => ?_) (fun h => ?_)
      | with_reducible refine post_then ?_ | with_reducible refine post_thenE ?_ | with_reducible refine post_thenP ?_ | with_reducible refine post_blkP ?_ | with_reducible refine post_thenR ?_ | with_reducible refine post_blkN ?_ | with_reducible refine post_blkE ?_ | with_reducible refine post_blkF rfl ?_ | with_reducible refine post_blkR ?_
      | with_reducible refine seg_eval (by simp -dsimp -implicitDefEqProofs [spHeld, w1, e1, w2]; rfl) ?_
  all_goals first
    | exact post_fin rfl rfl ⟨[], [], rfl, rfl, rfl, rfl⟩
    | trace_state

theorem echoesR_ok : CallOk Try.prog 75 spEchoes := by
  refine ok_75 (Env.put_ok [] (Env.put_ok [] (Env.none_ok _) heldR_ok) faultyR_ok) spEchoes fun args mem r mem1 h => ?_
  unfold spEchoes at h
  split at h
  case h_2 => cases h
  rename_i n
  cases h
  have hr := held_range n
  have hf := faulty_range n
  have hel : echoesS n = (heldS n + faultyS n) / 2 + 1 := rfl
  have w1 : IntKind.wrap .i64 (heldS n + faultyS n) = heldS n + faultyS n := IntWalk.i64_in _ (by omega)
  unfold ac_75
  repeat' first
      | with_reducible refine wp_regionS (seg_eval (by simp -dsimp -implicitDefEqProofs [spHeld, spFaulty, w1]; rfl) ?_)
      | with_reducible refine wp_region (seg_eval (by simp -dsimp -implicitDefEqProofs [spHeld, spFaulty, w1]; rfl) ?_)
      | with_reducible refine wp_drawsS (seg_eval (by simp -dsimp -implicitDefEqProofs [spHeld, spFaulty, w1]; rfl) ?_)
      | with_reducible refine wp_draws (seg_eval (by simp -dsimp -implicitDefEqProofs [spHeld, spFaulty, w1]; rfl) ?_)
      | with_reducible refine seg_fin ?_
      | with_reducible refine seg_pan ?_
      | with_reducible refine seg_both ?_ ?_
      | with_reducible refine seg_case (fun x h => ?_) (fun h => ?_)
      | with_reducible refine seg_gate (fun h => ?_) (fun h => ?_)
      | with_reducible refine seg_need ?_ ?_
      | with_reducible refine wp_assoc ?_ | with_reducible refine wp_skipS ?_ | with_reducible refine wp_retS ?_ | with_reducible refine wp_exitS ?_ | with_reducible refine wp_dropS (wp_eqT (by simp -dsimp -implicitDefEqProofs [spHeld, spFaulty, w1]; rfl) ?_) | with_reducible refine wp_sealS (by simp -dsimp -implicitDefEqProofs [spHeld, spFaulty, w1]; rfl) ?_ | with_reducible refine wp_seal (by simp -dsimp -implicitDefEqProofs [spHeld, spFaulty, w1]; rfl) ?_ | with_reducible refine wp_closeS (by simp -dsimp -implicitDefEqProofs [spHeld, spFaulty, w1]; rfl) ?_ | with_reducible refine wp_close (by simp -dsimp -implicitDefEqProofs [spHeld, spFaulty, w1]; rfl) ?_ | with_reducible refine wp_conc_out ?_ | with_reducible refine wp_open_out ?_ | with_reducible refine wp_pack_out ?_ | with_reducible refine wp_blockS ?_ | with_reducible refine wp_skip' ?_ | with_reducible refine wp_ret' ?_ | with_reducible refine wp_exit' ?_ | with_reducible refine wp_drop (wp_eqT (by simp -dsimp -implicitDefEqProofs [spHeld, spFaulty, w1]; rfl) ?_) | with_reducible refine wp_block' ?_
      | with_reducible refine wp_condVS (by simp -dsimp -implicitDefEqProofs [spHeld, spFaulty, w1]; rfl) ?_
      | with_reducible refine wp_condV (by simp -dsimp -implicitDefEqProofs [spHeld, spFaulty, w1]; rfl) ?_
      | with_reducible refine cond_t ?_ | with_reducible refine cond_f ?_ | with_reducible refine cond_v (fun h => ?_) (fun h => ?_)
      | with_reducible refine post_then ?_ | with_reducible refine post_thenE ?_ | with_reducible refine post_thenP ?_ | with_reducible refine post_blkP ?_ | with_reducible refine post_thenR ?_ | with_reducible refine post_blkN ?_ | with_reducible refine post_blkE ?_ | with_reducible refine post_blkF rfl ?_ | with_reducible refine post_blkR ?_
      | with_reducible refine seg_eval (by simp -dsimp -implicitDefEqProofs [spHeld, spFaulty, w1]; rfl) ?_
  have hq : 1 ≤ heldS n + faultyS n ∧ heldS n + faultyS n ≤ 21 := by omega
  clear w1
  generalize heldS n + faultyS n = q at hel hq
  refine wp_loop' (fun j ts mm => ∃ i : Nat, i + j = 11 ∧ 2 * ((i : Int) - 1) ≤ q ∧ ts = [(3, .v (.int .i64 q)), (4, .v (.int .i64 i))] ∧ mm = []) 11 ?_ ?_
  · exact ⟨[], [], rfl, rfl, 0, by omega, by omega, by simp, by simp⟩
  · rintro j ts mm ⟨i, hi, hle, rfl, rfl⟩
    have h64 : IntKind.wrap .i64 ((i : Int) + 1) = ((i + 1 : Nat) : Int) := by rw [IntWalk.i64_in _ (by omega)]; rfl
    have h2 : IntKind.wrap .i64 (2 * (i : Int)) = 2 * (i : Int) := IntWalk.i64_in _ (by omega)
    by_cases hlt : 2 * (i : Int) ≤ q
    · have hd3 : decide (2 * (i : Int) ≤ q) = true := by rw [decide_eq_true_eq]; omega
      repeat' first
          | with_reducible refine wp_regionS (seg_eval (by simp -dsimp -implicitDefEqProofs [h64, h2, hd3]; rfl) ?_)
          | with_reducible refine wp_region (seg_eval (by simp -dsimp -implicitDefEqProofs [h64, h2, hd3]; rfl) ?_)
          | with_reducible refine wp_drawsS (seg_eval (by simp -dsimp -implicitDefEqProofs [h64, h2, hd3]; rfl) ?_)
          | with_reducible refine wp_draws (seg_eval (by simp -dsimp -implicitDefEqProofs [h64, h2, hd3]; rfl) ?_)
          | with_reducible refine seg_fin ?_
          | with_reducible refine seg_pan ?_
          | with_reducible refine seg_both ?_ ?_
          | with_reducible refine seg_case (fun x h => ?_) (fun h => ?_)
          | with_reducible refine seg_gate (fun h => ?_) (fun h => ?_)
          | with_reducible refine seg_need ?_ ?_
          | with_reducible refine wp_assoc ?_ | with_reducible refine wp_skipS ?_ | with_reducible refine wp_retS ?_ | with_reducible refine wp_exitS ?_ | with_reducible refine wp_dropS (wp_eqT (by simp -dsimp -implicitDefEqProofs [h64, h2, hd3]; rfl) ?_) | with_reducible refine wp_sealS (by simp -dsimp -implicitDefEqProofs [h64, h2, hd3]; rfl) ?_ | with_reducible refine wp_seal (by simp -dsimp -implicitDefEqProofs [h64, h2, hd3]; rfl) ?_ | with_reducible refine wp_closeS (by simp -dsimp -implicitDefEqProofs [h64, h2, hd3]; rfl) ?_ | with_reducible refine wp_close (by simp -dsimp -implicitDefEqProofs [h64, h2, hd3]; rfl) ?_ | with_reducible refine wp_conc_out ?_ | with_reducible refine wp_open_out ?_ | with_reducible refine wp_pack_out ?_ | with_reducible refine wp_blockS ?_ | with_reducible refine wp_skip' ?_ | with_reducible refine wp_ret' ?_ | with_reducible refine wp_exit' ?_ | with_reducible refine wp_drop (wp_eqT (by simp -dsimp -implicitDefEqProofs [h64, h2, hd3]; rfl) ?_) | with_reducible refine wp_block' ?_
          | with_reducible refine wp_condVS (by simp -dsimp -implicitDefEqProofs [h64, h2, hd3]; rfl) ?_
          | with_reducible refine wp_condV (by simp -dsimp -implicitDefEqProofs [h64, h2, hd3]; rfl) ?_
          | with_reducible refine cond_t ?_ | with_reducible refine cond_f ?_ | with_reducible refine cond_v (fun h => ?_) (fun h => ?_)
          | with_reducible refine post_then ?_ | with_reducible refine post_thenE ?_ | with_reducible refine post_thenP ?_ | with_reducible refine post_blkP ?_ | with_reducible refine post_thenR ?_ | with_reducible refine post_blkN ?_ | with_reducible refine post_blkE ?_ | with_reducible refine post_blkF rfl ?_ | with_reducible refine post_blkR ?_
          | with_reducible refine seg_eval (by simp -dsimp -implicitDefEqProofs [h64, h2, hd3]; rfl) ?_
      all_goals first
        | omega
        | exact ⟨j - 1, by omega, [], [], rfl, rfl, i + 1, by omega, by omega, by simp, by simp⟩
        | trace_state
    · have hd3 : decide (2 * (i : Int) ≤ q) = false := by rw [decide_eq_false_iff_not]; omega
      have : (i : Int) = echoesS n := by omega
      rw [← this]
      repeat' first
          | with_reducible refine wp_regionS (seg_eval (by simp -dsimp -implicitDefEqProofs [h64, h2, hd3]; rfl) ?_)
          | with_reducible refine wp_region (seg_eval (by simp -dsimp -implicitDefEqProofs [h64, h2, hd3]; rfl) ?_)
          | with_reducible refine wp_drawsS (seg_eval (by simp -dsimp -implicitDefEqProofs [h64, h2, hd3]; rfl) ?_)
          | with_reducible refine wp_draws (seg_eval (by simp -dsimp -implicitDefEqProofs [h64, h2, hd3]; rfl) ?_)
          | with_reducible refine seg_fin ?_
          | with_reducible refine seg_pan ?_
          | with_reducible refine seg_both ?_ ?_
          | with_reducible refine seg_case (fun x h => ?_) (fun h => ?_)
          | with_reducible refine seg_gate (fun h => ?_) (fun h => ?_)
          | with_reducible refine seg_need ?_ ?_
          | with_reducible refine wp_assoc ?_ | with_reducible refine wp_skipS ?_ | with_reducible refine wp_retS ?_ | with_reducible refine wp_exitS ?_ | with_reducible refine wp_dropS (wp_eqT (by simp -dsimp -implicitDefEqProofs [h64, h2, hd3]; rfl) ?_) | with_reducible refine wp_sealS (by simp -dsimp -implicitDefEqProofs [h64, h2, hd3]; rfl) ?_ | with_reducible refine wp_seal (by simp -dsimp -implicitDefEqProofs [h64, h2, hd3]; rfl) ?_ | with_reducible refine wp_closeS (by simp -dsimp -implicitDefEqProofs [h64, h2, hd3]; rfl) ?_ | with_reducible refine wp_close (by simp -dsimp -implicitDefEqProofs [h64, h2, hd3]; rfl) ?_ | with_reducible refine wp_conc_out ?_ | with_reducible refine wp_open_out ?_ | with_reducible refine wp_pack_out ?_ | with_reducible refine wp_blockS ?_ | with_reducible refine wp_skip' ?_ | with_reducible refine wp_ret' ?_ | with_reducible refine wp_exit' ?_ | with_reducible refine wp_drop (wp_eqT (by simp -dsimp -implicitDefEqProofs [h64, h2, hd3]; rfl) ?_) | with_reducible refine wp_block' ?_
          | with_reducible refine wp_condVS (by simp -dsimp -implicitDefEqProofs [h64, h2, hd3]; rfl) ?_
          | with_reducible refine wp_condV (by simp -dsimp -implicitDefEqProofs [h64, h2, hd3]; rfl) ?_
          | with_reducible refine cond_t ?_ | with_reducible refine cond_f ?_ | with_reducible refine cond_v (fun h => ?_) (fun h => ?_)
          | with_reducible refine post_then ?_ | with_reducible refine post_thenE ?_ | with_reducible refine post_thenP ?_ | with_reducible refine post_blkP ?_ | with_reducible refine post_thenR ?_ | with_reducible refine post_blkN ?_ | with_reducible refine post_blkE ?_ | with_reducible refine post_blkF rfl ?_ | with_reducible refine post_blkR ?_
          | with_reducible refine seg_eval (by simp -dsimp -implicitDefEqProofs [h64, h2, hd3]; rfl) ?_
      all_goals first
        | omega
        | exact post_fin rfl rfl ⟨[], [], rfl, rfl, rfl, rfl⟩
        | trace_state
end Go.Proofs.Ytkbgndebfcjojaa.Am
/-
  TWO BYTES COMPARED.
-/
namespace Go.Proofs.Ytkbgndebfcjojaa.Am
set_option linter.unusedSimpArgs false
set_option linter.unusedVariables false
open Go Go.Proofs
attribute [local irreducible] wpA

def cmpI (a b : Int) : Int := if a < b then -1 else if b < a then 1 else 0
def spNan8 : Spec
  | [.v (.int .u8 _)], [] => some (.ret (.v (.bool false)), [])
  | _, _ => none
theorem nan8_ok : CallOk Try.prog 68 spNan8 := by
  refine ok_68 (Env.none_ok _) spNan8 fun args mem r mem1 h => ?_
  unfold spNan8 at h
  split at h
  case h_2 => cases h
  cases h
  unfold ac_68
  repeat' first
      | with_reducible refine wp_regionS (seg_eval (by simp -dsimp -implicitDefEqProofs; rfl) ?_)
      | with_reducible refine wp_region (seg_eval (by simp -dsimp -implicitDefEqProofs; rfl) ?_)
      | with_reducible refine wp_drawsS (seg_eval (by simp -dsimp -implicitDefEqProofs; rfl) ?_)
      | with_reducible refine wp_draws (seg_eval (by simp -dsimp -implicitDefEqProofs; rfl) ?_)
      | with_reducible refine seg_fin ?_
      | with_reducible refine seg_pan ?_
      | with_reducible refine seg_both ?_ ?_
      | with_reducible refine seg_case (fun x h => ?_) (fun h => ?_)
      | with_reducible refine seg_gate (fun h => ?_) (fun h => ?_)
      | with_reducible refine seg_need ?_ ?_
      | with_reducible refine wp_assoc ?_ | with_reducible refine wp_skipS ?_ | with_reducible refine wp_retS ?_ | with_reducible refine wp_exitS ?_ | with_reducible refine wp_dropS (wp_eqT (by simp -dsimp -implicitDefEqProofs; rfl) ?_) | with_reducible refine wp_sealS (by simp -dsimp -implicitDefEqProofs; rfl) ?_ | with_reducible refine wp_seal (by simp -dsimp -implicitDefEqProofs; rfl) ?_ | with_reducible refine wp_closeS (by simp -dsimp -implicitDefEqProofs; rfl) ?_ | with_reducible refine wp_close (by simp -dsimp -implicitDefEqProofs; rfl) ?_ | with_reducible refine wp_conc_out ?_ | with_reducible refine wp_open_out ?_ | with_reducible refine wp_pack_out ?_ | with_reducible refine wp_blockS ?_ | with_reducible refine wp_skip' ?_ | with_reducible refine wp_ret' ?_ | with_reducible refine wp_exit' ?_ | with_reducible refine wp_drop (wp_eqT (by simp -dsimp -implicitDefEqProofs; rfl) ?_) | with_reducible refine wp_block' ?_
      | with_reducible refine wp_condVS (by simp -dsimp -implicitDefEqProofs; rfl) ?_
      | with_reducible refine wp_condV (by simp -dsimp -implicitDefEqProofs; rfl) ?_
      | with_reducible refine cond_t ?_ | with_reducible refine cond_f ?_ | with_reducible refine cond_v (fun h => ?_) (fun h => ?_)
      | with_reducible refine post_then ?_ | with_reducible refine post_thenE ?_ | with_reducible refine post_thenP ?_ | with_reducible refine post_blkP ?_ | with_reducible refine post_thenR ?_ | with_reducible refine post_blkN ?_ | with_reducible refine post_blkE ?_ | with_reducible refine post_blkF rfl ?_ | with_reducible refine post_blkR ?_
      | with_reducible refine seg_eval (by simp -dsimp -implicitDefEqProofs; rfl) ?_
  all_goals first
    | exact post_bool rfl (by simp)
    | trace_state

def spCmp8 : Spec
  | [.v (.int .u8 a), .v (.int .u8 b)], [] => some (.ret (.v (.int .i64 (cmpI a b))), [])
  | _, _ => none
theorem cmp8_ok : CallOk Try.prog 50 spCmp8 := by
  refine ok_50 (Env.put_ok [] (Env.none_ok _) nan8_ok) spCmp8 fun args mem r mem1 h => ?_
  unfold spCmp8 at h
  split at h
  case h_2 => cases h
  rename_i a b
  cases h
  unfold ac_50
  repeat' first
      | with_reducible refine wp_regionS (seg_eval (by simp -dsimp -implicitDefEqProofs [spNan8]; rfl) ?_)
      | with_reducible refine wp_region (seg_eval (by simp -dsimp -implicitDefEqProofs [spNan8]; rfl) ?_)
      | with_reducible refine wp_drawsS (seg_eval (by simp -dsimp -implicitDefEqProofs [spNan8]; rfl) ?_)
      | with_reducible refine wp_draws (seg_eval (by simp -dsimp -implicitDefEqProofs [spNan8]; rfl) ?_)
      | with_reducible refine seg_fin ?_
      | with_reducible refine seg_pan ?_
      | with_reducible refine seg_both ?_ ?_
      | with_reducible refine seg_case (fun x h => ?_) (fun h => ?_)
      | with_reducible refine seg_gate (fun h => ?_) (fun h => ?_)
      | with_reducible refine seg_need ?_ ?_
      | with_reducible refine wp_assoc ?_ | with_reducible refine wp_skipS ?_ | with_reducible refine wp_retS ?_ | with_reducible refine wp_exitS ?_ | with_reducible refine wp_dropS (wp_eqT (by simp -dsimp -implicitDefEqProofs [spNan8]; rfl) ?_) | with_reducible refine wp_sealS (by simp -dsimp -implicitDefEqProofs [spNan8]; rfl) ?_ | with_reducible refine wp_seal (by simp -dsimp -implicitDefEqProofs [spNan8]; rfl) ?_ | with_reducible refine wp_closeS (by simp -dsimp -implicitDefEqProofs [spNan8]; rfl) ?_ | with_reducible refine wp_close (by simp -dsimp -implicitDefEqProofs [spNan8]; rfl) ?_ | with_reducible refine wp_conc_out ?_ | with_reducible refine wp_open_out ?_ | with_reducible refine wp_pack_out ?_ | with_reducible refine wp_blockS ?_ | with_reducible refine wp_skip' ?_ | with_reducible refine wp_ret' ?_ | with_reducible refine wp_exit' ?_ | with_reducible refine wp_drop (wp_eqT (by simp -dsimp -implicitDefEqProofs [spNan8]; rfl) ?_) | with_reducible refine wp_block' ?_
      | with_reducible refine wp_condVS (by simp -dsimp -implicitDefEqProofs [spNan8]; rfl) ?_
      | with_reducible refine wp_condV (by simp -dsimp -implicitDefEqProofs [spNan8]; rfl) ?_
      | with_reducible refine cond_t ?_ | with_reducible refine cond_f ?_ | with_reducible refine cond_v (fun h => ?_) (fun h => ?_)
      | with_reducible refine post_then ?_ | with_reducible refine post_thenE ?_ | with_reducible refine post_thenP ?_ | with_reducible refine post_blkP ?_ | with_reducible refine post_thenR ?_ | with_reducible refine post_blkN ?_ | with_reducible refine post_blkE ?_ | with_reducible refine post_blkF rfl ?_ | with_reducible refine post_blkR ?_
      | with_reducible refine seg_eval (by simp -dsimp -implicitDefEqProofs [spNan8]; rfl) ?_
  all_goals
    simp only [decide_eq_true_eq, decide_eq_false_iff_not] at *
    refine post_fin rfl rfl ⟨[], [], rfl, rfl, ?_, rfl⟩
    unfold cmpI
  · rw [if_pos ‹_›]; rfl
  · rw [if_neg ‹_›, if_pos ‹_›]; rfl
  · rw [if_neg ‹_›, if_neg ‹_›]; rfl
end Go.Proofs.Ytkbgndebfcjojaa.Am
