/-
  SETS OF MEMBERS: who is in one, and how many they are.
-/
import Derived.Test.YtbponegjfccgfaaCode
import Derived.Test.YtbponegjfccgfaaS0
namespace Go.Proofs.Ytbponegjfccgfaa.Am
set_option linter.unusedSimpArgs false
set_option linter.unusedVariables false
open Go Go.Proofs
attribute [local irreducible] wpA

theorem bit_wrap (i : Nat) (hi : i < 256) : IntKind.wrap .u16 (IntKind.wrap .u64 (1 * 2 ^ min i 64)) = ((bitS i : Nat) : Int) := by
  unfold bitS
  by_cases h : i < 16
  · rw [if_pos h]
    have : ∀ k : Fin 16, IntKind.wrap .u16 (IntKind.wrap .u64 (1 * 2 ^ min k.val 64)) = ((2 ^ k.val : Nat) : Int) := by decide
    exact this ⟨i, h⟩
  · rw [if_neg h]
    by_cases h2 : i < 64
    · have : ∀ k : Fin 64, ¬ k.val < 16 → IntKind.wrap .u16 (IntKind.wrap .u64 (1 * 2 ^ min k.val 64)) = 0 := by decide
      exact this ⟨i, h2⟩ h
    · rw [Nat.min_eq_right (by omega)]; decide

def spBit : Spec
  | [.v (.int .u8 i)], [] => if 0 ≤ i ∧ i < 256 then some (.ret (.v (.int .u16 (bitS i.toNat))), []) else none
  | _, _ => none
theorem bit_ok : CallOk Try.prog 70 spBit := by
  refine ok_70 (Env.none_ok _) spBit fun args mem r mem1 h => ?_
  unfold spBit at h
  split at h
  case h_2 => cases h
  rename_i i
  obtain ⟨⟨h0, h1⟩, h2⟩ := if_some h
  cases h2
  obtain ⟨i, rfl⟩ := Int.eq_ofNat_of_zero_le h0
  have hw := bit_wrap i (by omega)
  have hw' : IntKind.wrap .u16 (IntKind.wrap .u64 (2 ^ min i 64)) = ((bitS i : Nat) : Int) := by rw [← hw, Int.one_mul]
  unfold ac_70
  repeat' first
      | with_reducible refine wp_regionS (seg_eval (by simp -dsimp -implicitDefEqProofs [hw, hw']; rfl) ?_)
      | with_reducible refine wp_region (seg_eval (by simp -dsimp -implicitDefEqProofs [hw, hw']; rfl) ?_)
      | with_reducible refine wp_drawsS (seg_eval (by simp -dsimp -implicitDefEqProofs [hw, hw']; rfl) ?_)
      | with_reducible refine wp_draws (seg_eval (by simp -dsimp -implicitDefEqProofs [hw, hw']; rfl) ?_)
      | with_reducible refine seg_fin ?_
      | with_reducible refine seg_pan ?_
      | with_reducible refine seg_both ?_ ?_
      | with_reducible refine seg_case (fun x h => ?_) (fun h => ?_)
      | with_reducible refine seg_gate (fun h => ?_) (fun h => ?_)
      | with_reducible refine seg_need ?_ ?_
      | with_reducible refine wp_assoc ?_ | with_reducible refine wp_skipS ?_ | with_reducible refine wp_retS ?_ | with_reducible refine wp_exitS ?_ | with_reducible refine wp_dropS (wp_eqT (by simp -dsimp -implicitDefEqProofs [hw, hw']; rfl) ?_) | with_reducible refine wp_sealS (by simp -dsimp -implicitDefEqProofs [hw, hw']; rfl) ?_ | with_reducible refine wp_seal (by simp -dsimp -implicitDefEqProofs [hw, hw']; rfl) ?_ | with_reducible refine wp_closeS (by simp -dsimp -implicitDefEqProofs [hw, hw']; rfl) ?_ | with_reducible refine wp_close (by simp -dsimp -implicitDefEqProofs [hw, hw']; rfl) ?_ | with_reducible refine wp_conc_out ?_ | with_reducible refine wp_open_out ?_ | with_reducible refine wp_pack_out ?_ | with_reducible refine wp_blockS ?_ | with_reducible refine wp_skip' ?_ | with_reducible refine wp_ret' ?_ | with_reducible refine wp_exit' ?_ | with_reducible refine wp_drop (wp_eqT (by simp -dsimp -implicitDefEqProofs [hw, hw']; rfl) ?_) | with_reducible refine wp_block' ?_
      | with_reducible refine wp_condVS (by simp -dsimp -implicitDefEqProofs [hw, hw']; rfl) ?_
      | with_reducible refine wp_condV (by simp -dsimp -implicitDefEqProofs [hw, hw']; rfl) ?_
      | with_reducible refine cond_t ?_ | with_reducible refine cond_f ?_ | with_reducible refine cond_v (fun h => ?_) (fun h => ?_)
      | with_reducible refine post_then ?_ | with_reducible refine post_thenE ?_ | with_reducible refine post_thenP ?_ | with_reducible refine post_blkP ?_ | with_reducible refine post_thenR ?_ | with_reducible refine post_blkN ?_ | with_reducible refine post_blkE ?_ | with_reducible refine post_blkF rfl ?_ | with_reducible refine post_blkR ?_
      | with_reducible refine seg_eval (by simp -dsimp -implicitDefEqProofs [hw, hw']; rfl) ?_
  all_goals first
    | omega
    | exact post_fin rfl rfl ⟨[], [], rfl, rfl, rfl, rfl⟩
    | trace_state

theorem and_nat (a b : Nat) (ha : a < 65536) (hb : b < 65536) : andI .u16 (a : Int) (b : Int) = ((a &&& b : Nat) : Int) := by
  unfold andI
  have e : ((BitVec.ofInt 16 (a : Int) &&& BitVec.ofInt 16 (b : Int)).toNat) = a &&& b := by
    rw [BitVec.toNat_and, BitVec.toNat_ofInt, BitVec.toNat_ofInt]
    congr 1 <;> omega
  show IntKind.wrap .u16 (((BitVec.ofInt 16 (a : Int) &&& BitVec.ofInt 16 (b : Int)).toNat : Nat) : Int) = _
  rw [e, IntKind.wrap_u16]
  have : a &&& b < 65536 := Nat.lt_of_le_of_lt Nat.and_le_left ha
  omega
theorem or_nat (a b : Nat) (ha : a < 65536) (hb : b < 65536) : orI .u16 (a : Int) (b : Int) = ((a ||| b : Nat) : Int) := by
  unfold orI
  have e : ((BitVec.ofInt 16 (a : Int) ||| BitVec.ofInt 16 (b : Int)).toNat) = a ||| b := by
    rw [BitVec.toNat_or, BitVec.toNat_ofInt, BitVec.toNat_ofInt]
    congr 1 <;> omega
  show IntKind.wrap .u16 (((BitVec.ofInt 16 (a : Int) ||| BitVec.ofInt 16 (b : Int)).toNat : Nat) : Int) = _
  rw [e, IntKind.wrap_u16]
  have : a ||| b < 65536 := Nat.or_lt_two_pow (n := 16) ha hb
  omega
theorem xor_nat (a b : Nat) (ha : a < 65536) (hb : b < 65536) : xorI .u16 (a : Int) (b : Int) = ((a ^^^ b : Nat) : Int) := by
  unfold xorI
  have e : ((BitVec.ofInt 16 (a : Int) ^^^ BitVec.ofInt 16 (b : Int)).toNat) = a ^^^ b := by
    rw [BitVec.toNat_xor, BitVec.toNat_ofInt, BitVec.toNat_ofInt]
    congr 1 <;> omega
  show IntKind.wrap .u16 (((BitVec.ofInt 16 (a : Int) ^^^ BitVec.ofInt 16 (b : Int)).toNat : Nat) : Int) = _
  rw [e, IntKind.wrap_u16]
  have : a ^^^ b < 65536 := Nat.xor_lt_two_pow (n := 16) ha hb
  omega

def spHas : Spec
  | [.v (.int .u16 m), .v (.int .u8 i)], [] => if 0 ≤ m ∧ m < 65536 ∧ 0 ≤ i ∧ i < 256 then some (.ret (.v (.bool (hasS m.toNat i.toNat))), []) else none
  | _, _ => none
theorem has_ok : CallOk Try.prog 44 spHas := by
  refine ok_44 (Env.put_ok [] (Env.none_ok _) bit_ok) spHas fun args mem r mem1 h => ?_
  unfold spHas at h
  split at h
  case h_2 => cases h
  rename_i m i
  obtain ⟨⟨h0, h1, h2, h3⟩, h4⟩ := if_some h
  cases h4
  obtain ⟨m, rfl⟩ := Int.eq_ofNat_of_zero_le h0
  obtain ⟨i, rfl⟩ := Int.eq_ofNat_of_zero_le h2
  have hw := and_nat m (bitS i) (by omega) (bitS_lt i)
  have hh := has_and_bit (m := m) (by omega) i
  unfold ac_44
  repeat' first
      | with_reducible refine wp_regionS (seg_eval (by simp -dsimp -implicitDefEqProofs [spBit, hw, hh]; rfl) ?_)
      | with_reducible refine wp_region (seg_eval (by simp -dsimp -implicitDefEqProofs [spBit, hw, hh]; rfl) ?_)
      | with_reducible refine wp_drawsS (seg_eval (by simp -dsimp -implicitDefEqProofs [spBit, hw, hh]; rfl) ?_)
      | with_reducible refine wp_draws (seg_eval (by simp -dsimp -implicitDefEqProofs [spBit, hw, hh]; rfl) ?_)
      | with_reducible refine seg_fin ?_
      | with_reducible refine seg_pan ?_
      | with_reducible refine seg_both ?_ ?_
      | with_reducible refine seg_case (fun x h => ?_) (fun h => ?_)
      | with_reducible refine seg_gate (fun h => ?_) (fun h => ?_)
      | with_reducible refine seg_need ?_ ?_
      | with_reducible refine wp_assoc ?_ | with_reducible refine wp_skipS ?_ | with_reducible refine wp_retS ?_ | with_reducible refine wp_exitS ?_ | with_reducible refine wp_dropS (wp_eqT (by simp -dsimp -implicitDefEqProofs [spBit, hw, hh]; rfl) ?_) | with_reducible refine wp_sealS (by simp -dsimp -implicitDefEqProofs [spBit, hw, hh]; rfl) ?_ | with_reducible refine wp_seal (by simp -dsimp -implicitDefEqProofs [spBit, hw, hh]; rfl) ?_ | with_reducible refine wp_closeS (by simp -dsimp -implicitDefEqProofs [spBit, hw, hh]; rfl) ?_ | with_reducible refine wp_close (by simp -dsimp -implicitDefEqProofs [spBit, hw, hh]; rfl) ?_ | with_reducible refine wp_conc_out ?_ | with_reducible refine wp_open_out ?_ | with_reducible refine wp_pack_out ?_ | with_reducible refine wp_blockS ?_ | with_reducible refine wp_skip' ?_ | with_reducible refine wp_ret' ?_ | with_reducible refine wp_exit' ?_ | with_reducible refine wp_drop (wp_eqT (by simp -dsimp -implicitDefEqProofs [spBit, hw, hh]; rfl) ?_) | with_reducible refine wp_block' ?_
      | with_reducible refine wp_condVS (by simp -dsimp -implicitDefEqProofs [spBit, hw, hh]; rfl) ?_
      | with_reducible refine wp_condV (by simp -dsimp -implicitDefEqProofs [spBit, hw, hh]; rfl) ?_
      | with_reducible refine cond_t ?_ | with_reducible refine cond_f ?_ | with_reducible refine cond_v (fun h => ?_) (fun h => ?_)
      | with_reducible refine post_then ?_ | with_reducible refine post_thenE ?_ | with_reducible refine post_thenP ?_ | with_reducible refine post_blkP ?_ | with_reducible refine post_thenR ?_ | with_reducible refine post_blkN ?_ | with_reducible refine post_blkE ?_ | with_reducible refine post_blkF rfl ?_ | with_reducible refine post_blkR ?_
      | with_reducible refine seg_eval (by simp -dsimp -implicitDefEqProofs [spBit, hw, hh]; rfl) ?_
  all_goals first
    | omega
    | exact post_bool rfl rfl
    | trace_state

def spWith : Spec
  | [.v (.int .u16 m), .v (.int .u8 i)], [] => if 0 ≤ m ∧ m < 65536 ∧ 0 ≤ i ∧ i < 256 then some (.ret (.v (.int .u16 (withS m.toNat i.toNat))), []) else none
  | _, _ => none
theorem with_ok : CallOk Try.prog 62 spWith := by
  refine ok_62 (Env.put_ok [] (Env.none_ok _) bit_ok) spWith fun args mem r mem1 h => ?_
  unfold spWith at h
  split at h
  case h_2 => cases h
  rename_i m i
  obtain ⟨⟨h0, h1, h2, h3⟩, h4⟩ := if_some h
  cases h4
  obtain ⟨m, rfl⟩ := Int.eq_ofNat_of_zero_le h0
  obtain ⟨i, rfl⟩ := Int.eq_ofNat_of_zero_le h2
  have hw := or_nat m (bitS i) (by omega) (bitS_lt i)
  unfold ac_62
  repeat' first
      | with_reducible refine wp_regionS (seg_eval (by simp -dsimp -implicitDefEqProofs [spBit, hw]; rfl) ?_)
      | with_reducible refine wp_region (seg_eval (by simp -dsimp -implicitDefEqProofs [spBit, hw]; rfl) ?_)
      | with_reducible refine wp_drawsS (seg_eval (by simp -dsimp -implicitDefEqProofs [spBit, hw]; rfl) ?_)
      | with_reducible refine wp_draws (seg_eval (by simp -dsimp -implicitDefEqProofs [spBit, hw]; rfl) ?_)
      | with_reducible refine seg_fin ?_
      | with_reducible refine seg_pan ?_
      | with_reducible refine seg_both ?_ ?_
      | with_reducible refine seg_case (fun x h => ?_) (fun h => ?_)
      | with_reducible refine seg_gate (fun h => ?_) (fun h => ?_)
      | with_reducible refine seg_need ?_ ?_
      | with_reducible refine wp_assoc ?_ | with_reducible refine wp_skipS ?_ | with_reducible refine wp_retS ?_ | with_reducible refine wp_exitS ?_ | with_reducible refine wp_dropS (wp_eqT (by simp -dsimp -implicitDefEqProofs [spBit, hw]; rfl) ?_) | with_reducible refine wp_sealS (by simp -dsimp -implicitDefEqProofs [spBit, hw]; rfl) ?_ | with_reducible refine wp_seal (by simp -dsimp -implicitDefEqProofs [spBit, hw]; rfl) ?_ | with_reducible refine wp_closeS (by simp -dsimp -implicitDefEqProofs [spBit, hw]; rfl) ?_ | with_reducible refine wp_close (by simp -dsimp -implicitDefEqProofs [spBit, hw]; rfl) ?_ | with_reducible refine wp_conc_out ?_ | with_reducible refine wp_open_out ?_ | with_reducible refine wp_pack_out ?_ | with_reducible refine wp_blockS ?_ | with_reducible refine wp_skip' ?_ | with_reducible refine wp_ret' ?_ | with_reducible refine wp_exit' ?_ | with_reducible refine wp_drop (wp_eqT (by simp -dsimp -implicitDefEqProofs [spBit, hw]; rfl) ?_) | with_reducible refine wp_block' ?_
      | with_reducible refine wp_condVS (by simp -dsimp -implicitDefEqProofs [spBit, hw]; rfl) ?_
      | with_reducible refine wp_condV (by simp -dsimp -implicitDefEqProofs [spBit, hw]; rfl) ?_
      | with_reducible refine cond_t ?_ | with_reducible refine cond_f ?_ | with_reducible refine cond_v (fun h => ?_) (fun h => ?_)
      | with_reducible refine post_then ?_ | with_reducible refine post_thenE ?_ | with_reducible refine post_thenP ?_ | with_reducible refine post_blkP ?_ | with_reducible refine post_thenR ?_ | with_reducible refine post_blkN ?_ | with_reducible refine post_blkE ?_ | with_reducible refine post_blkF rfl ?_ | with_reducible refine post_blkR ?_
      | with_reducible refine seg_eval (by simp -dsimp -implicitDefEqProofs [spBit, hw]; rfl) ?_
  all_goals first
    | omega
    | exact post_fin rfl rfl ⟨[], [], rfl, rfl, rfl, rfl⟩
    | trace_state

/-! ### How many there are -/
def popT (i : Nat) : Nat := cntTo i 8
theorem pop_tab : ∀ i : Fin 256, (bytes_5967fadc.data.toList[i.val]?).map UInt8.toNat = some (popT i.val) := by decide +kernel
theorem cnt_shift (m : Nat) : ∀ k, cntTo m (8 + k) = cntTo m 8 + cntTo (m / 256) k
  | 0 => rfl
  | k + 1 => by
    have h : hasS m (8 + k) = hasS (m / 256) k := by
      unfold hasS
      rw [show 256 = 2 ^ 8 from rfl, Nat.testBit_div_two_pow, Nat.add_comm]
    have e1 : cntTo m (8 + (k + 1)) = cntTo m (8 + k) + (if hasS m (8 + k) then 1 else 0) := rfl
    have e2 : cntTo (m / 256) (k + 1) = cntTo (m / 256) k + (if hasS (m / 256) k then 1 else 0) := rfl
    rw [e1, e2, cnt_shift m k, h, Nat.add_assoc]
theorem cnt_low (m : Nat) : cntTo (m % 256) 8 = cntTo m 8 := cnt_congr 8 fun i hi => by
  unfold hasS
  rw [show 256 = 2 ^ 8 from rfl, Nat.testBit_mod_two_pow]
  simp [hi]
theorem size_halves (m : Nat) : popT (m / 256) + popT (m % 256) = sizeS m := by
  rw [size_cnt, show (16 : Nat) = 8 + 8 from rfl, cnt_shift, popT, popT, cnt_low]; omega

def spSize : Spec
  | [.v (.int .u16 m)], [] => if 0 ≤ m ∧ m < 65536 then some (.ret (.v (.int .i64 (sizeS m.toNat))), []) else none
  | _, _ => none
set_option maxHeartbeats 1000000 in
set_option maxRecDepth 20000 in
theorem ones_ok : CallOk Try.prog 73 spSize := by
  refine ok_73 (Env.none_ok _) spSize fun args mem r mem1 h => ?_
  unfold spSize at h
  split at h
  case h_2 => cases h
  rename_i m
  obtain ⟨⟨h0, h1⟩, h4⟩ := if_some h
  cases h4
  obtain ⟨m, rfl⟩ := Int.eq_ofNat_of_zero_le h0
  have hm : m < 65536 := by omega
  obtain ⟨a, ha, ha'⟩ := Option.map_eq_some_iff.1 (pop_tab ⟨m / 256, by omega⟩)
  obtain ⟨b, hb, hb'⟩ := Option.map_eq_some_iff.1 (pop_tab ⟨m % 256, by omega⟩)
  simp only at ha hb ha' hb'
  have e1 : (m : Int).fdiv (2 ^ 8) = (m : Int) / 256 := by rw [Int.fdiv_eq_ediv_of_nonneg _ (by decide)]; rfl
  have e1'' : ((m : Int) / 256).toNat = m / 256 := by omega
  have e2 : andI .u16 (m : Int) 255 = (m : Int) % 256 := by
    have := and_nat m 255 hm (by decide)
    rw [show (255 : Nat) = 2 ^ 8 - 1 from rfl, Nat.and_two_pow_sub_one_eq_mod] at this
    exact this
  have e2' : ((m : Int) % 256).toNat = m % 256 := by omega
  have e3 := size_halves m
  have hp1 := cnt_le (m / 256) 8
  have hp2 := cnt_le (m % 256) 8
  have e4 : IntKind.wrap .u8 ((a.toNat : Int) + (b.toNat : Int)) = ((sizeS m : Nat) : Int) := by
    rw [ha', hb', ← Int.natCast_add, e3, IntKind.wrap_u8]
    have := size_le m; omega
  have e5 : IntKind.wrap .i64 ((sizeS m : Nat) : Int) = ((sizeS m : Nat) : Int) := IntWalk.i64_in _ (by have := size_le m; omega)
  unfold ac_73
  have ha2 : bytes_5967fadc.data[m / 256]? = some a := by simpa using ha
  have hb2 : bytes_5967fadc.data[m % 256]? = some b := by simpa using hb
  repeat' first
      | with_reducible refine wp_regionS (seg_eval (by simp -dsimp -implicitDefEqProofs [e1, e1'', e2, e2', ha2, hb2, e4, e5]; rfl) ?_)
      | with_reducible refine wp_region (seg_eval (by simp -dsimp -implicitDefEqProofs [e1, e1'', e2, e2', ha2, hb2, e4, e5]; rfl) ?_)
      | with_reducible refine wp_drawsS (seg_eval (by simp -dsimp -implicitDefEqProofs [e1, e1'', e2, e2', ha2, hb2, e4, e5]; rfl) ?_)
      | with_reducible refine wp_draws (seg_eval (by simp -dsimp -implicitDefEqProofs [e1, e1'', e2, e2', ha2, hb2, e4, e5]; rfl) ?_)
      | with_reducible refine seg_fin ?_
      | with_reducible refine seg_pan ?_
      | with_reducible refine seg_both ?_ ?_
      | with_reducible refine seg_case (fun x h => ?_) (fun h => ?_)
      | with_reducible refine seg_gate (fun h => ?_) (fun h => ?_)
      | with_reducible refine seg_need ?_ ?_
      | with_reducible refine wp_assoc ?_ | with_reducible refine wp_skipS ?_ | with_reducible refine wp_retS ?_ | with_reducible refine wp_exitS ?_ | with_reducible refine wp_dropS (wp_eqT (by simp -dsimp -implicitDefEqProofs [e1, e1'', e2, e2', ha2, hb2, e4, e5]; rfl) ?_) | with_reducible refine wp_sealS (by simp -dsimp -implicitDefEqProofs [e1, e1'', e2, e2', ha2, hb2, e4, e5]; rfl) ?_ | with_reducible refine wp_seal (by simp -dsimp -implicitDefEqProofs [e1, e1'', e2, e2', ha2, hb2, e4, e5]; rfl) ?_ | with_reducible refine wp_closeS (by simp -dsimp -implicitDefEqProofs [e1, e1'', e2, e2', ha2, hb2, e4, e5]; rfl) ?_ | with_reducible refine wp_close (by simp -dsimp -implicitDefEqProofs [e1, e1'', e2, e2', ha2, hb2, e4, e5]; rfl) ?_ | with_reducible refine wp_conc_out ?_ | with_reducible refine wp_open_out ?_ | with_reducible refine wp_pack_out ?_ | with_reducible refine wp_blockS ?_ | with_reducible refine wp_skip' ?_ | with_reducible refine wp_ret' ?_ | with_reducible refine wp_exit' ?_ | with_reducible refine wp_drop (wp_eqT (by simp -dsimp -implicitDefEqProofs [e1, e1'', e2, e2', ha2, hb2, e4, e5]; rfl) ?_) | with_reducible refine wp_block' ?_
      | with_reducible refine wp_condVS (by simp -dsimp -implicitDefEqProofs [e1, e1'', e2, e2', ha2, hb2, e4, e5]; rfl) ?_
      | with_reducible refine wp_condV (by simp -dsimp -implicitDefEqProofs [e1, e1'', e2, e2', ha2, hb2, e4, e5]; rfl) ?_
      | with_reducible refine cond_t ?_ | with_reducible refine cond_f ?_ | with_reducible refine cond_v (fun h => ?_) (fun h => ?_)
      | with_reducible refine post_then ?_ | with_reducible refine post_thenE ?_ | with_reducible refine post_thenP ?_ | with_reducible refine post_blkP ?_ | with_reducible refine post_thenR ?_ | with_reducible refine post_blkN ?_ | with_reducible refine post_blkE ?_ | with_reducible refine post_blkF rfl ?_ | with_reducible refine post_blkR ?_
      | with_reducible refine seg_eval (by simp -dsimp -implicitDefEqProofs [e1, e1'', e2, e2', ha2, hb2, e4, e5]; rfl) ?_
  all_goals first
    | omega
    | exact post_fin rfl rfl ⟨[], [], rfl, rfl, rfl, rfl⟩
    | trace_state

theorem size_ok : CallOk Try.prog 49 spSize := by
  refine ok_49 (Env.put_ok [] (Env.none_ok _) ones_ok) spSize fun args mem r mem1 h => ?_
  unfold spSize at h
  split at h
  case h_2 => cases h
  rename_i m
  obtain ⟨⟨h0, h1⟩, h4⟩ := if_some h
  cases h4
  unfold ac_49
  repeat' first
      | with_reducible refine wp_regionS (seg_eval (by simp -dsimp -implicitDefEqProofs [spSize]; rfl) ?_)
      | with_reducible refine wp_region (seg_eval (by simp -dsimp -implicitDefEqProofs [spSize]; rfl) ?_)
      | with_reducible refine wp_drawsS (seg_eval (by simp -dsimp -implicitDefEqProofs [spSize]; rfl) ?_)
      | with_reducible refine wp_draws (seg_eval (by simp -dsimp -implicitDefEqProofs [spSize]; rfl) ?_)
      | with_reducible refine seg_fin ?_
      | with_reducible refine seg_pan ?_
      | with_reducible refine seg_both ?_ ?_
      | with_reducible refine seg_case (fun x h => ?_) (fun h => ?_)
      | with_reducible refine seg_gate (fun h => ?_) (fun h => ?_)
      | with_reducible refine seg_need ?_ ?_
      | with_reducible refine wp_assoc ?_ | with_reducible refine wp_skipS ?_ | with_reducible refine wp_retS ?_ | with_reducible refine wp_exitS ?_ | with_reducible refine wp_dropS (wp_eqT (by simp -dsimp -implicitDefEqProofs [spSize]; rfl) ?_) | with_reducible refine wp_sealS (by simp -dsimp -implicitDefEqProofs [spSize]; rfl) ?_ | with_reducible refine wp_seal (by simp -dsimp -implicitDefEqProofs [spSize]; rfl) ?_ | with_reducible refine wp_closeS (by simp -dsimp -implicitDefEqProofs [spSize]; rfl) ?_ | with_reducible refine wp_close (by simp -dsimp -implicitDefEqProofs [spSize]; rfl) ?_ | with_reducible refine wp_conc_out ?_ | with_reducible refine wp_open_out ?_ | with_reducible refine wp_pack_out ?_ | with_reducible refine wp_blockS ?_ | with_reducible refine wp_skip' ?_ | with_reducible refine wp_ret' ?_ | with_reducible refine wp_exit' ?_ | with_reducible refine wp_drop (wp_eqT (by simp -dsimp -implicitDefEqProofs [spSize]; rfl) ?_) | with_reducible refine wp_block' ?_
      | with_reducible refine wp_condVS (by simp -dsimp -implicitDefEqProofs [spSize]; rfl) ?_
      | with_reducible refine wp_condV (by simp -dsimp -implicitDefEqProofs [spSize]; rfl) ?_
      | with_reducible refine cond_t ?_ | with_reducible refine cond_f ?_ | with_reducible refine cond_v (fun h => ?_) (fun h => ?_)
      | with_reducible refine post_then ?_ | with_reducible refine post_thenE ?_ | with_reducible refine post_thenP ?_ | with_reducible refine post_blkP ?_ | with_reducible refine post_thenR ?_ | with_reducible refine post_blkN ?_ | with_reducible refine post_blkE ?_ | with_reducible refine post_blkF rfl ?_ | with_reducible refine post_blkR ?_
      | with_reducible refine seg_eval (by simp -dsimp -implicitDefEqProofs [spSize]; rfl) ?_
  all_goals first
    | omega
    | exact ⟨h0, h1⟩
    | exact post_fin rfl rfl ⟨[], [], rfl, rfl, rfl, rfl⟩
    | trace_state
end Go.Proofs.Ytbponegjfccgfaa.Am
