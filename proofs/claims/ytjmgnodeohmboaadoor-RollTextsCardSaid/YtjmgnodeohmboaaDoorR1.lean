/-
  THE TEXTS OF CHANGES: prefixes, a change's text, and the change of a text, on both sides.
-/
import Derived.Test.YtjmgnodeohmboaaDoorCode
import Derived.Test.YtjmgnodeohmboaaDoorV1
import Derived.Test.YtjmgnodeohmboaaDoorPB
namespace Go.Proofs.YtjmgnodeohmboaaDoor.Am
set_option linter.unusedSimpArgs false
set_option linter.unusedVariables false
open Go Go.Proofs
attribute [local irreducible] wpA
attribute [-simp] splice

def hasP (s p : ByteArray) : Bool := decide (p.size ≤ s.size) && (s.extract 0 p.size == p)
def trimP (s p : ByteArray) : ByteArray := if hasP s p = true then s.extract p.size s.size else s
def spHasP : Spec
  | [.v (.string s), .v (.string p)], [] => some (.ret (.v (.bool (hasP s p))), [])
  | _, _ => none
theorem hasP_ok : CallOk Tryd.prog 40 spHasP := by
  refine ok_40 (Env.none_ok _) spHasP fun args mem r mem1 h => ?_
  unfold spHasP at h
  split at h
  case h_2 => cases h
  rename_i s p
  cases h
  unfold ac_40
  by_cases hs : p.size ≤ s.size
  · have c1 : decide ((p.size : Int) ≤ (s.size : Int)) = true := by rw [decide_eq_true_eq]; omega
    have e : hasP s p = (s.extract 0 p.size == p) := by unfold hasP; rw [decide_eq_true hs, Bool.true_and]
    rw [e]
    repeat' with_reducible first
      | refine wp_regionS (seg_eval (by simp -dsimp -implicitDefEqProofs [c1, hs]; rfl) ?_)
      | refine wp_region (seg_eval (by simp -dsimp -implicitDefEqProofs [c1, hs]; rfl) ?_)
      | refine wp_drawsS (seg_eval (by simp -dsimp -implicitDefEqProofs [c1, hs]; rfl) ?_)
      | refine wp_draws (seg_eval (by simp -dsimp -implicitDefEqProofs [c1, hs]; rfl) ?_)
      | refine seg_fin ?_
      | refine seg_pan ?_
      | refine seg_both ?_ ?_
      | refine seg_case (fun x h => ?_) (fun h => ?_)
      | refine seg_gate (fun h => ?_) (fun h => ?_)
      | refine seg_need ?_ ?_
      | refine wp_assoc ?_ | refine wp_skipS ?_ | refine wp_retS ?_ | refine wp_exitS ?_ | refine wp_dropS (wp_eqT (by simp -dsimp -implicitDefEqProofs; rfl) ?_) | refine wp_sealS (by simp -dsimp -implicitDefEqProofs; rfl) ?_ | refine wp_seal (by simp -dsimp -implicitDefEqProofs; rfl) ?_ | refine wp_pack_out ?_ | refine wp_blockS ?_ | refine wp_skip' ?_ | refine wp_ret' ?_ | refine wp_exit' ?_ | refine wp_drop (wp_eqT (by simp -dsimp -implicitDefEqProofs; rfl) ?_) | refine wp_block' ?_
      | refine wp_condVS (by simp -dsimp -implicitDefEqProofs; rfl) ?_
      | refine wp_condV (by simp -dsimp -implicitDefEqProofs; rfl) ?_
      | refine cond_t ?_ | refine cond_f ?_ | refine cond_v (fun h => ?_) (fun h => ?_)
      | refine post_then ?_ | refine post_thenE ?_ | refine post_thenP ?_ | refine post_blkP ?_ | refine post_thenR ?_ | refine post_blkN ?_ | refine post_blkE ?_ | refine post_blkF rfl ?_ | refine post_blkR ?_
      | refine seg_eval (by simp -dsimp -implicitDefEqProofs [c1, hs]; rfl) ?_
    all_goals first
      | omega
      | exact post_fin rfl rfl ⟨[], [], rfl, rfl, rfl, rfl⟩
      | trace_state
  · have c1 : decide ((p.size : Int) ≤ (s.size : Int)) = false := by rw [decide_eq_false_iff_not]; omega
    have e : hasP s p = false := by unfold hasP; rw [decide_eq_false hs, Bool.false_and]
    rw [e]
    repeat' with_reducible first
      | refine wp_regionS (seg_eval (by simp -dsimp -implicitDefEqProofs [c1, hs]; rfl) ?_)
      | refine wp_region (seg_eval (by simp -dsimp -implicitDefEqProofs [c1, hs]; rfl) ?_)
      | refine wp_drawsS (seg_eval (by simp -dsimp -implicitDefEqProofs [c1, hs]; rfl) ?_)
      | refine wp_draws (seg_eval (by simp -dsimp -implicitDefEqProofs [c1, hs]; rfl) ?_)
      | refine seg_fin ?_
      | refine seg_pan ?_
      | refine seg_both ?_ ?_
      | refine seg_case (fun x h => ?_) (fun h => ?_)
      | refine seg_gate (fun h => ?_) (fun h => ?_)
      | refine seg_need ?_ ?_
      | refine wp_assoc ?_ | refine wp_skipS ?_ | refine wp_retS ?_ | refine wp_exitS ?_ | refine wp_dropS (wp_eqT (by simp -dsimp -implicitDefEqProofs; rfl) ?_) | refine wp_sealS (by simp -dsimp -implicitDefEqProofs; rfl) ?_ | refine wp_seal (by simp -dsimp -implicitDefEqProofs; rfl) ?_ | refine wp_pack_out ?_ | refine wp_blockS ?_ | refine wp_skip' ?_ | refine wp_ret' ?_ | refine wp_exit' ?_ | refine wp_drop (wp_eqT (by simp -dsimp -implicitDefEqProofs; rfl) ?_) | refine wp_block' ?_
      | refine wp_condVS (by simp -dsimp -implicitDefEqProofs; rfl) ?_
      | refine wp_condV (by simp -dsimp -implicitDefEqProofs; rfl) ?_
      | refine cond_t ?_ | refine cond_f ?_ | refine cond_v (fun h => ?_) (fun h => ?_)
      | refine post_then ?_ | refine post_thenE ?_ | refine post_thenP ?_ | refine post_blkP ?_ | refine post_thenR ?_ | refine post_blkN ?_ | refine post_blkE ?_ | refine post_blkF rfl ?_ | refine post_blkR ?_
      | refine seg_eval (by simp -dsimp -implicitDefEqProofs [c1, hs]; rfl) ?_
    all_goals first
      | omega
      | exact post_fin rfl rfl ⟨[], [], rfl, rfl, rfl, rfl⟩
      | trace_state
theorem hasP_le {s p : ByteArray} (h : hasP s p = true) : p.size ≤ s.size := by
  unfold hasP at h
  simp at h
  exact h.1

def spCutP : Spec
  | [.v (.string s), .v (.string p)], [] => some (.ret (.tup [.v (.string (trimP s p)), .v (.bool (hasP s p))]), [])
  | _, _ => none
theorem cutP0_ok : CallOk Tryd.prog 35 spCutP := by
  refine ok_35 (Env.put_ok [] (Env.none_ok _) hasP_ok) spCutP fun args mem r mem1 h => ?_
  unfold spCutP at h
  split at h
  case h_2 => cases h
  rename_i s p
  cases h
  unfold ac_35
  cases hp : hasP s p
  · have e : trimP s p = s := by unfold trimP; rw [hp]; rfl
    rw [e]
    repeat' with_reducible first
      | refine wp_regionS (seg_eval (by simp -dsimp -implicitDefEqProofs [spHasP, hp]; rfl) ?_)
      | refine wp_region (seg_eval (by simp -dsimp -implicitDefEqProofs [spHasP, hp]; rfl) ?_)
      | refine wp_drawsS (seg_eval (by simp -dsimp -implicitDefEqProofs [spHasP, hp]; rfl) ?_)
      | refine wp_draws (seg_eval (by simp -dsimp -implicitDefEqProofs [spHasP, hp]; rfl) ?_)
      | refine seg_fin ?_
      | refine seg_pan ?_
      | refine seg_both ?_ ?_
      | refine seg_case (fun x h => ?_) (fun h => ?_)
      | refine seg_gate (fun h => ?_) (fun h => ?_)
      | refine seg_need ?_ ?_
      | refine wp_assoc ?_ | refine wp_skipS ?_ | refine wp_retS ?_ | refine wp_exitS ?_ | refine wp_dropS (wp_eqT (by simp -dsimp -implicitDefEqProofs; rfl) ?_) | refine wp_sealS (by simp -dsimp -implicitDefEqProofs; rfl) ?_ | refine wp_seal (by simp -dsimp -implicitDefEqProofs; rfl) ?_ | refine wp_pack_out ?_ | refine wp_blockS ?_ | refine wp_skip' ?_ | refine wp_ret' ?_ | refine wp_exit' ?_ | refine wp_drop (wp_eqT (by simp -dsimp -implicitDefEqProofs; rfl) ?_) | refine wp_block' ?_
      | refine wp_condVS (by simp -dsimp -implicitDefEqProofs; rfl) ?_
      | refine wp_condV (by simp -dsimp -implicitDefEqProofs; rfl) ?_
      | refine cond_t ?_ | refine cond_f ?_ | refine cond_v (fun h => ?_) (fun h => ?_)
      | refine post_then ?_ | refine post_thenE ?_ | refine post_thenP ?_ | refine post_blkP ?_ | refine post_thenR ?_ | refine post_blkN ?_ | refine post_blkE ?_ | refine post_blkF rfl ?_ | refine post_blkR ?_
      | refine seg_eval (by simp -dsimp -implicitDefEqProofs [spHasP, hp]; rfl) ?_
    all_goals first
      | omega
      | exact post_fin rfl rfl ⟨[], [], rfl, rfl, rfl, rfl⟩
      | trace_state
  · have e : trimP s p = s.extract p.size s.size := by unfold trimP; rw [if_pos hp]
    have hs := hasP_le hp
    rw [e]
    repeat' with_reducible first
      | refine wp_regionS (seg_eval (by simp -dsimp -implicitDefEqProofs [spHasP, hp, hs]; rfl) ?_)
      | refine wp_region (seg_eval (by simp -dsimp -implicitDefEqProofs [spHasP, hp, hs]; rfl) ?_)
      | refine wp_drawsS (seg_eval (by simp -dsimp -implicitDefEqProofs [spHasP, hp, hs]; rfl) ?_)
      | refine wp_draws (seg_eval (by simp -dsimp -implicitDefEqProofs [spHasP, hp, hs]; rfl) ?_)
      | refine seg_fin ?_
      | refine seg_pan ?_
      | refine seg_both ?_ ?_
      | refine seg_case (fun x h => ?_) (fun h => ?_)
      | refine seg_gate (fun h => ?_) (fun h => ?_)
      | refine seg_need ?_ ?_
      | refine wp_assoc ?_ | refine wp_skipS ?_ | refine wp_retS ?_ | refine wp_exitS ?_ | refine wp_dropS (wp_eqT (by simp -dsimp -implicitDefEqProofs; rfl) ?_) | refine wp_sealS (by simp -dsimp -implicitDefEqProofs; rfl) ?_ | refine wp_seal (by simp -dsimp -implicitDefEqProofs; rfl) ?_ | refine wp_pack_out ?_ | refine wp_blockS ?_ | refine wp_skip' ?_ | refine wp_ret' ?_ | refine wp_exit' ?_ | refine wp_drop (wp_eqT (by simp -dsimp -implicitDefEqProofs; rfl) ?_) | refine wp_block' ?_
      | refine wp_condVS (by simp -dsimp -implicitDefEqProofs; rfl) ?_
      | refine wp_condV (by simp -dsimp -implicitDefEqProofs; rfl) ?_
      | refine cond_t ?_ | refine cond_f ?_ | refine cond_v (fun h => ?_) (fun h => ?_)
      | refine post_then ?_ | refine post_thenE ?_ | refine post_thenP ?_ | refine post_blkP ?_ | refine post_thenR ?_ | refine post_blkN ?_ | refine post_blkE ?_ | refine post_blkF rfl ?_ | refine post_blkR ?_
      | refine seg_eval (by simp -dsimp -implicitDefEqProofs [spHasP, hp, hs]; rfl) ?_
    all_goals first
      | omega
      | exact post_fin rfl rfl ⟨[], [], rfl, rfl, rfl, rfl⟩
      | trace_state
theorem cutP_ok : CallOk Tryd.prog 28 spCutP := by
  refine ok_28 (Env.put_ok [] (Env.none_ok _) cutP0_ok) spCutP fun args mem r mem1 h => ?_
  unfold spCutP at h
  split at h
  case h_2 => cases h
  rename_i s p
  cases h
  unfold ac_28
  repeat' with_reducible first
    | refine wp_regionS (seg_eval (by simp -dsimp -implicitDefEqProofs [spCutP]; rfl) ?_)
    | refine wp_region (seg_eval (by simp -dsimp -implicitDefEqProofs [spCutP]; rfl) ?_)
    | refine wp_drawsS (seg_eval (by simp -dsimp -implicitDefEqProofs [spCutP]; rfl) ?_)
    | refine wp_draws (seg_eval (by simp -dsimp -implicitDefEqProofs [spCutP]; rfl) ?_)
    | refine seg_fin ?_
    | refine seg_pan ?_
    | refine seg_both ?_ ?_
    | refine seg_case (fun x h => ?_) (fun h => ?_)
    | refine seg_gate (fun h => ?_) (fun h => ?_)
    | refine seg_need ?_ ?_
    | refine wp_assoc ?_ | refine wp_skipS ?_ | refine wp_retS ?_ | refine wp_exitS ?_ | refine wp_dropS (wp_eqT (by simp -dsimp -implicitDefEqProofs; rfl) ?_) | refine wp_sealS (by simp -dsimp -implicitDefEqProofs; rfl) ?_ | refine wp_seal (by simp -dsimp -implicitDefEqProofs; rfl) ?_ | refine wp_pack_out ?_ | refine wp_blockS ?_ | refine wp_skip' ?_ | refine wp_ret' ?_ | refine wp_exit' ?_ | refine wp_drop (wp_eqT (by simp -dsimp -implicitDefEqProofs; rfl) ?_) | refine wp_block' ?_
    | refine wp_condVS (by simp -dsimp -implicitDefEqProofs; rfl) ?_
    | refine wp_condV (by simp -dsimp -implicitDefEqProofs; rfl) ?_
    | refine cond_t ?_ | refine cond_f ?_ | refine cond_v (fun h => ?_) (fun h => ?_)
    | refine post_then ?_ | refine post_thenE ?_ | refine post_thenP ?_ | refine post_blkP ?_ | refine post_thenR ?_ | refine post_blkN ?_ | refine post_blkE ?_ | refine post_blkF rfl ?_ | refine post_blkR ?_
    | refine seg_eval (by simp -dsimp -implicitDefEqProofs [spCutP]; rfl) ?_
  all_goals first
    | omega
    | exact post_fin rfl rfl ⟨[], [], rfl, rfl, rfl, rfl⟩
    | trace_state
def spTrimP : Spec
  | [.v (.string s), .v (.string p)], [] => some (.ret (.v (.string (trimP s p))), [])
  | _, _ => none
theorem trimP0_ok : CallOk Tryd.prog 36 spTrimP := by
  refine ok_36 (Env.put_ok [] (Env.none_ok _) hasP_ok) spTrimP fun args mem r mem1 h => ?_
  unfold spTrimP at h
  split at h
  case h_2 => cases h
  rename_i s p
  cases h
  unfold ac_36
  cases hp : hasP s p
  · have e : trimP s p = s := by unfold trimP; rw [hp]; rfl
    rw [e]
    repeat' with_reducible first
      | refine wp_regionS (seg_eval (by simp -dsimp -implicitDefEqProofs [spHasP, hp]; rfl) ?_)
      | refine wp_region (seg_eval (by simp -dsimp -implicitDefEqProofs [spHasP, hp]; rfl) ?_)
      | refine wp_drawsS (seg_eval (by simp -dsimp -implicitDefEqProofs [spHasP, hp]; rfl) ?_)
      | refine wp_draws (seg_eval (by simp -dsimp -implicitDefEqProofs [spHasP, hp]; rfl) ?_)
      | refine seg_fin ?_
      | refine seg_pan ?_
      | refine seg_both ?_ ?_
      | refine seg_case (fun x h => ?_) (fun h => ?_)
      | refine seg_gate (fun h => ?_) (fun h => ?_)
      | refine seg_need ?_ ?_
      | refine wp_assoc ?_ | refine wp_skipS ?_ | refine wp_retS ?_ | refine wp_exitS ?_ | refine wp_dropS (wp_eqT (by simp -dsimp -implicitDefEqProofs; rfl) ?_) | refine wp_sealS (by simp -dsimp -implicitDefEqProofs; rfl) ?_ | refine wp_seal (by simp -dsimp -implicitDefEqProofs; rfl) ?_ | refine wp_pack_out ?_ | refine wp_blockS ?_ | refine wp_skip' ?_ | refine wp_ret' ?_ | refine wp_exit' ?_ | refine wp_drop (wp_eqT (by simp -dsimp -implicitDefEqProofs; rfl) ?_) | refine wp_block' ?_
      | refine wp_condVS (by simp -dsimp -implicitDefEqProofs; rfl) ?_
      | refine wp_condV (by simp -dsimp -implicitDefEqProofs; rfl) ?_
      | refine cond_t ?_ | refine cond_f ?_ | refine cond_v (fun h => ?_) (fun h => ?_)
      | refine post_then ?_ | refine post_thenE ?_ | refine post_thenP ?_ | refine post_blkP ?_ | refine post_thenR ?_ | refine post_blkN ?_ | refine post_blkE ?_ | refine post_blkF rfl ?_ | refine post_blkR ?_
      | refine seg_eval (by simp -dsimp -implicitDefEqProofs [spHasP, hp]; rfl) ?_
    all_goals first
      | omega
      | exact post_fin rfl rfl ⟨[], [], rfl, rfl, rfl, rfl⟩
      | trace_state
  · have e : trimP s p = s.extract p.size s.size := by unfold trimP; rw [if_pos hp]
    have hs := hasP_le hp
    rw [e]
    repeat' with_reducible first
      | refine wp_regionS (seg_eval (by simp -dsimp -implicitDefEqProofs [spHasP, hp, hs]; rfl) ?_)
      | refine wp_region (seg_eval (by simp -dsimp -implicitDefEqProofs [spHasP, hp, hs]; rfl) ?_)
      | refine wp_drawsS (seg_eval (by simp -dsimp -implicitDefEqProofs [spHasP, hp, hs]; rfl) ?_)
      | refine wp_draws (seg_eval (by simp -dsimp -implicitDefEqProofs [spHasP, hp, hs]; rfl) ?_)
      | refine seg_fin ?_
      | refine seg_pan ?_
      | refine seg_both ?_ ?_
      | refine seg_case (fun x h => ?_) (fun h => ?_)
      | refine seg_gate (fun h => ?_) (fun h => ?_)
      | refine seg_need ?_ ?_
      | refine wp_assoc ?_ | refine wp_skipS ?_ | refine wp_retS ?_ | refine wp_exitS ?_ | refine wp_dropS (wp_eqT (by simp -dsimp -implicitDefEqProofs; rfl) ?_) | refine wp_sealS (by simp -dsimp -implicitDefEqProofs; rfl) ?_ | refine wp_seal (by simp -dsimp -implicitDefEqProofs; rfl) ?_ | refine wp_pack_out ?_ | refine wp_blockS ?_ | refine wp_skip' ?_ | refine wp_ret' ?_ | refine wp_exit' ?_ | refine wp_drop (wp_eqT (by simp -dsimp -implicitDefEqProofs; rfl) ?_) | refine wp_block' ?_
      | refine wp_condVS (by simp -dsimp -implicitDefEqProofs; rfl) ?_
      | refine wp_condV (by simp -dsimp -implicitDefEqProofs; rfl) ?_
      | refine cond_t ?_ | refine cond_f ?_ | refine cond_v (fun h => ?_) (fun h => ?_)
      | refine post_then ?_ | refine post_thenE ?_ | refine post_thenP ?_ | refine post_blkP ?_ | refine post_thenR ?_ | refine post_blkN ?_ | refine post_blkE ?_ | refine post_blkF rfl ?_ | refine post_blkR ?_
      | refine seg_eval (by simp -dsimp -implicitDefEqProofs [spHasP, hp, hs]; rfl) ?_
    all_goals first
      | omega
      | exact post_fin rfl rfl ⟨[], [], rfl, rfl, rfl, rfl⟩
      | trace_state
theorem trimP_ok : CallOk Tryd.prog 29 spTrimP := by
  refine ok_29 (Env.put_ok [] (Env.none_ok _) trimP0_ok) spTrimP fun args mem r mem1 h => ?_
  unfold spTrimP at h
  split at h
  case h_2 => cases h
  rename_i s p
  cases h
  unfold ac_29
  repeat' with_reducible first
    | refine wp_regionS (seg_eval (by simp -dsimp -implicitDefEqProofs [spTrimP]; rfl) ?_)
    | refine wp_region (seg_eval (by simp -dsimp -implicitDefEqProofs [spTrimP]; rfl) ?_)
    | refine wp_drawsS (seg_eval (by simp -dsimp -implicitDefEqProofs [spTrimP]; rfl) ?_)
    | refine wp_draws (seg_eval (by simp -dsimp -implicitDefEqProofs [spTrimP]; rfl) ?_)
    | refine seg_fin ?_
    | refine seg_pan ?_
    | refine seg_both ?_ ?_
    | refine seg_case (fun x h => ?_) (fun h => ?_)
    | refine seg_gate (fun h => ?_) (fun h => ?_)
    | refine seg_need ?_ ?_
    | refine wp_assoc ?_ | refine wp_skipS ?_ | refine wp_retS ?_ | refine wp_exitS ?_ | refine wp_dropS (wp_eqT (by simp -dsimp -implicitDefEqProofs; rfl) ?_) | refine wp_sealS (by simp -dsimp -implicitDefEqProofs; rfl) ?_ | refine wp_seal (by simp -dsimp -implicitDefEqProofs; rfl) ?_ | refine wp_pack_out ?_ | refine wp_blockS ?_ | refine wp_skip' ?_ | refine wp_ret' ?_ | refine wp_exit' ?_ | refine wp_drop (wp_eqT (by simp -dsimp -implicitDefEqProofs; rfl) ?_) | refine wp_block' ?_
    | refine wp_condVS (by simp -dsimp -implicitDefEqProofs; rfl) ?_
    | refine wp_condV (by simp -dsimp -implicitDefEqProofs; rfl) ?_
    | refine cond_t ?_ | refine cond_f ?_ | refine cond_v (fun h => ?_) (fun h => ?_)
    | refine post_then ?_ | refine post_thenE ?_ | refine post_thenP ?_ | refine post_blkP ?_ | refine post_thenR ?_ | refine post_blkN ?_ | refine post_blkE ?_ | refine post_blkF rfl ?_ | refine post_blkR ?_
    | refine seg_eval (by simp -dsimp -implicitDefEqProofs [spTrimP]; rfl) ?_
  all_goals first
    | omega
    | exact post_fin rfl rfl ⟨[], [], rfl, rfl, rfl, rfl⟩
    | trace_state

/-! ### A change's text -/
def plusS : ByteArray := ⟨#[43]⟩
def minusS : ByteArray := ⟨#[45]⟩
def textV (a : Bool) (i : Nat) : ByteArray := (if a = true then plusS else minusS) ++ itoaS i
theorem itoa_size : ∀ i : Fin 256, (itoaS i.val).size ≤ 3 := by decide +kernel
def spText : Spec
  | [.agg [.v (.bool a), .v (.int .u8 i)]], [] => if 0 ≤ i ∧ i < 256 then some (.ret (.v (.string (textV a i.toNat))), []) else none
  | _, _ => none
theorem text_ok : CallOk Tryd.prog 16 spText := by
  refine ok_16 (Env.put_ok [] (Env.none_ok _) itoa_ok) spText fun args mem r mem1 h => ?_
  unfold spText at h
  split at h
  case h_2 => cases h
  rename_i a i
  obtain ⟨⟨h0, h1⟩, h4⟩ := if_some h
  cases h4
  obtain ⟨i, rfl⟩ := Int.eq_ofNat_of_zero_le h0
  clear h
  have hw : IntKind.wrap .i64 (i : Int) = (i : Int) := IntWalk.i64_in _ (by omega)
  have hz : 1 + (itoaS i).size ≤ 9223372036854775807 := by have := itoa_size ⟨i, by omega⟩; simp only at this; omega
  simp only [Int.toNat_natCast] at *
  unfold ac_16
  cases a
  · have e : textV false i = ⟨#[45]⟩ ++ itoaS i := rfl
    rw [e]
    repeat' with_reducible first
      | refine wp_regionS (seg_eval (by simp -dsimp -implicitDefEqProofs [spItoa, hw, h1, hz, Int.toNat_natCast]; rfl) ?_)
      | refine wp_region (seg_eval (by simp -dsimp -implicitDefEqProofs [spItoa, hw, h1, hz, Int.toNat_natCast]; rfl) ?_)
      | refine wp_drawsS (seg_eval (by simp -dsimp -implicitDefEqProofs [spItoa, hw, h1, hz, Int.toNat_natCast]; rfl) ?_)
      | refine wp_draws (seg_eval (by simp -dsimp -implicitDefEqProofs [spItoa, hw, h1, hz, Int.toNat_natCast]; rfl) ?_)
      | refine seg_fin ?_
      | refine seg_pan ?_
      | refine seg_both ?_ ?_
      | refine seg_case (fun x h => ?_) (fun h => ?_)
      | refine seg_gate (fun h => ?_) (fun h => ?_)
      | refine seg_need ?_ ?_
      | refine wp_assoc ?_ | refine wp_skipS ?_ | refine wp_retS ?_ | refine wp_exitS ?_ | refine wp_dropS (wp_eqT (by simp -dsimp -implicitDefEqProofs; rfl) ?_) | refine wp_sealS (by simp -dsimp -implicitDefEqProofs; rfl) ?_ | refine wp_seal (by simp -dsimp -implicitDefEqProofs; rfl) ?_ | refine wp_pack_out ?_ | refine wp_blockS ?_ | refine wp_skip' ?_ | refine wp_ret' ?_ | refine wp_exit' ?_ | refine wp_drop (wp_eqT (by simp -dsimp -implicitDefEqProofs; rfl) ?_) | refine wp_block' ?_
      | refine wp_condVS (by simp -dsimp -implicitDefEqProofs; rfl) ?_
      | refine wp_condV (by simp -dsimp -implicitDefEqProofs; rfl) ?_
      | refine cond_t ?_ | refine cond_f ?_ | refine cond_v (fun h => ?_) (fun h => ?_)
      | refine post_then ?_ | refine post_thenE ?_ | refine post_thenP ?_ | refine post_blkP ?_ | refine post_thenR ?_ | refine post_blkN ?_ | refine post_blkE ?_ | refine post_blkF rfl ?_ | refine post_blkR ?_
      | refine seg_eval (by simp -dsimp -implicitDefEqProofs [spItoa, hw, h1, hz, Int.toNat_natCast]; rfl) ?_
    all_goals first
      | exact hz
      | omega
      | exact post_fin rfl rfl ⟨[], [], rfl, rfl, rfl, rfl⟩
      | trace_state
  · have e : textV true i = ⟨#[43]⟩ ++ itoaS i := rfl
    rw [e]
    repeat' with_reducible first
      | refine wp_regionS (seg_eval (by simp -dsimp -implicitDefEqProofs [spItoa, hw, h1, hz, Int.toNat_natCast]; rfl) ?_)
      | refine wp_region (seg_eval (by simp -dsimp -implicitDefEqProofs [spItoa, hw, h1, hz, Int.toNat_natCast]; rfl) ?_)
      | refine wp_drawsS (seg_eval (by simp -dsimp -implicitDefEqProofs [spItoa, hw, h1, hz, Int.toNat_natCast]; rfl) ?_)
      | refine wp_draws (seg_eval (by simp -dsimp -implicitDefEqProofs [spItoa, hw, h1, hz, Int.toNat_natCast]; rfl) ?_)
      | refine seg_fin ?_
      | refine seg_pan ?_
      | refine seg_both ?_ ?_
      | refine seg_case (fun x h => ?_) (fun h => ?_)
      | refine seg_gate (fun h => ?_) (fun h => ?_)
      | refine seg_need ?_ ?_
      | refine wp_assoc ?_ | refine wp_skipS ?_ | refine wp_retS ?_ | refine wp_exitS ?_ | refine wp_dropS (wp_eqT (by simp -dsimp -implicitDefEqProofs; rfl) ?_) | refine wp_sealS (by simp -dsimp -implicitDefEqProofs; rfl) ?_ | refine wp_seal (by simp -dsimp -implicitDefEqProofs; rfl) ?_ | refine wp_pack_out ?_ | refine wp_blockS ?_ | refine wp_skip' ?_ | refine wp_ret' ?_ | refine wp_exit' ?_ | refine wp_drop (wp_eqT (by simp -dsimp -implicitDefEqProofs; rfl) ?_) | refine wp_block' ?_
      | refine wp_condVS (by simp -dsimp -implicitDefEqProofs; rfl) ?_
      | refine wp_condV (by simp -dsimp -implicitDefEqProofs; rfl) ?_
      | refine cond_t ?_ | refine cond_f ?_ | refine cond_v (fun h => ?_) (fun h => ?_)
      | refine post_then ?_ | refine post_thenE ?_ | refine post_thenP ?_ | refine post_blkP ?_ | refine post_thenR ?_ | refine post_blkN ?_ | refine post_blkE ?_ | refine post_blkF rfl ?_ | refine post_blkR ?_
      | refine seg_eval (by simp -dsimp -implicitDefEqProofs [spItoa, hw, h1, hz, Int.toNat_natCast]; rfl) ?_
    all_goals first
      | exact hz
      | omega
      | exact post_fin rfl rfl ⟨[], [], rfl, rfl, rfl, rfl⟩
      | trace_state
theorem textR_ok : CallOk Tryd.prog 17 spText := by
  refine ok_17 (Env.put_ok [] (Env.none_ok _) itoa_ok) spText fun args mem r mem1 h => ?_
  unfold spText at h
  split at h
  case h_2 => cases h
  rename_i a i
  obtain ⟨⟨h0, h1⟩, h4⟩ := if_some h
  cases h4
  obtain ⟨i, rfl⟩ := Int.eq_ofNat_of_zero_le h0
  clear h
  have hw : IntKind.wrap .i64 (i : Int) = (i : Int) := IntWalk.i64_in _ (by omega)
  have hz : 1 + (itoaS i).size ≤ 9223372036854775807 := by have := itoa_size ⟨i, by omega⟩; simp only at this; omega
  simp only [Int.toNat_natCast] at *
  unfold ac_17
  cases a
  · have e : textV false i = ⟨#[45]⟩ ++ itoaS i := rfl
    rw [e]
    repeat' with_reducible first
      | refine wp_regionS (seg_eval (by simp -dsimp -implicitDefEqProofs [spItoa, hw, h1, hz, Int.toNat_natCast]; rfl) ?_)
      | refine wp_region (seg_eval (by simp -dsimp -implicitDefEqProofs [spItoa, hw, h1, hz, Int.toNat_natCast]; rfl) ?_)
      | refine wp_drawsS (seg_eval (by simp -dsimp -implicitDefEqProofs [spItoa, hw, h1, hz, Int.toNat_natCast]; rfl) ?_)
      | refine wp_draws (seg_eval (by simp -dsimp -implicitDefEqProofs [spItoa, hw, h1, hz, Int.toNat_natCast]; rfl) ?_)
      | refine seg_fin ?_
      | refine seg_pan ?_
      | refine seg_both ?_ ?_
      | refine seg_case (fun x h => ?_) (fun h => ?_)
      | refine seg_gate (fun h => ?_) (fun h => ?_)
      | refine seg_need ?_ ?_
      | refine wp_assoc ?_ | refine wp_skipS ?_ | refine wp_retS ?_ | refine wp_exitS ?_ | refine wp_dropS (wp_eqT (by simp -dsimp -implicitDefEqProofs; rfl) ?_) | refine wp_sealS (by simp -dsimp -implicitDefEqProofs; rfl) ?_ | refine wp_seal (by simp -dsimp -implicitDefEqProofs; rfl) ?_ | refine wp_pack_out ?_ | refine wp_blockS ?_ | refine wp_skip' ?_ | refine wp_ret' ?_ | refine wp_exit' ?_ | refine wp_drop (wp_eqT (by simp -dsimp -implicitDefEqProofs; rfl) ?_) | refine wp_block' ?_
      | refine wp_condVS (by simp -dsimp -implicitDefEqProofs; rfl) ?_
      | refine wp_condV (by simp -dsimp -implicitDefEqProofs; rfl) ?_
      | refine cond_t ?_ | refine cond_f ?_ | refine cond_v (fun h => ?_) (fun h => ?_)
      | refine post_then ?_ | refine post_thenE ?_ | refine post_thenP ?_ | refine post_blkP ?_ | refine post_thenR ?_ | refine post_blkN ?_ | refine post_blkE ?_ | refine post_blkF rfl ?_ | refine post_blkR ?_
      | refine seg_eval (by simp -dsimp -implicitDefEqProofs [spItoa, hw, h1, hz, Int.toNat_natCast]; rfl) ?_
    all_goals first
      | exact hz
      | omega
      | exact post_fin rfl rfl ⟨[], [], rfl, rfl, rfl, rfl⟩
      | trace_state
  · have e : textV true i = ⟨#[43]⟩ ++ itoaS i := rfl
    rw [e]
    repeat' with_reducible first
      | refine wp_regionS (seg_eval (by simp -dsimp -implicitDefEqProofs [spItoa, hw, h1, hz, Int.toNat_natCast]; rfl) ?_)
      | refine wp_region (seg_eval (by simp -dsimp -implicitDefEqProofs [spItoa, hw, h1, hz, Int.toNat_natCast]; rfl) ?_)
      | refine wp_drawsS (seg_eval (by simp -dsimp -implicitDefEqProofs [spItoa, hw, h1, hz, Int.toNat_natCast]; rfl) ?_)
      | refine wp_draws (seg_eval (by simp -dsimp -implicitDefEqProofs [spItoa, hw, h1, hz, Int.toNat_natCast]; rfl) ?_)
      | refine seg_fin ?_
      | refine seg_pan ?_
      | refine seg_both ?_ ?_
      | refine seg_case (fun x h => ?_) (fun h => ?_)
      | refine seg_gate (fun h => ?_) (fun h => ?_)
      | refine seg_need ?_ ?_
      | refine wp_assoc ?_ | refine wp_skipS ?_ | refine wp_retS ?_ | refine wp_exitS ?_ | refine wp_dropS (wp_eqT (by simp -dsimp -implicitDefEqProofs; rfl) ?_) | refine wp_sealS (by simp -dsimp -implicitDefEqProofs; rfl) ?_ | refine wp_seal (by simp -dsimp -implicitDefEqProofs; rfl) ?_ | refine wp_pack_out ?_ | refine wp_blockS ?_ | refine wp_skip' ?_ | refine wp_ret' ?_ | refine wp_exit' ?_ | refine wp_drop (wp_eqT (by simp -dsimp -implicitDefEqProofs; rfl) ?_) | refine wp_block' ?_
      | refine wp_condVS (by simp -dsimp -implicitDefEqProofs; rfl) ?_
      | refine wp_condV (by simp -dsimp -implicitDefEqProofs; rfl) ?_
      | refine cond_t ?_ | refine cond_f ?_ | refine cond_v (fun h => ?_) (fun h => ?_)
      | refine post_then ?_ | refine post_thenE ?_ | refine post_thenP ?_ | refine post_blkP ?_ | refine post_thenR ?_ | refine post_blkN ?_ | refine post_blkE ?_ | refine post_blkF rfl ?_ | refine post_blkR ?_
      | refine seg_eval (by simp -dsimp -implicitDefEqProofs [spItoa, hw, h1, hz, Int.toNat_natCast]; rfl) ?_
    all_goals first
      | exact hz
      | omega
      | exact post_fin rfl rfl ⟨[], [], rfl, rfl, rfl, rfl⟩
      | trace_state
end Go.Proofs.YtjmgnodeohmboaaDoor.Am
