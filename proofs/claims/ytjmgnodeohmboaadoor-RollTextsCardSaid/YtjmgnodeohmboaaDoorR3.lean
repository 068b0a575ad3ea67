/-
  THE DOCUMENT's CHANGE OF A TEXT; the answers that the document fixes.
-/
import Derived.Test.YtjmgnodeohmboaaDoorR2
import Derived.Test.YtjmgnodeohmboaaDoorB2L
import Derived.Test.YtjmgnodeohmboaaDoorB2R
namespace Go.Proofs.YtjmgnodeohmboaaDoor.Am
set_option linter.unusedSimpArgs false
set_option linter.unusedVariables false
open Go Go.Proofs
attribute [local irreducible] wpA
attribute [-simp] splice

set_option maxHeartbeats 2000000 in
theorem parseR_ok : CallOk Tryd.prog 15 spParse := by
  refine ok_15 (Env.put_ok [] (Env.none_ok _) textR_ok) spParse fun args mem r mem1 h => ?_
  unfold spParse at h
  split at h
  case h_2 => cases h
  rename_i s
  obtain ⟨hs, h4⟩ := if_some h
  cases h4
  clear h
  unfold ac_15
  repeat' with_reducible first
    | refine wp_regionS (seg_eval (by simp -dsimp -implicitDefEqProofs; rfl) ?_)
    | refine wp_region (seg_eval (by simp -dsimp -implicitDefEqProofs; rfl) ?_)
    | refine wp_drawsS (seg_eval (by simp -dsimp -implicitDefEqProofs; rfl) ?_)
    | refine wp_draws (seg_eval (by simp -dsimp -implicitDefEqProofs; rfl) ?_)
    | refine seg_fin ?_
    | refine seg_pan ?_
    | refine seg_both ?_ ?_
    | refine seg_case (fun x h => ?_) (fun h => ?_)
    | refine seg_gate (fun h => ?_) (fun h => ?_)
    | refine seg_need ?_ ?_
    | refine wp_assoc ?_ | refine wp_skipS ?_ | refine wp_retS ?_ | refine wp_exitS ?_ | refine wp_dropS (wp_eqT (by simp -dsimp -implicitDefEqProofs; rfl) ?_) | refine wp_sealS (by simp -dsimp -implicitDefEqProofs; rfl) ?_ | refine wp_seal (by simp -dsimp -implicitDefEqProofs; rfl) ?_ | refine wp_pack_out ?_ | refine wp_blockS ?_ | refine wp_skip' ?_ | refine wp_ret' ?_ | refine wp_exit' ?_ | refine wp_drop (wp_eqT (by simp -dsimp -implicitDefEqProofs; rfl) ?_) | refine wp_block' ?_
    | refine wp_condVS (by simp -dsimp -implicitDefEqProofs; rfl) ?_
    | refine wp_condV (by simp -dsimp -implicitDefEqProofs; rfl) ?_
    | refine cond_t ?_ | refine cond_f ?_ | refine cond_v (fun h => ?_) (fun h => ?_)
    | refine post_then ?_ | refine post_thenE ?_ | refine post_thenP ?_ | refine post_blkP ?_ | refine post_thenR ?_ | refine post_blkN ?_ | refine post_blkE ?_ | refine post_blkF rfl ?_ | refine post_blkR ?_
    | refine seg_eval (by simp -dsimp -implicitDefEqProofs; rfl) ?_
  refine wp_loop' (fun j ts mm => ∃ i : Nat, i + j = 16 ∧ (∀ (k : Nat) (a : Bool), k < i → textV a k ≠ s) ∧ ts = [(0, .v (.string s)), (2, .ptr 0 0 0), (4, .v (.int .i64 i))] ∧ mm = [.var [.v (.bool false), .v (.int .u8 0)]]) 16 ?_ ?_
  · exact ⟨[], [0], rfl, rfl, 0, by omega, fun k a hk => by omega, by simp, by simp⟩
  · rintro j ts mm ⟨i, hi, hno, rfl, rfl⟩
    have h64 : IntKind.wrap .i64 ((i : Int) + 1) = ((i + 1 : Nat) : Int) := by rw [IntWalk.i64_in _ (by omega)]; rfl
    have h8 : IntKind.wrap .u8 (i : Int) = (i : Int) := IntWalk.u8_in _ (by omega)
    have hi2 : (i : Int) < 256 := by omega
    by_cases hlt : i < 16
    · have hd2 : decide (i < 16) = true := by simp [hlt]
      have hd3 : decide ((i : Int) < 16) = true := by rw [decide_eq_true_eq]; omega
      by_cases ht : textV true i = s
      · have e : parseV s = ((true, i), 0) := by unfold parseV; rw [← ht, (text_of hlt).2.2.2]
        have c1 : (textV true i == s) = true := by rw [ba_beq]; simp [ht]
        rw [e]
        repeat' with_reducible first
          | refine wp_regionS (seg_eval (by simp -dsimp -implicitDefEqProofs [-wrap_u8_cast, spText, hd2, hd3, h64, h8, hi2, c1, Int.toNat_natCast]; rfl) ?_)
          | refine wp_region (seg_eval (by simp -dsimp -implicitDefEqProofs [-wrap_u8_cast, spText, hd2, hd3, h64, h8, hi2, c1, Int.toNat_natCast]; rfl) ?_)
          | refine wp_drawsS (seg_eval (by simp -dsimp -implicitDefEqProofs [-wrap_u8_cast, spText, hd2, hd3, h64, h8, hi2, c1, Int.toNat_natCast]; rfl) ?_)
          | refine wp_draws (seg_eval (by simp -dsimp -implicitDefEqProofs [-wrap_u8_cast, spText, hd2, hd3, h64, h8, hi2, c1, Int.toNat_natCast]; rfl) ?_)
          | refine seg_fin ?_
          | refine seg_pan ?_
          | refine seg_both ?_ ?_
          | refine seg_case (fun x h => ?_) (fun h => ?_)
          | refine seg_gate (fun h => ?_) (fun h => ?_)
          | refine seg_need ?_ ?_
          | refine wp_assoc ?_ | refine wp_skipS ?_ | refine wp_retS ?_ | refine wp_exitS ?_ | refine wp_dropS (wp_eqT (by simp -dsimp -implicitDefEqProofs; rfl) ?_) | refine wp_sealS (by simp -dsimp -implicitDefEqProofs; rfl) ?_ | refine wp_seal (by simp -dsimp -implicitDefEqProofs; rfl) ?_ | refine wp_pack_out ?_ | refine wp_blockS ?_ | refine wp_skip' ?_ | refine wp_ret' ?_ | refine wp_exit' ?_ | refine wp_drop (wp_eqT (by simp -dsimp -implicitDefEqProofs; rfl) ?_) | refine wp_block' ?_
          | refine wp_condVS (by simp -dsimp -implicitDefEqProofs; rfl) ?_
          | refine wp_condV (by simp -dsimp -implicitDefEqProofs; rfl) ?_
          | refine cond_t ?_ | refine cond_f ?_ | refine cond_v (fun h => ?_) (fun h => ?_)
          | refine post_then ?_ | refine post_thenE ?_ | refine post_thenP ?_ | refine post_blkP ?_ | refine post_thenR ?_ | refine post_blkN ?_ | refine post_blkE ?_ | refine post_blkF rfl ?_ | refine post_blkR ?_
          | refine seg_eval (by simp -dsimp -implicitDefEqProofs [-wrap_u8_cast, spText, hd2, hd3, h64, h8, hi2, c1, Int.toNat_natCast]; rfl) ?_
        all_goals first
          | omega
          | exact post_fin rfl rfl ⟨[], [], rfl, rfl, rfl, rfl⟩
          | trace_state
      have c1 : (textV true i == s) = false := by rw [ba_beq]; simp [ht]
      by_cases hf : textV false i = s
      · have e : parseV s = ((false, i), 0) := by unfold parseV; rw [← hf, (text_of hlt).2.2.2]
        have c2 : (textV false i == s) = true := by rw [ba_beq]; simp [hf]
        rw [e]
        repeat' with_reducible first
          | refine wp_regionS (seg_eval (by simp -dsimp -implicitDefEqProofs [-wrap_u8_cast, spText, hd2, hd3, h64, h8, hi2, c1, c2, Int.toNat_natCast]; rfl) ?_)
          | refine wp_region (seg_eval (by simp -dsimp -implicitDefEqProofs [-wrap_u8_cast, spText, hd2, hd3, h64, h8, hi2, c1, c2, Int.toNat_natCast]; rfl) ?_)
          | refine wp_drawsS (seg_eval (by simp -dsimp -implicitDefEqProofs [-wrap_u8_cast, spText, hd2, hd3, h64, h8, hi2, c1, c2, Int.toNat_natCast]; rfl) ?_)
          | refine wp_draws (seg_eval (by simp -dsimp -implicitDefEqProofs [-wrap_u8_cast, spText, hd2, hd3, h64, h8, hi2, c1, c2, Int.toNat_natCast]; rfl) ?_)
          | refine seg_fin ?_
          | refine seg_pan ?_
          | refine seg_both ?_ ?_
          | refine seg_case (fun x h => ?_) (fun h => ?_)
          | refine seg_gate (fun h => ?_) (fun h => ?_)
          | refine seg_need ?_ ?_
          | refine wp_assoc ?_ | refine wp_skipS ?_ | refine wp_retS ?_ | refine wp_exitS ?_ | refine wp_dropS (wp_eqT (by simp -dsimp -implicitDefEqProofs; rfl) ?_) | refine wp_sealS (by simp -dsimp -implicitDefEqProofs; rfl) ?_ | refine wp_seal (by simp -dsimp -implicitDefEqProofs; rfl) ?_ | refine wp_pack_out ?_ | refine wp_blockS ?_ | refine wp_skip' ?_ | refine wp_ret' ?_ | refine wp_exit' ?_ | refine wp_drop (wp_eqT (by simp -dsimp -implicitDefEqProofs; rfl) ?_) | refine wp_block' ?_
          | refine wp_condVS (by simp -dsimp -implicitDefEqProofs; rfl) ?_
          | refine wp_condV (by simp -dsimp -implicitDefEqProofs; rfl) ?_
          | refine cond_t ?_ | refine cond_f ?_ | refine cond_v (fun h => ?_) (fun h => ?_)
          | refine post_then ?_ | refine post_thenE ?_ | refine post_thenP ?_ | refine post_blkP ?_ | refine post_thenR ?_ | refine post_blkN ?_ | refine post_blkE ?_ | refine post_blkF rfl ?_ | refine post_blkR ?_
          | refine seg_eval (by simp -dsimp -implicitDefEqProofs [-wrap_u8_cast, spText, hd2, hd3, h64, h8, hi2, c1, c2, Int.toNat_natCast]; rfl) ?_
        all_goals first
          | omega
          | exact post_fin rfl rfl ⟨[], [], rfl, rfl, rfl, rfl⟩
          | trace_state
      have c2 : (textV false i == s) = false := by rw [ba_beq]; simp [hf]
      have hno2 : ∀ (k : Nat) (a : Bool), k < i + 1 → textV a k ≠ s := fun k a hk => by
        by_cases hki : k = i
        · subst hki; cases a
          · exact hf
          · exact ht
        · exact hno k a (by omega)
      repeat' with_reducible first
        | refine wp_regionS (seg_eval (by simp -dsimp -implicitDefEqProofs [-wrap_u8_cast, spText, hd2, hd3, h64, h8, hi2, c1, c2, Int.toNat_natCast]; rfl) ?_)
        | refine wp_region (seg_eval (by simp -dsimp -implicitDefEqProofs [-wrap_u8_cast, spText, hd2, hd3, h64, h8, hi2, c1, c2, Int.toNat_natCast]; rfl) ?_)
        | refine wp_drawsS (seg_eval (by simp -dsimp -implicitDefEqProofs [-wrap_u8_cast, spText, hd2, hd3, h64, h8, hi2, c1, c2, Int.toNat_natCast]; rfl) ?_)
        | refine wp_draws (seg_eval (by simp -dsimp -implicitDefEqProofs [-wrap_u8_cast, spText, hd2, hd3, h64, h8, hi2, c1, c2, Int.toNat_natCast]; rfl) ?_)
        | refine seg_fin ?_
        | refine seg_pan ?_
        | refine seg_both ?_ ?_
        | refine seg_case (fun x h => ?_) (fun h => ?_)
        | refine seg_gate (fun h => ?_) (fun h => ?_)
        | refine seg_need ?_ ?_
        | refine wp_assoc ?_ | refine wp_skipS ?_ | refine wp_retS ?_ | refine wp_exitS ?_ | refine wp_dropS (wp_eqT (by simp -dsimp -implicitDefEqProofs; rfl) ?_) | refine wp_sealS (by simp -dsimp -implicitDefEqProofs; rfl) ?_ | refine wp_seal (by simp -dsimp -implicitDefEqProofs; rfl) ?_ | refine wp_pack_out ?_ | refine wp_blockS ?_ | refine wp_skip' ?_ | refine wp_ret' ?_ | refine wp_exit' ?_ | refine wp_drop (wp_eqT (by simp -dsimp -implicitDefEqProofs; rfl) ?_) | refine wp_block' ?_
        | refine wp_condVS (by simp -dsimp -implicitDefEqProofs; rfl) ?_
        | refine wp_condV (by simp -dsimp -implicitDefEqProofs; rfl) ?_
        | refine cond_t ?_ | refine cond_f ?_ | refine cond_v (fun h => ?_) (fun h => ?_)
        | refine post_then ?_ | refine post_thenE ?_ | refine post_thenP ?_ | refine post_blkP ?_ | refine post_thenR ?_ | refine post_blkN ?_ | refine post_blkE ?_ | refine post_blkF rfl ?_ | refine post_blkR ?_
        | refine seg_eval (by simp -dsimp -implicitDefEqProofs [-wrap_u8_cast, spText, hd2, hd3, h64, h8, hi2, c1, c2, Int.toNat_natCast]; rfl) ?_
      all_goals first
        | omega
        | exact ⟨j - 1, by omega, [], [0], rfl, rfl, i + 1, by omega, hno2, by simp, by simp⟩
        | trace_state
    · have hd2 : decide (i < 16) = false := by simp; omega
      have hd3 : decide ((i : Int) < 16) = false := by rw [decide_eq_false_iff_not]; omega
      have e : parseV s = ((false, 0), 4) := by
        unfold parseV
        cases hf : findT s with
        | none => rfl
        | some c => obtain ⟨h1, h2⟩ := find_some hf; exact absurd h2 (hno c.2 c.1 (by omega))
      rw [e]
      repeat' with_reducible first
        | refine wp_regionS (seg_eval (by simp -dsimp -implicitDefEqProofs [hd2, hd3]; rfl) ?_)
        | refine wp_region (seg_eval (by simp -dsimp -implicitDefEqProofs [hd2, hd3]; rfl) ?_)
        | refine wp_drawsS (seg_eval (by simp -dsimp -implicitDefEqProofs [hd2, hd3]; rfl) ?_)
        | refine wp_draws (seg_eval (by simp -dsimp -implicitDefEqProofs [hd2, hd3]; rfl) ?_)
        | refine seg_fin ?_
        | refine seg_pan ?_
        | refine seg_both ?_ ?_
        | refine seg_case (fun x h => ?_) (fun h => ?_)
        | refine seg_gate (fun h => ?_) (fun h => ?_)
        | refine seg_need ?_ ?_
        | refine wp_assoc ?_ | refine wp_skipS ?_ | refine wp_retS ?_ | refine wp_exitS ?_ | refine wp_dropS (wp_eqT (by simp -dsimp -implicitDefEqProofs; rfl) ?_) | refine wp_sealS (by simp -dsimp -implicitDefEqProofs; rfl) ?_ | refine wp_seal (by simp -dsimp -implicitDefEqProofs; rfl) ?_ | refine wp_pack_out ?_ | refine wp_blockS ?_ | refine wp_skip' ?_ | refine wp_ret' ?_ | refine wp_exit' ?_ | refine wp_drop (wp_eqT (by simp -dsimp -implicitDefEqProofs; rfl) ?_) | refine wp_block' ?_
        | refine wp_condVS (by simp -dsimp -implicitDefEqProofs; rfl) ?_
        | refine wp_condV (by simp -dsimp -implicitDefEqProofs; rfl) ?_
        | refine cond_t ?_ | refine cond_f ?_ | refine cond_v (fun h => ?_) (fun h => ?_)
        | refine post_then ?_ | refine post_thenE ?_ | refine post_thenP ?_ | refine post_blkP ?_ | refine post_thenR ?_ | refine post_blkN ?_ | refine post_blkE ?_ | refine post_blkF rfl ?_ | refine post_blkR ?_
        | refine seg_eval (by simp -dsimp -implicitDefEqProofs [hd2, hd3]; rfl) ?_
      all_goals first
        | omega
        | exact post_fin rfl rfl ⟨[], [], rfl, rfl, rfl, rfl⟩
        | trace_state

def spYes : Spec
  | [], [] => some (.ret (.v (.bool true)), [])
  | _, _ => none
theorem a15 : parseV ⟨#[45, 49, 53]⟩ = ((false, 15), 0) := by decide +kernel
theorem a03 : parseV ⟨#[43, 48, 51]⟩ = ((false, 0), 4) := by decide +kernel
theorem at15 : textV false 15 = ⟨#[45, 49, 53]⟩ := by decide +kernel
theorem a33 : applyV 0 3 true 3 = ((1, 11), 0) := by decide +kernel
theorem ar11 : rightV 1 11 = true := by decide +kernel
theorem as15 : (⟨#[45, 49, 53]⟩ : ByteArray).size ≤ 1000 := by decide
theorem as03 : (⟨#[43, 48, 51]⟩ : ByteArray).size ≤ 1000 := by decide
set_option maxHeartbeats 2000000 in
theorem alive_ok : CallOk Tryd.prog 9 spYes := by
  refine ok_9 (Env.put_ok [] (Env.put_ok [] (Env.put_ok [] (Env.put_ok [] (Env.none_ok _) apply_ok) parse_ok) text_ok) rollRight_ok) spYes fun args mem r mem1 h => ?_
  unfold spYes at h
  split at h
  case h_2 => cases h
  cases h
  unfold ac_9
  have c1 : ((⟨#[45, 49, 53]⟩ : ByteArray) == ⟨#[45, 49, 53]⟩) = true := by decide +kernel
  repeat' with_reducible first
    | refine wp_regionS (seg_eval (by simp -dsimp -implicitDefEqProofs [spApplyV, spParse, spText, spRightV, a15, a03, at15, a33, ar11, as15, as03, c1, Int.toNat_natCast]; rfl) ?_)
    | refine wp_region (seg_eval (by simp -dsimp -implicitDefEqProofs [spApplyV, spParse, spText, spRightV, a15, a03, at15, a33, ar11, as15, as03, c1, Int.toNat_natCast]; rfl) ?_)
    | refine wp_drawsS (seg_eval (by simp -dsimp -implicitDefEqProofs [spApplyV, spParse, spText, spRightV, a15, a03, at15, a33, ar11, as15, as03, c1, Int.toNat_natCast]; rfl) ?_)
    | refine wp_draws (seg_eval (by simp -dsimp -implicitDefEqProofs [spApplyV, spParse, spText, spRightV, a15, a03, at15, a33, ar11, as15, as03, c1, Int.toNat_natCast]; rfl) ?_)
    | refine seg_fin ?_
    | refine seg_pan ?_
    | refine seg_both ?_ ?_
    | refine seg_case (fun x h => ?_) (fun h => ?_)
    | refine seg_gate (fun h => ?_) (fun h => ?_)
    | refine seg_need ?_ ?_
    | refine wp_assoc ?_ | refine wp_skipS ?_ | refine wp_retS ?_ | refine wp_exitS ?_ | refine wp_dropS (wp_eqT (by simp -dsimp -implicitDefEqProofs; rfl) ?_) | refine wp_sealS (by simp -dsimp -implicitDefEqProofs; rfl) ?_ | refine wp_seal (by simp -dsimp -implicitDefEqProofs; rfl) ?_ | refine wp_pack_out ?_ | refine wp_blockS ?_ | refine wp_skip' ?_ | refine wp_ret' ?_ | refine wp_exit' ?_ | refine wp_drop (wp_eqT (by simp -dsimp -implicitDefEqProofs; rfl) ?_) | refine wp_block' ?_
    | refine wp_condVS (by simp -dsimp -implicitDefEqProofs; rfl) ?_
    | refine wp_condV (by simp -dsimp -implicitDefEqProofs; rfl) ?_
    | refine cond_t ?_ | refine cond_f ?_ | refine cond_v (fun h => ?_) (fun h => ?_)
    | refine post_then ?_ | refine post_thenE ?_ | refine post_thenP ?_ | refine post_blkP ?_ | refine post_thenR ?_ | refine post_blkN ?_ | refine post_blkE ?_ | refine post_blkF rfl ?_ | refine post_blkR ?_
    | refine seg_eval (by simp -dsimp -implicitDefEqProofs [spApplyV, spParse, spText, spRightV, a15, a03, at15, a33, ar11, as15, as03, c1, Int.toNat_natCast]; rfl) ?_
  all_goals first
    | omega
    | exact post_fin rfl rfl ⟨[], [], rfl, rfl, rfl, rfl⟩
    | trace_state
end Go.Proofs.YtjmgnodeohmboaaDoor.Am
