/-
  The law RollTexts, as a contract.
-/
import Derived.Test.YtjmgnodeohmboaaDoorR4
import Derived.Test.YtjmgnodeohmboaaDoorCodeT
namespace Go.Proofs.YtjmgnodeohmboaaDoor.Am
set_option linter.unusedSimpArgs false
set_option linter.unusedVariables false
open Go Go.Proofs
attribute [local irreducible] wpA
attribute [-simp] splice

def numT (a : Bool) (i : Nat) : Bool := match Lib.parseUintB 8 ((textV a i).extract 1 (textV a i).size).data.toList with
  | .ok u => u == i
  | _ => false
theorem num_facts : ∀ a : Bool, ∀ i : Fin 256, numT a i.val = true := by decide +kernel
theorem text_num {a b : Bool} {i k : Nat} (hi : i < 256) (hk : k < 256) (h : textV a i = textV b k) : i = k := by
  have h1 := num_facts a ⟨i, hi⟩
  have h2 := num_facts b ⟨k, hk⟩
  unfold numT at h1 h2
  simp only at h1 h2
  rw [h] at h1
  split at h1
  · rename_i u hu
    rw [hu] at h2
    simp only [beq_iff_eq] at h1 h2
    omega
  · cases h1
theorem parse_big {a : Bool} {i : Nat} (hi : i < 256) (h : 16 ≤ i) : parseV (textV a i) = ((false, 0), 4) := by
  unfold parseV
  cases hf : findT (textV a i) with
  | none => rfl
  | some c =>
    obtain ⟨h1, h2⟩ := find_some hf
    have := text_num (by omega) hi h2
    omega
theorem parse_text {a : Bool} {i : Nat} (h : i < 16) : parseV (textV a i) = ((a, i), 0) := by unfold parseV; rw [(text_of h).2.2.2]
theorem parse_cases (s : ByteArray) : (parseV s).1.2 < 16 ∧ ((parseV s).2 = 0 ∧ textV (parseV s).1.1 (parseV s).1.2 = s ∨ (parseV s).2 = 4) := by
  unfold parseV
  cases hf : findT s with
  | none => exact ⟨by simp, .inr rfl⟩
  | some c => obtain ⟨h1, h2⟩ := find_some hf; exact ⟨h1, .inl ⟨rfl, h2⟩⟩
theorem text_small {a : Bool} {i : Nat} (hi : i < 256) : (textV a i).size ≤ 1000 := by
  have := itoa_size ⟨i, hi⟩
  unfold textV
  rw [ByteArray.size_append]
  have h1 : (if a = true then plusS else minusS).size = 1 := by cases a <;> rfl
  rw [h1]
  simp only at this
  omega

def spTexts : Spec
  | [.agg [.v (.bool a), .v (.int .u8 i)], .v (.string _)], [] => if 0 ≤ i ∧ i < 256 then some (.ret (.v (.bool true)), []) else none
  | _, _ => none
set_option maxHeartbeats 8000000 in
theorem rollTexts_ok : CallOk Tryd.prog 4 spTexts := by
  refine ok_4 (Env.put_ok [] (Env.put_ok [] (Env.put_ok [] (Env.put_ok [] (Env.put_ok [] (Env.none_ok _) alive_ok) parse_ok) parseR_ok) text_ok) textR_ok) spTexts fun args mem r mem1 h => ?_
  unfold spTexts at h
  split at h
  case h_2 => cases h
  rename_i a i s
  obtain ⟨⟨h0, h1⟩, h4⟩ := if_some h
  cases h4
  obtain ⟨i, rfl⟩ := Int.eq_ofNat_of_zero_le h0
  clear h
  unfold ac_4
  by_cases hs : s.size ≤ 100
  · have c1 : decide ((100 : Int) < (s.size : Int)) = false := by rw [decide_eq_false_iff_not]; omega
    have c2 : decide (100 < s.size) = false := by simp; omega
    have hs2 : s.size ≤ 1000 := by omega
    obtain ⟨px, pc⟩ := parse_cases s
    have px2 : ((parseV s).1.2 : Int) < 256 := by omega
    have tt : (textV a i == textV a i) = true := by rw [ba_beq]; simp
    have ts := text_small (a := a) (i := i) (by omega)
    by_cases hi : i < 16
    · have hp := parse_text (a := a) hi
      have d1 : decide ((i : Int) < 16) = true := by rw [decide_eq_true_eq]; omega
      have d2 : decide (i < 16) = true := by simp [hi]
      rcases pc with ⟨pe, pt⟩ | pe
      · have p1 : (textV (parseV s).1.1 (parseV s).1.2 == s) = true := by rw [ba_beq]; simp [pt]
        repeat' with_reducible first
          | refine wp_regionS (seg_eval (by simp -dsimp -implicitDefEqProofs [spYes, spParse, spText, c1, c2, hs2, h1, px2, pe, tt, ts, hp, d1, d2, p1, Int.toNat_natCast]; rfl) ?_)
          | refine wp_region (seg_eval (by simp -dsimp -implicitDefEqProofs [spYes, spParse, spText, c1, c2, hs2, h1, px2, pe, tt, ts, hp, d1, d2, p1, Int.toNat_natCast]; rfl) ?_)
          | refine wp_drawsS (seg_eval (by simp -dsimp -implicitDefEqProofs [spYes, spParse, spText, c1, c2, hs2, h1, px2, pe, tt, ts, hp, d1, d2, p1, Int.toNat_natCast]; rfl) ?_)
          | refine wp_draws (seg_eval (by simp -dsimp -implicitDefEqProofs [spYes, spParse, spText, c1, c2, hs2, h1, px2, pe, tt, ts, hp, d1, d2, p1, Int.toNat_natCast]; rfl) ?_)
          | refine seg_fin ?_
          | refine seg_pan ?_
          | refine seg_both ?_ ?_
          | refine seg_case (fun x h => ?_) (fun h => ?_)
          | refine seg_gate (fun h => ?_) (fun h => ?_)
          | refine seg_need ?_ ?_
          | refine wp_assoc ?_ | refine wp_skipS ?_ | refine wp_retS ?_ | refine wp_exitS ?_ | refine wp_dropS (wp_eqT (by simp -dsimp -implicitDefEqProofs; rfl) ?_) | refine wp_sealS (by simp -dsimp -implicitDefEqProofs; rfl) ?_ | refine wp_seal (by simp -dsimp -implicitDefEqProofs; rfl) ?_ | refine wp_pack_out ?_ | refine wp_blockS ?_ | refine wp_skip' ?_ | refine wp_ret' ?_ | refine wp_exit' ?_ | refine wp_drop (wp_eqT (by simp -dsimp -implicitDefEqProofs; rfl) ?_) | refine wp_block' ?_
          | refine wp_condVS (by simp -dsimp -implicitDefEqProofs; rfl) ?_
          | refine wp_condV (by simp -dsimp -implicitDefEqProofs; rfl) ?_
          | refine cond_t ?_ | refine cond_f ?_ | refine cond_v (fun h => ?_) (fun h => ?_)
          | refine post_then ?_ | refine post_thenE ?_ | refine post_thenP ?_ | refine post_blkP ?_ | refine post_thenR ?_ | refine post_blkN ?_ | refine post_blkE ?_ | refine post_blkF rfl ?_ | refine post_blkR ?_
          | refine seg_eval (by simp -dsimp -implicitDefEqProofs [spYes, spParse, spText, c1, c2, hs2, h1, px2, pe, tt, ts, hp, d1, d2, p1, Int.toNat_natCast]; rfl) ?_
        all_goals first
          | omega
          | exact post_fin rfl rfl ⟨[], [], rfl, rfl, rfl, rfl⟩
          | trace_state
      · repeat' with_reducible first
          | refine wp_regionS (seg_eval (by simp -dsimp -implicitDefEqProofs [spYes, spParse, spText, c1, c2, hs2, h1, px2, pe, tt, ts, hp, d1, d2, Int.toNat_natCast]; rfl) ?_)
          | refine wp_region (seg_eval (by simp -dsimp -implicitDefEqProofs [spYes, spParse, spText, c1, c2, hs2, h1, px2, pe, tt, ts, hp, d1, d2, Int.toNat_natCast]; rfl) ?_)
          | refine wp_drawsS (seg_eval (by simp -dsimp -implicitDefEqProofs [spYes, spParse, spText, c1, c2, hs2, h1, px2, pe, tt, ts, hp, d1, d2, Int.toNat_natCast]; rfl) ?_)
          | refine wp_draws (seg_eval (by simp -dsimp -implicitDefEqProofs [spYes, spParse, spText, c1, c2, hs2, h1, px2, pe, tt, ts, hp, d1, d2, Int.toNat_natCast]; rfl) ?_)
          | refine seg_fin ?_
          | refine seg_pan ?_
          | refine seg_both ?_ ?_
          | refine seg_case (fun x h => ?_) (fun h => ?_)
          | refine seg_gate (fun h => ?_) (fun h => ?_)
          | refine seg_need ?_ ?_
          | refine wp_assoc ?_ | refine wp_skipS ?_ | refine wp_retS ?_ | refine wp_exitS ?_ | refine wp_dropS (wp_eqT (by simp -dsimp -implicitDefEqProofs; rfl) ?_) | refine wp_sealS (by simp -dsimp -implicitDefEqProofs; rfl) ?_ | refine wp_seal (by simp -dsimp -implicitDefEqProofs; rfl) ?_ | refine wp_pack_out ?_ | refine wp_blockS ?_ | refine wp_skip' ?_ | refine wp_ret' ?_ | refine wp_exit' ?_ | refine wp_drop (wp_eqT (by simp -dsimp -implicitDefEqProofs; rfl) ?_) | refine wp_block' ?_
          | refine wp_condVS (by simp -dsimp -implicitDefEqProofs; rfl) ?_
          | refine wp_condV (by simp -dsimp -implicitDefEqProofs; rfl) ?_
          | refine cond_t ?_ | refine cond_f ?_ | refine cond_v (fun h => ?_) (fun h => ?_)
          | refine post_then ?_ | refine post_thenE ?_ | refine post_thenP ?_ | refine post_blkP ?_ | refine post_thenR ?_ | refine post_blkN ?_ | refine post_blkE ?_ | refine post_blkF rfl ?_ | refine post_blkR ?_
          | refine seg_eval (by simp -dsimp -implicitDefEqProofs [spYes, spParse, spText, c1, c2, hs2, h1, px2, pe, tt, ts, hp, d1, d2, Int.toNat_natCast]; rfl) ?_
        all_goals first
          | omega
          | exact post_fin rfl rfl ⟨[], [], rfl, rfl, rfl, rfl⟩
          | trace_state
    · have hp := parse_big (a := a) (i := i) (by omega) (by omega)
      have d1 : decide ((i : Int) < 16) = false := by rw [decide_eq_false_iff_not]; omega
      have d2 : decide (i < 16) = false := by simp; omega
      rcases pc with ⟨pe, pt⟩ | pe
      · have p1 : (textV (parseV s).1.1 (parseV s).1.2 == s) = true := by rw [ba_beq]; simp [pt]
        repeat' with_reducible first
          | refine wp_regionS (seg_eval (by simp -dsimp -implicitDefEqProofs [spYes, spParse, spText, c1, c2, hs2, h1, px2, pe, tt, ts, hp, d1, d2, p1, Int.toNat_natCast]; rfl) ?_)
          | refine wp_region (seg_eval (by simp -dsimp -implicitDefEqProofs [spYes, spParse, spText, c1, c2, hs2, h1, px2, pe, tt, ts, hp, d1, d2, p1, Int.toNat_natCast]; rfl) ?_)
          | refine wp_drawsS (seg_eval (by simp -dsimp -implicitDefEqProofs [spYes, spParse, spText, c1, c2, hs2, h1, px2, pe, tt, ts, hp, d1, d2, p1, Int.toNat_natCast]; rfl) ?_)
          | refine wp_draws (seg_eval (by simp -dsimp -implicitDefEqProofs [spYes, spParse, spText, c1, c2, hs2, h1, px2, pe, tt, ts, hp, d1, d2, p1, Int.toNat_natCast]; rfl) ?_)
          | refine seg_fin ?_
          | refine seg_pan ?_
          | refine seg_both ?_ ?_
          | refine seg_case (fun x h => ?_) (fun h => ?_)
          | refine seg_gate (fun h => ?_) (fun h => ?_)
          | refine seg_need ?_ ?_
          | refine wp_assoc ?_ | refine wp_skipS ?_ | refine wp_retS ?_ | refine wp_exitS ?_ | refine wp_dropS (wp_eqT (by simp -dsimp -implicitDefEqProofs; rfl) ?_) | refine wp_sealS (by simp -dsimp -implicitDefEqProofs; rfl) ?_ | refine wp_seal (by simp -dsimp -implicitDefEqProofs; rfl) ?_ | refine wp_pack_out ?_ | refine wp_blockS ?_ | refine wp_skip' ?_ | refine wp_ret' ?_ | refine wp_exit' ?_ | refine wp_drop (wp_eqT (by simp -dsimp -implicitDefEqProofs; rfl) ?_) | refine wp_block' ?_
          | refine wp_condVS (by simp -dsimp -implicitDefEqProofs; rfl) ?_
          | refine wp_condV (by simp -dsimp -implicitDefEqProofs; rfl) ?_
          | refine cond_t ?_ | refine cond_f ?_ | refine cond_v (fun h => ?_) (fun h => ?_)
          | refine post_then ?_ | refine post_thenE ?_ | refine post_thenP ?_ | refine post_blkP ?_ | refine post_thenR ?_ | refine post_blkN ?_ | refine post_blkE ?_ | refine post_blkF rfl ?_ | refine post_blkR ?_
          | refine seg_eval (by simp -dsimp -implicitDefEqProofs [spYes, spParse, spText, c1, c2, hs2, h1, px2, pe, tt, ts, hp, d1, d2, p1, Int.toNat_natCast]; rfl) ?_
        all_goals first
          | omega
          | exact post_fin rfl rfl ⟨[], [], rfl, rfl, rfl, rfl⟩
          | trace_state
      · repeat' with_reducible first
          | refine wp_regionS (seg_eval (by simp -dsimp -implicitDefEqProofs [spYes, spParse, spText, c1, c2, hs2, h1, px2, pe, tt, ts, hp, d1, d2, Int.toNat_natCast]; rfl) ?_)
          | refine wp_region (seg_eval (by simp -dsimp -implicitDefEqProofs [spYes, spParse, spText, c1, c2, hs2, h1, px2, pe, tt, ts, hp, d1, d2, Int.toNat_natCast]; rfl) ?_)
          | refine wp_drawsS (seg_eval (by simp -dsimp -implicitDefEqProofs [spYes, spParse, spText, c1, c2, hs2, h1, px2, pe, tt, ts, hp, d1, d2, Int.toNat_natCast]; rfl) ?_)
          | refine wp_draws (seg_eval (by simp -dsimp -implicitDefEqProofs [spYes, spParse, spText, c1, c2, hs2, h1, px2, pe, tt, ts, hp, d1, d2, Int.toNat_natCast]; rfl) ?_)
          | refine seg_fin ?_
          | refine seg_pan ?_
          | refine seg_both ?_ ?_
          | refine seg_case (fun x h => ?_) (fun h => ?_)
          | refine seg_gate (fun h => ?_) (fun h => ?_)
          | refine seg_need ?_ ?_
          | refine wp_assoc ?_ | refine wp_skipS ?_ | refine wp_retS ?_ | refine wp_exitS ?_ | refine wp_dropS (wp_eqT (by simp -dsimp -implicitDefEqProofs; rfl) ?_) | refine wp_sealS (by simp -dsimp -implicitDefEqProofs; rfl) ?_ | refine wp_seal (by simp -dsimp -implicitDefEqProofs; rfl) ?_ | refine wp_pack_out ?_ | refine wp_blockS ?_ | refine wp_skip' ?_ | refine wp_ret' ?_ | refine wp_exit' ?_ | refine wp_drop (wp_eqT (by simp -dsimp -implicitDefEqProofs; rfl) ?_) | refine wp_block' ?_
          | refine wp_condVS (by simp -dsimp -implicitDefEqProofs; rfl) ?_
          | refine wp_condV (by simp -dsimp -implicitDefEqProofs; rfl) ?_
          | refine cond_t ?_ | refine cond_f ?_ | refine cond_v (fun h => ?_) (fun h => ?_)
          | refine post_then ?_ | refine post_thenE ?_ | refine post_thenP ?_ | refine post_blkP ?_ | refine post_thenR ?_ | refine post_blkN ?_ | refine post_blkE ?_ | refine post_blkF rfl ?_ | refine post_blkR ?_
          | refine seg_eval (by simp -dsimp -implicitDefEqProofs [spYes, spParse, spText, c1, c2, hs2, h1, px2, pe, tt, ts, hp, d1, d2, Int.toNat_natCast]; rfl) ?_
        all_goals first
          | omega
          | exact post_fin rfl rfl ⟨[], [], rfl, rfl, rfl, rfl⟩
          | trace_state
  · have c1 : decide ((100 : Int) < (s.size : Int)) = true := by rw [decide_eq_true_eq]; omega
    have c2 : decide (100 < s.size) = true := by simp; omega
    repeat' with_reducible first
      | refine wp_regionS (seg_eval (by simp -dsimp -implicitDefEqProofs [spYes, c1, c2]; rfl) ?_)
      | refine wp_region (seg_eval (by simp -dsimp -implicitDefEqProofs [spYes, c1, c2]; rfl) ?_)
      | refine wp_drawsS (seg_eval (by simp -dsimp -implicitDefEqProofs [spYes, c1, c2]; rfl) ?_)
      | refine wp_draws (seg_eval (by simp -dsimp -implicitDefEqProofs [spYes, c1, c2]; rfl) ?_)
      | refine seg_fin ?_
      | refine seg_pan ?_
      | refine seg_both ?_ ?_
      | refine seg_case (fun x h => ?_) (fun h => ?_)
      | refine seg_gate (fun h => ?_) (fun h => ?_)
      | refine seg_need ?_ ?_
      | refine wp_assoc ?_ | refine wp_skipS ?_ | refine wp_retS ?_ | refine wp_exitS ?_ | refine wp_dropS (wp_eqT (by simp -dsimp -implicitDefEqProofs; rfl) ?_) | refine wp_sealS (by simp -dsimp -implicitDefEqProofs; rfl) ?_ | refine wp_seal (by simp -dsimp -implicitDefEqProofs; rfl) ?_ | refine wp_pack_out ?_ | refine wp_blockS ?_ | refine wp_skip' ?_ | refine wp_ret' ?_ | refine wp_exit' ?_ | refine wp_drop (wp_eqT (by simp -dsimp -implicitDefEqProofs; rfl) ?_) | refine wp_block' ?_
      | refine wp_condVS (by simp -dsimp -implicitDefEqProofs; rfl) ?_
      | refine wp_condV (by simp -dsimp -implicitDefEqProofs; rfl) ?_
      | refine cond_t ?_ | refine cond_f ?_ | refine cond_v (fun h => ?_) (fun h => ?_)
      | refine post_then ?_ | refine post_thenE ?_ | refine post_thenP ?_ | refine post_blkP ?_ | refine post_thenR ?_ | refine post_blkN ?_ | refine post_blkE ?_ | refine post_blkF rfl ?_ | refine post_blkR ?_
      | refine seg_eval (by simp -dsimp -implicitDefEqProofs [spYes, c1, c2]; rfl) ?_
    all_goals first
      | omega
      | exact post_fin rfl rfl ⟨[], [], rfl, rfl, rfl, rfl⟩
      | trace_state
end Go.Proofs.YtjmgnodeohmboaaDoor.Am
