/-
  THE NEXT VIEW.
-/
import Derived.Test.YtbponegjfccgfaaB1
namespace Go.Proofs.Ytbponegjfccgfaa.Am
set_option linter.unusedSimpArgs false
set_option linter.unusedVariables false
open Go Go.Proofs
attribute [local irreducible] wpA
attribute [-simp] splice

theorem cnt_sub2 {a b : Nat} : ∀ k, (∀ i, i < k → hasS a i = true → hasS b i = true) → cntTo a k ≤ cntTo b k ∧ (cntTo b k ≤ cntTo a k → ∀ i, i < k → hasS a i = hasS b i)
  | 0, _ => ⟨by simp [cntTo], fun _ i hi => by omega⟩
  | k + 1, h => by
    obtain ⟨h1, h2⟩ := cnt_sub2 k fun i hi => h i (by omega)
    have hk := h k (by omega)
    simp only [cntTo]
    cases ha : hasS a k <;> cases hb : hasS b k
    · refine ⟨by simp; omega, fun hc i hi => ?_⟩
      simp only [Bool.false_eq_true, if_false] at hc
      by_cases e : i = k
      · subst e; rw [ha, hb]
      · exact h2 (by omega) i (by omega)
    · refine ⟨by simp; omega, fun hc i hi => ?_⟩
      simp at hc
      omega
    · exact absurd (hk ha) (by simp [hb])
    · refine ⟨by simp; omega, fun hc i hi => ?_⟩
      simp only [if_true] at hc
      by_cases e : i = k
      · subst e; rw [ha, hb]
      · exact h2 (by omega) i (by omega)
theorem has_bit (i j : Nat) : hasS (bitS i) j = (decide (i = j) && decide (i < 16)) := bit_has i j
theorem without_zero {m i : Nat} (hm : m < 65536) (h : hasS m i = true) : withoutS m i = 0 ↔ sizeS m = 1 := by
  have h16 := has_lt hm h
  have hsz : ∀ k : Fin 16, sizeS (bitS k.val) = 1 := by decide +kernel
  have hwo : ∀ k : Fin 16, withoutS (bitS k.val) k.val = 0 := by decide +kernel
  constructor
  · intro h0
    have : m = bitS i := set_ext hm (bitS_lt i) fun j _ => by
      have h1 := has_without hm i j
      rw [h0, has_zero] at h1
      rw [has_bit]
      by_cases e : i = j
      · subst e; simp [h, h16]
      · simp [e] at h1 ⊢; exact h1
    rw [this]; exact hsz ⟨i, h16⟩
  · intro h1
    have hs := hsz ⟨i, h16⟩
    simp only at hs
    rw [size_cnt] at hs h1
    have hsub : ∀ j, j < 16 → hasS (bitS i) j = true → hasS m j = true := fun j _ hj => by
      rw [has_bit] at hj
      simp at hj
      rw [← hj.1]; exact h
    have := (cnt_sub2 16 hsub).2 (by omega)
    have e := set_ext (bitS_lt i) hm this
    rw [← e]; exact hwo ⟨i, h16⟩
theorem with_nz {m i : Nat} (h : i < 16) : withS m i ≠ 0 := fun e => by
  have := has_with (m := m) i i
  rw [e, has_zero] at this
  simp [h] at this

def applyV (v : Int) (m : Nat) (a : Bool) (i : Nat) : (Int × Nat) × Int :=
  if rightV v m = false ∨ 16 ≤ i then ((0, 0), 2)
  else if (a && hasS m i) = true then ((0, 0), 9)
  else if (!a && !hasS m i) = true then ((0, 0), 8)
  else if v = 1000 then ((0, 0), 11)
  else if a = false ∧ sizeS m = 1 then ((0, 0), 10)
  else ((v + 1, if a = true then withS m i else withoutS m i), 0)
def spApplyV : Spec
  | [.agg [.v (.int .i64 v), .v (.int .u16 m)], .agg [.v (.bool a), .v (.int .u8 i)]], [] => if 0 ≤ m ∧ m < 65536 ∧ 0 ≤ i ∧ i < 256 then
      some (.ret (.tup [.agg [.v (.int .i64 (applyV v m.toNat a i.toNat).1.1), .v (.int .u16 ((applyV v m.toNat a i.toNat).1.2 : Nat))], .v (.int .i64 (applyV v m.toNat a i.toNat).2)]), []) else none
  | _, _ => none
theorem right_v {v : Int} {m : Nat} : rightV v m = true ↔ 0 ≤ v ∧ v ≤ 1000 ∧ m ≠ 0 := by simp [rightV]

set_option maxHeartbeats 8000000 in
theorem apply_ok : CallOk Try.prog 36 spApplyV := by
  refine ok_36 (Env.put_ok [] (Env.put_ok [] (Env.put_ok [] (Env.put_ok [] (Env.none_ok _) has_ok) rollRight_ok) with_ok) without_ok) spApplyV fun args mem r mem1 h => ?_
  unfold spApplyV at h
  split at h
  case h_2 => cases h
  rename_i v m a i
  obtain ⟨⟨h0, h1, h2, h3⟩, h4⟩ := if_some h
  cases h4
  obtain ⟨m, rfl⟩ := Int.eq_ofNat_of_zero_le h0
  obtain ⟨i, rfl⟩ := Int.eq_ofNat_of_zero_le h2
  simp only [Int.toNat_natCast] at h ⊢
  have hm : m < 65536 := by omega
  clear h
  unfold ac_36
  cases hr : rightV v m
  · have e : applyV v m a i = ((0, 0), 2) := by simp [applyV, hr]
    rw [e]
    repeat' first
        | with_reducible refine wp_regionS (seg_eval (by simp -dsimp -implicitDefEqProofs [spHas, spRightV, hr]; rfl) ?_)
        | with_reducible refine wp_region (seg_eval (by simp -dsimp -implicitDefEqProofs [spHas, spRightV, hr]; rfl) ?_)
        | with_reducible refine wp_drawsS (seg_eval (by simp -dsimp -implicitDefEqProofs [spHas, spRightV, hr]; rfl) ?_)
        | with_reducible refine wp_draws (seg_eval (by simp -dsimp -implicitDefEqProofs [spHas, spRightV, hr]; rfl) ?_)
        | with_reducible refine seg_fin ?_
        | with_reducible refine seg_pan ?_
        | with_reducible refine seg_both ?_ ?_
        | with_reducible refine seg_case (fun x h => ?_) (fun h => ?_)
        | with_reducible refine seg_gate (fun h => ?_) (fun h => ?_)
        | with_reducible refine seg_need ?_ ?_
        | with_reducible refine wp_assoc ?_ | with_reducible refine wp_skipS ?_ | with_reducible refine wp_retS ?_ | with_reducible refine wp_exitS ?_ | with_reducible refine wp_dropS (wp_eqT (by simp -dsimp -implicitDefEqProofs [spHas, spRightV, hr]; rfl) ?_) | with_reducible refine wp_sealS (by simp -dsimp -implicitDefEqProofs [spHas, spRightV, hr]; rfl) ?_ | with_reducible refine wp_seal (by simp -dsimp -implicitDefEqProofs [spHas, spRightV, hr]; rfl) ?_ | with_reducible refine wp_closeS (by simp -dsimp -implicitDefEqProofs [spHas, spRightV, hr]; rfl) ?_ | with_reducible refine wp_close (by simp -dsimp -implicitDefEqProofs [spHas, spRightV, hr]; rfl) ?_ | with_reducible refine wp_conc_out ?_ | with_reducible refine wp_open_out ?_ | with_reducible refine wp_pack_out ?_ | with_reducible refine wp_blockS ?_ | with_reducible refine wp_skip' ?_ | with_reducible refine wp_ret' ?_ | with_reducible refine wp_exit' ?_ | with_reducible refine wp_drop (wp_eqT (by simp -dsimp -implicitDefEqProofs [spHas, spRightV, hr]; rfl) ?_) | with_reducible refine wp_block' ?_
        | with_reducible refine wp_condVS (by simp -dsimp -implicitDefEqProofs [spHas, spRightV, hr]; rfl) ?_
        | with_reducible refine wp_condV (by simp -dsimp -implicitDefEqProofs [spHas, spRightV, hr]; rfl) ?_
        | with_reducible refine cond_t ?_ | with_reducible refine cond_f ?_ | with_reducible refine cond_v (fun h => ?_) (fun h => ?_)
        | with_reducible refine post_then ?_ | with_reducible refine post_thenE ?_ | with_reducible refine post_thenP ?_ | with_reducible refine post_blkP ?_ | with_reducible refine post_thenR ?_ | with_reducible refine post_blkN ?_ | with_reducible refine post_blkE ?_ | with_reducible refine post_blkF rfl ?_ | with_reducible refine post_blkR ?_
        | with_reducible refine seg_eval (by simp -dsimp -implicitDefEqProofs [spHas, spRightV, hr]; rfl) ?_
    all_goals first
      | omega
      | exact post_fin rfl rfl ⟨[], [], rfl, rfl, rfl, rfl⟩
      | trace_state
  obtain ⟨hv0, hv1, hm0⟩ := right_v.1 hr
  by_cases hi : 16 ≤ i
  · have e : applyV v m a i = ((0, 0), 2) := by simp [applyV, hi]
    have c1 : decide ((16 : Int) ≤ (i : Int)) = true := by rw [decide_eq_true_eq]; omega
    have c2 : decide (16 ≤ i) = true := by simp [hi]
    rw [e]
    repeat' first
        | with_reducible refine wp_regionS (seg_eval (by simp -dsimp -implicitDefEqProofs [spHas, spRightV, hr, c1, c2]; rfl) ?_)
        | with_reducible refine wp_region (seg_eval (by simp -dsimp -implicitDefEqProofs [spHas, spRightV, hr, c1, c2]; rfl) ?_)
        | with_reducible refine wp_drawsS (seg_eval (by simp -dsimp -implicitDefEqProofs [spHas, spRightV, hr, c1, c2]; rfl) ?_)
        | with_reducible refine wp_draws (seg_eval (by simp -dsimp -implicitDefEqProofs [spHas, spRightV, hr, c1, c2]; rfl) ?_)
        | with_reducible refine seg_fin ?_
        | with_reducible refine seg_pan ?_
        | with_reducible refine seg_both ?_ ?_
        | with_reducible refine seg_case (fun x h => ?_) (fun h => ?_)
        | with_reducible refine seg_gate (fun h => ?_) (fun h => ?_)
        | with_reducible refine seg_need ?_ ?_
        | with_reducible refine wp_assoc ?_ | with_reducible refine wp_skipS ?_ | with_reducible refine wp_retS ?_ | with_reducible refine wp_exitS ?_ | with_reducible refine wp_dropS (wp_eqT (by simp -dsimp -implicitDefEqProofs [spHas, spRightV, hr, c1, c2]; rfl) ?_) | with_reducible refine wp_sealS (by simp -dsimp -implicitDefEqProofs [spHas, spRightV, hr, c1, c2]; rfl) ?_ | with_reducible refine wp_seal (by simp -dsimp -implicitDefEqProofs [spHas, spRightV, hr, c1, c2]; rfl) ?_ | with_reducible refine wp_closeS (by simp -dsimp -implicitDefEqProofs [spHas, spRightV, hr, c1, c2]; rfl) ?_ | with_reducible refine wp_close (by simp -dsimp -implicitDefEqProofs [spHas, spRightV, hr, c1, c2]; rfl) ?_ | with_reducible refine wp_conc_out ?_ | with_reducible refine wp_open_out ?_ | with_reducible refine wp_pack_out ?_ | with_reducible refine wp_blockS ?_ | with_reducible refine wp_skip' ?_ | with_reducible refine wp_ret' ?_ | with_reducible refine wp_exit' ?_ | with_reducible refine wp_drop (wp_eqT (by simp -dsimp -implicitDefEqProofs [spHas, spRightV, hr, c1, c2]; rfl) ?_) | with_reducible refine wp_block' ?_
        | with_reducible refine wp_condVS (by simp -dsimp -implicitDefEqProofs [spHas, spRightV, hr, c1, c2]; rfl) ?_
        | with_reducible refine wp_condV (by simp -dsimp -implicitDefEqProofs [spHas, spRightV, hr, c1, c2]; rfl) ?_
        | with_reducible refine cond_t ?_ | with_reducible refine cond_f ?_ | with_reducible refine cond_v (fun h => ?_) (fun h => ?_)
        | with_reducible refine post_then ?_ | with_reducible refine post_thenE ?_ | with_reducible refine post_thenP ?_ | with_reducible refine post_blkP ?_ | with_reducible refine post_thenR ?_ | with_reducible refine post_blkN ?_ | with_reducible refine post_blkE ?_ | with_reducible refine post_blkF rfl ?_ | with_reducible refine post_blkR ?_
        | with_reducible refine seg_eval (by simp -dsimp -implicitDefEqProofs [spHas, spRightV, hr, c1, c2]; rfl) ?_
    all_goals first
      | omega
      | exact post_fin rfl rfl ⟨[], [], rfl, rfl, rfl, rfl⟩
      | trace_state
  have c1 : decide ((16 : Int) ≤ (i : Int)) = false := by rw [decide_eq_false_iff_not]; omega
  have c2 : decide (16 ≤ i) = false := by simp; omega
  have hni : ¬ (rightV v m = false ∨ 16 ≤ i) := by rw [hr]; simp; omega
  cases a <;> cases hh : hasS m i
  · have e : applyV v m false i = ((0, 0), 8) := by unfold applyV; rw [if_neg hni]; simp [hh]
    rw [e]
    repeat' first
        | with_reducible refine wp_regionS (seg_eval (by simp -dsimp -implicitDefEqProofs [spHas, spRightV, hr, c1, c2, hh]; rfl) ?_)
        | with_reducible refine wp_region (seg_eval (by simp -dsimp -implicitDefEqProofs [spHas, spRightV, hr, c1, c2, hh]; rfl) ?_)
        | with_reducible refine wp_drawsS (seg_eval (by simp -dsimp -implicitDefEqProofs [spHas, spRightV, hr, c1, c2, hh]; rfl) ?_)
        | with_reducible refine wp_draws (seg_eval (by simp -dsimp -implicitDefEqProofs [spHas, spRightV, hr, c1, c2, hh]; rfl) ?_)
        | with_reducible refine seg_fin ?_
        | with_reducible refine seg_pan ?_
        | with_reducible refine seg_both ?_ ?_
        | with_reducible refine seg_case (fun x h => ?_) (fun h => ?_)
        | with_reducible refine seg_gate (fun h => ?_) (fun h => ?_)
        | with_reducible refine seg_need ?_ ?_
        | with_reducible refine wp_assoc ?_ | with_reducible refine wp_skipS ?_ | with_reducible refine wp_retS ?_ | with_reducible refine wp_exitS ?_ | with_reducible refine wp_dropS (wp_eqT (by simp -dsimp -implicitDefEqProofs [spHas, spRightV, hr, c1, c2, hh]; rfl) ?_) | with_reducible refine wp_sealS (by simp -dsimp -implicitDefEqProofs [spHas, spRightV, hr, c1, c2, hh]; rfl) ?_ | with_reducible refine wp_seal (by simp -dsimp -implicitDefEqProofs [spHas, spRightV, hr, c1, c2, hh]; rfl) ?_ | with_reducible refine wp_closeS (by simp -dsimp -implicitDefEqProofs [spHas, spRightV, hr, c1, c2, hh]; rfl) ?_ | with_reducible refine wp_close (by simp -dsimp -implicitDefEqProofs [spHas, spRightV, hr, c1, c2, hh]; rfl) ?_ | with_reducible refine wp_conc_out ?_ | with_reducible refine wp_open_out ?_ | with_reducible refine wp_pack_out ?_ | with_reducible refine wp_blockS ?_ | with_reducible refine wp_skip' ?_ | with_reducible refine wp_ret' ?_ | with_reducible refine wp_exit' ?_ | with_reducible refine wp_drop (wp_eqT (by simp -dsimp -implicitDefEqProofs [spHas, spRightV, hr, c1, c2, hh]; rfl) ?_) | with_reducible refine wp_block' ?_
        | with_reducible refine wp_condVS (by simp -dsimp -implicitDefEqProofs [spHas, spRightV, hr, c1, c2, hh]; rfl) ?_
        | with_reducible refine wp_condV (by simp -dsimp -implicitDefEqProofs [spHas, spRightV, hr, c1, c2, hh]; rfl) ?_
        | with_reducible refine cond_t ?_ | with_reducible refine cond_f ?_ | with_reducible refine cond_v (fun h => ?_) (fun h => ?_)
        | with_reducible refine post_then ?_ | with_reducible refine post_thenE ?_ | with_reducible refine post_thenP ?_ | with_reducible refine post_blkP ?_ | with_reducible refine post_thenR ?_ | with_reducible refine post_blkN ?_ | with_reducible refine post_blkE ?_ | with_reducible refine post_blkF rfl ?_ | with_reducible refine post_blkR ?_
        | with_reducible refine seg_eval (by simp -dsimp -implicitDefEqProofs [spHas, spRightV, hr, c1, c2, hh]; rfl) ?_
    all_goals first
      | omega
      | exact post_fin rfl rfl ⟨[], [], rfl, rfl, rfl, rfl⟩
      | trace_state
  · by_cases hv : v = 1000
    · have e : applyV v m false i = ((0, 0), 11) := by unfold applyV; rw [if_neg hni]; simp [hh, hv]
      have c3 : (v == (1000 : Int)) = true := by simp [hv]
      rw [e]
      repeat' first
          | with_reducible refine wp_regionS (seg_eval (by simp -dsimp -implicitDefEqProofs [spHas, spRightV, hr, c1, c2, hh, c3]; rfl) ?_)
          | with_reducible refine wp_region (seg_eval (by simp -dsimp -implicitDefEqProofs [spHas, spRightV, hr, c1, c2, hh, c3]; rfl) ?_)
          | with_reducible refine wp_drawsS (seg_eval (by simp -dsimp -implicitDefEqProofs [spHas, spRightV, hr, c1, c2, hh, c3]; rfl) ?_)
          | with_reducible refine wp_draws (seg_eval (by simp -dsimp -implicitDefEqProofs [spHas, spRightV, hr, c1, c2, hh, c3]; rfl) ?_)
          | with_reducible refine seg_fin ?_
          | with_reducible refine seg_pan ?_
          | with_reducible refine seg_both ?_ ?_
          | with_reducible refine seg_case (fun x h => ?_) (fun h => ?_)
          | with_reducible refine seg_gate (fun h => ?_) (fun h => ?_)
          | with_reducible refine seg_need ?_ ?_
          | with_reducible refine wp_assoc ?_ | with_reducible refine wp_skipS ?_ | with_reducible refine wp_retS ?_ | with_reducible refine wp_exitS ?_ | with_reducible refine wp_dropS (wp_eqT (by simp -dsimp -implicitDefEqProofs [spHas, spRightV, hr, c1, c2, hh, c3]; rfl) ?_) | with_reducible refine wp_sealS (by simp -dsimp -implicitDefEqProofs [spHas, spRightV, hr, c1, c2, hh, c3]; rfl) ?_ | with_reducible refine wp_seal (by simp -dsimp -implicitDefEqProofs [spHas, spRightV, hr, c1, c2, hh, c3]; rfl) ?_ | with_reducible refine wp_closeS (by simp -dsimp -implicitDefEqProofs [spHas, spRightV, hr, c1, c2, hh, c3]; rfl) ?_ | with_reducible refine wp_close (by simp -dsimp -implicitDefEqProofs [spHas, spRightV, hr, c1, c2, hh, c3]; rfl) ?_ | with_reducible refine wp_conc_out ?_ | with_reducible refine wp_open_out ?_ | with_reducible refine wp_pack_out ?_ | with_reducible refine wp_blockS ?_ | with_reducible refine wp_skip' ?_ | with_reducible refine wp_ret' ?_ | with_reducible refine wp_exit' ?_ | with_reducible refine wp_drop (wp_eqT (by simp -dsimp -implicitDefEqProofs [spHas, spRightV, hr, c1, c2, hh, c3]; rfl) ?_) | with_reducible refine wp_block' ?_
          | with_reducible refine wp_condVS (by simp -dsimp -implicitDefEqProofs [spHas, spRightV, hr, c1, c2, hh, c3]; rfl) ?_
          | with_reducible refine wp_condV (by simp -dsimp -implicitDefEqProofs [spHas, spRightV, hr, c1, c2, hh, c3]; rfl) ?_
          | with_reducible refine cond_t ?_ | with_reducible refine cond_f ?_ | with_reducible refine cond_v (fun h => ?_) (fun h => ?_)
          | with_reducible refine post_then ?_ | with_reducible refine post_thenE ?_ | with_reducible refine post_thenP ?_ | with_reducible refine post_blkP ?_ | with_reducible refine post_thenR ?_ | with_reducible refine post_blkN ?_ | with_reducible refine post_blkE ?_ | with_reducible refine post_blkF rfl ?_ | with_reducible refine post_blkR ?_
          | with_reducible refine seg_eval (by simp -dsimp -implicitDefEqProofs [spHas, spRightV, hr, c1, c2, hh, c3]; rfl) ?_
      all_goals first
        | omega
        | exact post_fin rfl rfl ⟨[], [], rfl, rfl, rfl, rfl⟩
        | trace_state
    · have c3 : (v == (1000 : Int)) = false := by simp [hv]
      have c4 : IntKind.wrap .i64 (v + 1) = v + 1 := IntWalk.i64_in _ (by omega)
      have hw := withoutS_lt m i
      by_cases hz : sizeS m = 1
      · have e : applyV v m false i = ((0, 0), 10) := by unfold applyV; rw [if_neg hni]; simp [hh, hv, hz]
        have e0 := (without_zero hm hh).2 hz
        rw [e]
        repeat' first
            | with_reducible refine wp_regionS (seg_eval (by simp -dsimp -implicitDefEqProofs [spHas, spRightV, spWithout, hr, c1, c2, hh, c3, c4, e0]; rfl) ?_)
            | with_reducible refine wp_region (seg_eval (by simp -dsimp -implicitDefEqProofs [spHas, spRightV, spWithout, hr, c1, c2, hh, c3, c4, e0]; rfl) ?_)
            | with_reducible refine wp_drawsS (seg_eval (by simp -dsimp -implicitDefEqProofs [spHas, spRightV, spWithout, hr, c1, c2, hh, c3, c4, e0]; rfl) ?_)
            | with_reducible refine wp_draws (seg_eval (by simp -dsimp -implicitDefEqProofs [spHas, spRightV, spWithout, hr, c1, c2, hh, c3, c4, e0]; rfl) ?_)
            | with_reducible refine seg_fin ?_
            | with_reducible refine seg_pan ?_
            | with_reducible refine seg_both ?_ ?_
            | with_reducible refine seg_case (fun x h => ?_) (fun h => ?_)
            | with_reducible refine seg_gate (fun h => ?_) (fun h => ?_)
            | with_reducible refine seg_need ?_ ?_
            | with_reducible refine wp_assoc ?_ | with_reducible refine wp_skipS ?_ | with_reducible refine wp_retS ?_ | with_reducible refine wp_exitS ?_ | with_reducible refine wp_dropS (wp_eqT (by simp -dsimp -implicitDefEqProofs [spHas, spRightV, spWithout, hr, c1, c2, hh, c3, c4, e0]; rfl) ?_) | with_reducible refine wp_sealS (by simp -dsimp -implicitDefEqProofs [spHas, spRightV, spWithout, hr, c1, c2, hh, c3, c4, e0]; rfl) ?_ | with_reducible refine wp_seal (by simp -dsimp -implicitDefEqProofs [spHas, spRightV, spWithout, hr, c1, c2, hh, c3, c4, e0]; rfl) ?_ | with_reducible refine wp_closeS (by simp -dsimp -implicitDefEqProofs [spHas, spRightV, spWithout, hr, c1, c2, hh, c3, c4, e0]; rfl) ?_ | with_reducible refine wp_close (by simp -dsimp -implicitDefEqProofs [spHas, spRightV, spWithout, hr, c1, c2, hh, c3, c4, e0]; rfl) ?_ | with_reducible refine wp_conc_out ?_ | with_reducible refine wp_open_out ?_ | with_reducible refine wp_pack_out ?_ | with_reducible refine wp_blockS ?_ | with_reducible refine wp_skip' ?_ | with_reducible refine wp_ret' ?_ | with_reducible refine wp_exit' ?_ | with_reducible refine wp_drop (wp_eqT (by simp -dsimp -implicitDefEqProofs [spHas, spRightV, spWithout, hr, c1, c2, hh, c3, c4, e0]; rfl) ?_) | with_reducible refine wp_block' ?_
            | with_reducible refine wp_condVS (by simp -dsimp -implicitDefEqProofs [spHas, spRightV, spWithout, hr, c1, c2, hh, c3, c4, e0]; rfl) ?_
            | with_reducible refine wp_condV (by simp -dsimp -implicitDefEqProofs [spHas, spRightV, spWithout, hr, c1, c2, hh, c3, c4, e0]; rfl) ?_
            | with_reducible refine cond_t ?_ | with_reducible refine cond_f ?_ | with_reducible refine cond_v (fun h => ?_) (fun h => ?_)
            | with_reducible refine post_then ?_ | with_reducible refine post_thenE ?_ | with_reducible refine post_thenP ?_ | with_reducible refine post_blkP ?_ | with_reducible refine post_thenR ?_ | with_reducible refine post_blkN ?_ | with_reducible refine post_blkE ?_ | with_reducible refine post_blkF rfl ?_ | with_reducible refine post_blkR ?_
            | with_reducible refine seg_eval (by simp -dsimp -implicitDefEqProofs [spHas, spRightV, spWithout, hr, c1, c2, hh, c3, c4, e0]; rfl) ?_
        all_goals first
          | omega
          | exact post_fin rfl rfl ⟨[], [], rfl, rfl, rfl, rfl⟩
          | trace_state
      · have e : applyV v m false i = ((v + 1, withoutS m i), 0) := by unfold applyV; rw [if_neg hni]; simp [hh, hv, hz]
        have e0 : ¬ withoutS m i = 0 := fun h => hz ((without_zero hm hh).1 h)
        have e1 : (((withoutS m i : Nat) : Int) == 0) = false := by simp; omega
        rw [e]
        repeat' first
            | with_reducible refine wp_regionS (seg_eval (by simp -dsimp -implicitDefEqProofs [spHas, spRightV, spWithout, hr, c1, c2, hh, c3, c4, e0, e1]; rfl) ?_)
            | with_reducible refine wp_region (seg_eval (by simp -dsimp -implicitDefEqProofs [spHas, spRightV, spWithout, hr, c1, c2, hh, c3, c4, e0, e1]; rfl) ?_)
            | with_reducible refine wp_drawsS (seg_eval (by simp -dsimp -implicitDefEqProofs [spHas, spRightV, spWithout, hr, c1, c2, hh, c3, c4, e0, e1]; rfl) ?_)
            | with_reducible refine wp_draws (seg_eval (by simp -dsimp -implicitDefEqProofs [spHas, spRightV, spWithout, hr, c1, c2, hh, c3, c4, e0, e1]; rfl) ?_)
            | with_reducible refine seg_fin ?_
            | with_reducible refine seg_pan ?_
            | with_reducible refine seg_both ?_ ?_
            | with_reducible refine seg_case (fun x h => ?_) (fun h => ?_)
            | with_reducible refine seg_gate (fun h => ?_) (fun h => ?_)
            | with_reducible refine seg_need ?_ ?_
            | with_reducible refine wp_assoc ?_ | with_reducible refine wp_skipS ?_ | with_reducible refine wp_retS ?_ | with_reducible refine wp_exitS ?_ | with_reducible refine wp_dropS (wp_eqT (by simp -dsimp -implicitDefEqProofs [spHas, spRightV, spWithout, hr, c1, c2, hh, c3, c4, e0, e1]; rfl) ?_) | with_reducible refine wp_sealS (by simp -dsimp -implicitDefEqProofs [spHas, spRightV, spWithout, hr, c1, c2, hh, c3, c4, e0, e1]; rfl) ?_ | with_reducible refine wp_seal (by simp -dsimp -implicitDefEqProofs [spHas, spRightV, spWithout, hr, c1, c2, hh, c3, c4, e0, e1]; rfl) ?_ | with_reducible refine wp_closeS (by simp -dsimp -implicitDefEqProofs [spHas, spRightV, spWithout, hr, c1, c2, hh, c3, c4, e0, e1]; rfl) ?_ | with_reducible refine wp_close (by simp -dsimp -implicitDefEqProofs [spHas, spRightV, spWithout, hr, c1, c2, hh, c3, c4, e0, e1]; rfl) ?_ | with_reducible refine wp_conc_out ?_ | with_reducible refine wp_open_out ?_ | with_reducible refine wp_pack_out ?_ | with_reducible refine wp_blockS ?_ | with_reducible refine wp_skip' ?_ | with_reducible refine wp_ret' ?_ | with_reducible refine wp_exit' ?_ | with_reducible refine wp_drop (wp_eqT (by simp -dsimp -implicitDefEqProofs [spHas, spRightV, spWithout, hr, c1, c2, hh, c3, c4, e0, e1]; rfl) ?_) | with_reducible refine wp_block' ?_
            | with_reducible refine wp_condVS (by simp -dsimp -implicitDefEqProofs [spHas, spRightV, spWithout, hr, c1, c2, hh, c3, c4, e0, e1]; rfl) ?_
            | with_reducible refine wp_condV (by simp -dsimp -implicitDefEqProofs [spHas, spRightV, spWithout, hr, c1, c2, hh, c3, c4, e0, e1]; rfl) ?_
            | with_reducible refine cond_t ?_ | with_reducible refine cond_f ?_ | with_reducible refine cond_v (fun h => ?_) (fun h => ?_)
            | with_reducible refine post_then ?_ | with_reducible refine post_thenE ?_ | with_reducible refine post_thenP ?_ | with_reducible refine post_blkP ?_ | with_reducible refine post_thenR ?_ | with_reducible refine post_blkN ?_ | with_reducible refine post_blkE ?_ | with_reducible refine post_blkF rfl ?_ | with_reducible refine post_blkR ?_
            | with_reducible refine seg_eval (by simp -dsimp -implicitDefEqProofs [spHas, spRightV, spWithout, hr, c1, c2, hh, c3, c4, e0, e1]; rfl) ?_
        all_goals first
          | omega
          | exact post_fin rfl rfl ⟨[], [], rfl, rfl, rfl, rfl⟩
          | trace_state
  · by_cases hv : v = 1000
    · have e : applyV v m true i = ((0, 0), 11) := by unfold applyV; rw [if_neg hni]; simp [hh, hv]
      have c3 : (v == (1000 : Int)) = true := by simp [hv]
      rw [e]
      repeat' first
          | with_reducible refine wp_regionS (seg_eval (by simp -dsimp -implicitDefEqProofs [spHas, spRightV, hr, c1, c2, hh, c3]; rfl) ?_)
          | with_reducible refine wp_region (seg_eval (by simp -dsimp -implicitDefEqProofs [spHas, spRightV, hr, c1, c2, hh, c3]; rfl) ?_)
          | with_reducible refine wp_drawsS (seg_eval (by simp -dsimp -implicitDefEqProofs [spHas, spRightV, hr, c1, c2, hh, c3]; rfl) ?_)
          | with_reducible refine wp_draws (seg_eval (by simp -dsimp -implicitDefEqProofs [spHas, spRightV, hr, c1, c2, hh, c3]; rfl) ?_)
          | with_reducible refine seg_fin ?_
          | with_reducible refine seg_pan ?_
          | with_reducible refine seg_both ?_ ?_
          | with_reducible refine seg_case (fun x h => ?_) (fun h => ?_)
          | with_reducible refine seg_gate (fun h => ?_) (fun h => ?_)
          | with_reducible refine seg_need ?_ ?_
          | with_reducible refine wp_assoc ?_ | with_reducible refine wp_skipS ?_ | with_reducible refine wp_retS ?_ | with_reducible refine wp_exitS ?_ | with_reducible refine wp_dropS (wp_eqT (by simp -dsimp -implicitDefEqProofs [spHas, spRightV, hr, c1, c2, hh, c3]; rfl) ?_) | with_reducible refine wp_sealS (by simp -dsimp -implicitDefEqProofs [spHas, spRightV, hr, c1, c2, hh, c3]; rfl) ?_ | with_reducible refine wp_seal (by simp -dsimp -implicitDefEqProofs [spHas, spRightV, hr, c1, c2, hh, c3]; rfl) ?_ | with_reducible refine wp_closeS (by simp -dsimp -implicitDefEqProofs [spHas, spRightV, hr, c1, c2, hh, c3]; rfl) ?_ | with_reducible refine wp_close (by simp -dsimp -implicitDefEqProofs [spHas, spRightV, hr, c1, c2, hh, c3]; rfl) ?_ | with_reducible refine wp_conc_out ?_ | with_reducible refine wp_open_out ?_ | with_reducible refine wp_pack_out ?_ | with_reducible refine wp_blockS ?_ | with_reducible refine wp_skip' ?_ | with_reducible refine wp_ret' ?_ | with_reducible refine wp_exit' ?_ | with_reducible refine wp_drop (wp_eqT (by simp -dsimp -implicitDefEqProofs [spHas, spRightV, hr, c1, c2, hh, c3]; rfl) ?_) | with_reducible refine wp_block' ?_
          | with_reducible refine wp_condVS (by simp -dsimp -implicitDefEqProofs [spHas, spRightV, hr, c1, c2, hh, c3]; rfl) ?_
          | with_reducible refine wp_condV (by simp -dsimp -implicitDefEqProofs [spHas, spRightV, hr, c1, c2, hh, c3]; rfl) ?_
          | with_reducible refine cond_t ?_ | with_reducible refine cond_f ?_ | with_reducible refine cond_v (fun h => ?_) (fun h => ?_)
          | with_reducible refine post_then ?_ | with_reducible refine post_thenE ?_ | with_reducible refine post_thenP ?_ | with_reducible refine post_blkP ?_ | with_reducible refine post_thenR ?_ | with_reducible refine post_blkN ?_ | with_reducible refine post_blkE ?_ | with_reducible refine post_blkF rfl ?_ | with_reducible refine post_blkR ?_
          | with_reducible refine seg_eval (by simp -dsimp -implicitDefEqProofs [spHas, spRightV, hr, c1, c2, hh, c3]; rfl) ?_
      all_goals first
        | omega
        | exact post_fin rfl rfl ⟨[], [], rfl, rfl, rfl, rfl⟩
        | trace_state
    · have c3 : (v == (1000 : Int)) = false := by simp [hv]
      have c4 : IntKind.wrap .i64 (v + 1) = v + 1 := IntWalk.i64_in _ (by omega)
      have e : applyV v m true i = ((v + 1, withS m i), 0) := by unfold applyV; rw [if_neg hni]; simp [hh, hv]
      have e0 : ¬ withS m i = 0 := with_nz (by omega)
      have e1 : (((withS m i : Nat) : Int) == 0) = false := by simp; omega
      rw [e]
      repeat' first
          | with_reducible refine wp_regionS (seg_eval (by simp -dsimp -implicitDefEqProofs [spHas, spRightV, spWithout, spWith, hr, c1, c2, hh, c3, c4, e0, e1]; rfl) ?_)
          | with_reducible refine wp_region (seg_eval (by simp -dsimp -implicitDefEqProofs [spHas, spRightV, spWithout, spWith, hr, c1, c2, hh, c3, c4, e0, e1]; rfl) ?_)
          | with_reducible refine wp_drawsS (seg_eval (by simp -dsimp -implicitDefEqProofs [spHas, spRightV, spWithout, spWith, hr, c1, c2, hh, c3, c4, e0, e1]; rfl) ?_)
          | with_reducible refine wp_draws (seg_eval (by simp -dsimp -implicitDefEqProofs [spHas, spRightV, spWithout, spWith, hr, c1, c2, hh, c3, c4, e0, e1]; rfl) ?_)
          | with_reducible refine seg_fin ?_
          | with_reducible refine seg_pan ?_
          | with_reducible refine seg_both ?_ ?_
          | with_reducible refine seg_case (fun x h => ?_) (fun h => ?_)
          | with_reducible refine seg_gate (fun h => ?_) (fun h => ?_)
          | with_reducible refine seg_need ?_ ?_
          | with_reducible refine wp_assoc ?_ | with_reducible refine wp_skipS ?_ | with_reducible refine wp_retS ?_ | with_reducible refine wp_exitS ?_ | with_reducible refine wp_dropS (wp_eqT (by simp -dsimp -implicitDefEqProofs [spHas, spRightV, spWithout, spWith, hr, c1, c2, hh, c3, c4, e0, e1]; rfl) ?_) | with_reducible refine wp_sealS (by simp -dsimp -implicitDefEqProofs [spHas, spRightV, spWithout, spWith, hr, c1, c2, hh, c3, c4, e0, e1]; rfl) ?_ | with_reducible refine wp_seal (by simp -dsimp -implicitDefEqProofs [spHas, spRightV, spWithout, spWith, hr, c1, c2, hh, c3, c4, e0, e1]; rfl) ?_ | with_reducible refine wp_closeS (by simp -dsimp -implicitDefEqProofs [spHas, spRightV, spWithout, spWith, hr, c1, c2, hh, c3, c4, e0, e1]; rfl) ?_ | with_reducible refine wp_close (by simp -dsimp -implicitDefEqProofs [spHas, spRightV, spWithout, spWith, hr, c1, c2, hh, c3, c4, e0, e1]; rfl) ?_ | with_reducible refine wp_conc_out ?_ | with_reducible refine wp_open_out ?_ | with_reducible refine wp_pack_out ?_ | with_reducible refine wp_blockS ?_ | with_reducible refine wp_skip' ?_ | with_reducible refine wp_ret' ?_ | with_reducible refine wp_exit' ?_ | with_reducible refine wp_drop (wp_eqT (by simp -dsimp -implicitDefEqProofs [spHas, spRightV, spWithout, spWith, hr, c1, c2, hh, c3, c4, e0, e1]; rfl) ?_) | with_reducible refine wp_block' ?_
          | with_reducible refine wp_condVS (by simp -dsimp -implicitDefEqProofs [spHas, spRightV, spWithout, spWith, hr, c1, c2, hh, c3, c4, e0, e1]; rfl) ?_
          | with_reducible refine wp_condV (by simp -dsimp -implicitDefEqProofs [spHas, spRightV, spWithout, spWith, hr, c1, c2, hh, c3, c4, e0, e1]; rfl) ?_
          | with_reducible refine cond_t ?_ | with_reducible refine cond_f ?_ | with_reducible refine cond_v (fun h => ?_) (fun h => ?_)
          | with_reducible refine post_then ?_ | with_reducible refine post_thenE ?_ | with_reducible refine post_thenP ?_ | with_reducible refine post_blkP ?_ | with_reducible refine post_thenR ?_ | with_reducible refine post_blkN ?_ | with_reducible refine post_blkE ?_ | with_reducible refine post_blkF rfl ?_ | with_reducible refine post_blkR ?_
          | with_reducible refine seg_eval (by simp -dsimp -implicitDefEqProofs [spHas, spRightV, spWithout, spWith, hr, c1, c2, hh, c3, c4, e0, e1]; rfl) ?_
      all_goals first
        | omega
        | exact post_fin rfl rfl ⟨[], [], rfl, rfl, rfl, rfl⟩
        | trace_state
  · have e : applyV v m true i = ((0, 0), 9) := by unfold applyV; rw [if_neg hni]; simp [hh]
    rw [e]
    repeat' first
        | with_reducible refine wp_regionS (seg_eval (by simp -dsimp -implicitDefEqProofs [spHas, spRightV, hr, c1, c2, hh]; rfl) ?_)
        | with_reducible refine wp_region (seg_eval (by simp -dsimp -implicitDefEqProofs [spHas, spRightV, hr, c1, c2, hh]; rfl) ?_)
        | with_reducible refine wp_drawsS (seg_eval (by simp -dsimp -implicitDefEqProofs [spHas, spRightV, hr, c1, c2, hh]; rfl) ?_)
        | with_reducible refine wp_draws (seg_eval (by simp -dsimp -implicitDefEqProofs [spHas, spRightV, hr, c1, c2, hh]; rfl) ?_)
        | with_reducible refine seg_fin ?_
        | with_reducible refine seg_pan ?_
        | with_reducible refine seg_both ?_ ?_
        | with_reducible refine seg_case (fun x h => ?_) (fun h => ?_)
        | with_reducible refine seg_gate (fun h => ?_) (fun h => ?_)
        | with_reducible refine seg_need ?_ ?_
        | with_reducible refine wp_assoc ?_ | with_reducible refine wp_skipS ?_ | with_reducible refine wp_retS ?_ | with_reducible refine wp_exitS ?_ | with_reducible refine wp_dropS (wp_eqT (by simp -dsimp -implicitDefEqProofs [spHas, spRightV, hr, c1, c2, hh]; rfl) ?_) | with_reducible refine wp_sealS (by simp -dsimp -implicitDefEqProofs [spHas, spRightV, hr, c1, c2, hh]; rfl) ?_ | with_reducible refine wp_seal (by simp -dsimp -implicitDefEqProofs [spHas, spRightV, hr, c1, c2, hh]; rfl) ?_ | with_reducible refine wp_closeS (by simp -dsimp -implicitDefEqProofs [spHas, spRightV, hr, c1, c2, hh]; rfl) ?_ | with_reducible refine wp_close (by simp -dsimp -implicitDefEqProofs [spHas, spRightV, hr, c1, c2, hh]; rfl) ?_ | with_reducible refine wp_conc_out ?_ | with_reducible refine wp_open_out ?_ | with_reducible refine wp_pack_out ?_ | with_reducible refine wp_blockS ?_ | with_reducible refine wp_skip' ?_ | with_reducible refine wp_ret' ?_ | with_reducible refine wp_exit' ?_ | with_reducible refine wp_drop (wp_eqT (by simp -dsimp -implicitDefEqProofs [spHas, spRightV, hr, c1, c2, hh]; rfl) ?_) | with_reducible refine wp_block' ?_
        | with_reducible refine wp_condVS (by simp -dsimp -implicitDefEqProofs [spHas, spRightV, hr, c1, c2, hh]; rfl) ?_
        | with_reducible refine wp_condV (by simp -dsimp -implicitDefEqProofs [spHas, spRightV, hr, c1, c2, hh]; rfl) ?_
        | with_reducible refine cond_t ?_ | with_reducible refine cond_f ?_ | with_reducible refine cond_v (fun h => ?_) (fun h => ?_)
        | with_reducible refine post_then ?_ | with_reducible refine post_thenE ?_ | with_reducible refine post_thenP ?_ | with_reducible refine post_blkP ?_ | with_reducible refine post_thenR ?_ | with_reducible refine post_blkN ?_ | with_reducible refine post_blkE ?_ | with_reducible refine post_blkF rfl ?_ | with_reducible refine post_blkR ?_
        | with_reducible refine seg_eval (by simp -dsimp -implicitDefEqProofs [spHas, spRightV, hr, c1, c2, hh]; rfl) ?_
    all_goals first
      | omega
      | exact post_fin rfl rfl ⟨[], [], rfl, rfl, rfl, rfl⟩
      | trace_state
set_option maxHeartbeats 8000000 in
theorem applyR_ok : CallOk Try.prog 58 spApplyV := by
  refine ok_58 (Env.put_ok [] (Env.put_ok [] (Env.put_ok [] (Env.put_ok [] (Env.put_ok [] (Env.none_ok _) hasR_ok) rollRightR_ok) withR_ok) withoutR_ok) sizeR_ok) spApplyV fun args mem r mem1 h => ?_
  unfold spApplyV at h
  split at h
  case h_2 => cases h
  rename_i v m a i
  obtain ⟨⟨h0, h1, h2, h3⟩, h4⟩ := if_some h
  cases h4
  obtain ⟨m, rfl⟩ := Int.eq_ofNat_of_zero_le h0
  obtain ⟨i, rfl⟩ := Int.eq_ofNat_of_zero_le h2
  simp only [Int.toNat_natCast] at h ⊢
  have hm : m < 65536 := by omega
  clear h
  unfold ac_58
  cases hr : rightV v m
  · have e : applyV v m a i = ((0, 0), 2) := by simp [applyV, hr]
    rw [e]
    repeat' first
        | with_reducible refine wp_regionS (seg_eval (by simp -dsimp -implicitDefEqProofs [spHas, spRightV, hr]; rfl) ?_)
        | with_reducible refine wp_region (seg_eval (by simp -dsimp -implicitDefEqProofs [spHas, spRightV, hr]; rfl) ?_)
        | with_reducible refine wp_drawsS (seg_eval (by simp -dsimp -implicitDefEqProofs [spHas, spRightV, hr]; rfl) ?_)
        | with_reducible refine wp_draws (seg_eval (by simp -dsimp -implicitDefEqProofs [spHas, spRightV, hr]; rfl) ?_)
        | with_reducible refine seg_fin ?_
        | with_reducible refine seg_pan ?_
        | with_reducible refine seg_both ?_ ?_
        | with_reducible refine seg_case (fun x h => ?_) (fun h => ?_)
        | with_reducible refine seg_gate (fun h => ?_) (fun h => ?_)
        | with_reducible refine seg_need ?_ ?_
        | with_reducible refine wp_assoc ?_ | with_reducible refine wp_skipS ?_ | with_reducible refine wp_retS ?_ | with_reducible refine wp_exitS ?_ | with_reducible refine wp_dropS (wp_eqT (by simp -dsimp -implicitDefEqProofs [spHas, spRightV, hr]; rfl) ?_) | with_reducible refine wp_sealS (by simp -dsimp -implicitDefEqProofs [spHas, spRightV, hr]; rfl) ?_ | with_reducible refine wp_seal (by simp -dsimp -implicitDefEqProofs [spHas, spRightV, hr]; rfl) ?_ | with_reducible refine wp_closeS (by simp -dsimp -implicitDefEqProofs [spHas, spRightV, hr]; rfl) ?_ | with_reducible refine wp_close (by simp -dsimp -implicitDefEqProofs [spHas, spRightV, hr]; rfl) ?_ | with_reducible refine wp_conc_out ?_ | with_reducible refine wp_open_out ?_ | with_reducible refine wp_pack_out ?_ | with_reducible refine wp_blockS ?_ | with_reducible refine wp_skip' ?_ | with_reducible refine wp_ret' ?_ | with_reducible refine wp_exit' ?_ | with_reducible refine wp_drop (wp_eqT (by simp -dsimp -implicitDefEqProofs [spHas, spRightV, hr]; rfl) ?_) | with_reducible refine wp_block' ?_
        | with_reducible refine wp_condVS (by simp -dsimp -implicitDefEqProofs [spHas, spRightV, hr]; rfl) ?_
        | with_reducible refine wp_condV (by simp -dsimp -implicitDefEqProofs [spHas, spRightV, hr]; rfl) ?_
        | with_reducible refine cond_t ?_ | with_reducible refine cond_f ?_ | with_reducible refine cond_v (fun h => ?_) (fun h => ?_)
        | with_reducible refine post_then ?_ | with_reducible refine post_thenE ?_ | with_reducible refine post_thenP ?_ | with_reducible refine post_blkP ?_ | with_reducible refine post_thenR ?_ | with_reducible refine post_blkN ?_ | with_reducible refine post_blkE ?_ | with_reducible refine post_blkF rfl ?_ | with_reducible refine post_blkR ?_
        | with_reducible refine seg_eval (by simp -dsimp -implicitDefEqProofs [spHas, spRightV, hr]; rfl) ?_
    all_goals first
      | omega
      | exact post_fin rfl rfl ⟨[], [], rfl, rfl, rfl, rfl⟩
      | trace_state
  obtain ⟨hv0, hv1, hm0⟩ := right_v.1 hr
  by_cases hi : 16 ≤ i
  · have e : applyV v m a i = ((0, 0), 2) := by simp [applyV, hi]
    have c1 : decide ((15 : Int) < (i : Int)) = true := by rw [decide_eq_true_eq]; omega
    have c2 : decide (15 < i) = true := by simp; omega
    rw [e]
    repeat' first
        | with_reducible refine wp_regionS (seg_eval (by simp -dsimp -implicitDefEqProofs [spHas, spRightV, hr, c1, c2]; rfl) ?_)
        | with_reducible refine wp_region (seg_eval (by simp -dsimp -implicitDefEqProofs [spHas, spRightV, hr, c1, c2]; rfl) ?_)
        | with_reducible refine wp_drawsS (seg_eval (by simp -dsimp -implicitDefEqProofs [spHas, spRightV, hr, c1, c2]; rfl) ?_)
        | with_reducible refine wp_draws (seg_eval (by simp -dsimp -implicitDefEqProofs [spHas, spRightV, hr, c1, c2]; rfl) ?_)
        | with_reducible refine seg_fin ?_
        | with_reducible refine seg_pan ?_
        | with_reducible refine seg_both ?_ ?_
        | with_reducible refine seg_case (fun x h => ?_) (fun h => ?_)
        | with_reducible refine seg_gate (fun h => ?_) (fun h => ?_)
        | with_reducible refine seg_need ?_ ?_
        | with_reducible refine wp_assoc ?_ | with_reducible refine wp_skipS ?_ | with_reducible refine wp_retS ?_ | with_reducible refine wp_exitS ?_ | with_reducible refine wp_dropS (wp_eqT (by simp -dsimp -implicitDefEqProofs [spHas, spRightV, hr, c1, c2]; rfl) ?_) | with_reducible refine wp_sealS (by simp -dsimp -implicitDefEqProofs [spHas, spRightV, hr, c1, c2]; rfl) ?_ | with_reducible refine wp_seal (by simp -dsimp -implicitDefEqProofs [spHas, spRightV, hr, c1, c2]; rfl) ?_ | with_reducible refine wp_closeS (by simp -dsimp -implicitDefEqProofs [spHas, spRightV, hr, c1, c2]; rfl) ?_ | with_reducible refine wp_close (by simp -dsimp -implicitDefEqProofs [spHas, spRightV, hr, c1, c2]; rfl) ?_ | with_reducible refine wp_conc_out ?_ | with_reducible refine wp_open_out ?_ | with_reducible refine wp_pack_out ?_ | with_reducible refine wp_blockS ?_ | with_reducible refine wp_skip' ?_ | with_reducible refine wp_ret' ?_ | with_reducible refine wp_exit' ?_ | with_reducible refine wp_drop (wp_eqT (by simp -dsimp -implicitDefEqProofs [spHas, spRightV, hr, c1, c2]; rfl) ?_) | with_reducible refine wp_block' ?_
        | with_reducible refine wp_condVS (by simp -dsimp -implicitDefEqProofs [spHas, spRightV, hr, c1, c2]; rfl) ?_
        | with_reducible refine wp_condV (by simp -dsimp -implicitDefEqProofs [spHas, spRightV, hr, c1, c2]; rfl) ?_
        | with_reducible refine cond_t ?_ | with_reducible refine cond_f ?_ | with_reducible refine cond_v (fun h => ?_) (fun h => ?_)
        | with_reducible refine post_then ?_ | with_reducible refine post_thenE ?_ | with_reducible refine post_thenP ?_ | with_reducible refine post_blkP ?_ | with_reducible refine post_thenR ?_ | with_reducible refine post_blkN ?_ | with_reducible refine post_blkE ?_ | with_reducible refine post_blkF rfl ?_ | with_reducible refine post_blkR ?_
        | with_reducible refine seg_eval (by simp -dsimp -implicitDefEqProofs [spHas, spRightV, hr, c1, c2]; rfl) ?_
    all_goals first
      | omega
      | exact post_fin rfl rfl ⟨[], [], rfl, rfl, rfl, rfl⟩
      | trace_state
  have c1 : decide ((15 : Int) < (i : Int)) = false := by rw [decide_eq_false_iff_not]; omega
  have c2 : decide (15 < i) = false := by simp; omega
  have hni : ¬ (rightV v m = false ∨ 16 ≤ i) := by rw [hr]; simp; omega
  cases a <;> cases hh : hasS m i
  · have e : applyV v m false i = ((0, 0), 8) := by unfold applyV; rw [if_neg hni]; simp [hh]
    rw [e]
    repeat' first
        | with_reducible refine wp_regionS (seg_eval (by simp -dsimp -implicitDefEqProofs [spHas, spRightV, hr, c1, c2, hh]; rfl) ?_)
        | with_reducible refine wp_region (seg_eval (by simp -dsimp -implicitDefEqProofs [spHas, spRightV, hr, c1, c2, hh]; rfl) ?_)
        | with_reducible refine wp_drawsS (seg_eval (by simp -dsimp -implicitDefEqProofs [spHas, spRightV, hr, c1, c2, hh]; rfl) ?_)
        | with_reducible refine wp_draws (seg_eval (by simp -dsimp -implicitDefEqProofs [spHas, spRightV, hr, c1, c2, hh]; rfl) ?_)
        | with_reducible refine seg_fin ?_
        | with_reducible refine seg_pan ?_
        | with_reducible refine seg_both ?_ ?_
        | with_reducible refine seg_case (fun x h => ?_) (fun h => ?_)
        | with_reducible refine seg_gate (fun h => ?_) (fun h => ?_)
        | with_reducible refine seg_need ?_ ?_
        | with_reducible refine wp_assoc ?_ | with_reducible refine wp_skipS ?_ | with_reducible refine wp_retS ?_ | with_reducible refine wp_exitS ?_ | with_reducible refine wp_dropS (wp_eqT (by simp -dsimp -implicitDefEqProofs [spHas, spRightV, hr, c1, c2, hh]; rfl) ?_) | with_reducible refine wp_sealS (by simp -dsimp -implicitDefEqProofs [spHas, spRightV, hr, c1, c2, hh]; rfl) ?_ | with_reducible refine wp_seal (by simp -dsimp -implicitDefEqProofs [spHas, spRightV, hr, c1, c2, hh]; rfl) ?_ | with_reducible refine wp_closeS (by simp -dsimp -implicitDefEqProofs [spHas, spRightV, hr, c1, c2, hh]; rfl) ?_ | with_reducible refine wp_close (by simp -dsimp -implicitDefEqProofs [spHas, spRightV, hr, c1, c2, hh]; rfl) ?_ | with_reducible refine wp_conc_out ?_ | with_reducible refine wp_open_out ?_ | with_reducible refine wp_pack_out ?_ | with_reducible refine wp_blockS ?_ | with_reducible refine wp_skip' ?_ | with_reducible refine wp_ret' ?_ | with_reducible refine wp_exit' ?_ | with_reducible refine wp_drop (wp_eqT (by simp -dsimp -implicitDefEqProofs [spHas, spRightV, hr, c1, c2, hh]; rfl) ?_) | with_reducible refine wp_block' ?_
        | with_reducible refine wp_condVS (by simp -dsimp -implicitDefEqProofs [spHas, spRightV, hr, c1, c2, hh]; rfl) ?_
        | with_reducible refine wp_condV (by simp -dsimp -implicitDefEqProofs [spHas, spRightV, hr, c1, c2, hh]; rfl) ?_
        | with_reducible refine cond_t ?_ | with_reducible refine cond_f ?_ | with_reducible refine cond_v (fun h => ?_) (fun h => ?_)
        | with_reducible refine post_then ?_ | with_reducible refine post_thenE ?_ | with_reducible refine post_thenP ?_ | with_reducible refine post_blkP ?_ | with_reducible refine post_thenR ?_ | with_reducible refine post_blkN ?_ | with_reducible refine post_blkE ?_ | with_reducible refine post_blkF rfl ?_ | with_reducible refine post_blkR ?_
        | with_reducible refine seg_eval (by simp -dsimp -implicitDefEqProofs [spHas, spRightV, hr, c1, c2, hh]; rfl) ?_
    all_goals first
      | omega
      | exact post_fin rfl rfl ⟨[], [], rfl, rfl, rfl, rfl⟩
      | trace_state
  · by_cases hv : v = 1000
    · have e : applyV v m false i = ((0, 0), 11) := by unfold applyV; rw [if_neg hni]; simp [hh, hv]
      have c3 : (v == (1000 : Int)) = true := by simp [hv]
      rw [e]
      repeat' first
          | with_reducible refine wp_regionS (seg_eval (by simp -dsimp -implicitDefEqProofs [spHas, spRightV, hr, c1, c2, hh, c3]; rfl) ?_)
          | with_reducible refine wp_region (seg_eval (by simp -dsimp -implicitDefEqProofs [spHas, spRightV, hr, c1, c2, hh, c3]; rfl) ?_)
          | with_reducible refine wp_drawsS (seg_eval (by simp -dsimp -implicitDefEqProofs [spHas, spRightV, hr, c1, c2, hh, c3]; rfl) ?_)
          | with_reducible refine wp_draws (seg_eval (by simp -dsimp -implicitDefEqProofs [spHas, spRightV, hr, c1, c2, hh, c3]; rfl) ?_)
          | with_reducible refine seg_fin ?_
          | with_reducible refine seg_pan ?_
          | with_reducible refine seg_both ?_ ?_
          | with_reducible refine seg_case (fun x h => ?_) (fun h => ?_)
          | with_reducible refine seg_gate (fun h => ?_) (fun h => ?_)
          | with_reducible refine seg_need ?_ ?_
          | with_reducible refine wp_assoc ?_ | with_reducible refine wp_skipS ?_ | with_reducible refine wp_retS ?_ | with_reducible refine wp_exitS ?_ | with_reducible refine wp_dropS (wp_eqT (by simp -dsimp -implicitDefEqProofs [spHas, spRightV, hr, c1, c2, hh, c3]; rfl) ?_) | with_reducible refine wp_sealS (by simp -dsimp -implicitDefEqProofs [spHas, spRightV, hr, c1, c2, hh, c3]; rfl) ?_ | with_reducible refine wp_seal (by simp -dsimp -implicitDefEqProofs [spHas, spRightV, hr, c1, c2, hh, c3]; rfl) ?_ | with_reducible refine wp_closeS (by simp -dsimp -implicitDefEqProofs [spHas, spRightV, hr, c1, c2, hh, c3]; rfl) ?_ | with_reducible refine wp_close (by simp -dsimp -implicitDefEqProofs [spHas, spRightV, hr, c1, c2, hh, c3]; rfl) ?_ | with_reducible refine wp_conc_out ?_ | with_reducible refine wp_open_out ?_ | with_reducible refine wp_pack_out ?_ | with_reducible refine wp_blockS ?_ | with_reducible refine wp_skip' ?_ | with_reducible refine wp_ret' ?_ | with_reducible refine wp_exit' ?_ | with_reducible refine wp_drop (wp_eqT (by simp -dsimp -implicitDefEqProofs [spHas, spRightV, hr, c1, c2, hh, c3]; rfl) ?_) | with_reducible refine wp_block' ?_
          | with_reducible refine wp_condVS (by simp -dsimp -implicitDefEqProofs [spHas, spRightV, hr, c1, c2, hh, c3]; rfl) ?_
          | with_reducible refine wp_condV (by simp -dsimp -implicitDefEqProofs [spHas, spRightV, hr, c1, c2, hh, c3]; rfl) ?_
          | with_reducible refine cond_t ?_ | with_reducible refine cond_f ?_ | with_reducible refine cond_v (fun h => ?_) (fun h => ?_)
          | with_reducible refine post_then ?_ | with_reducible refine post_thenE ?_ | with_reducible refine post_thenP ?_ | with_reducible refine post_blkP ?_ | with_reducible refine post_thenR ?_ | with_reducible refine post_blkN ?_ | with_reducible refine post_blkE ?_ | with_reducible refine post_blkF rfl ?_ | with_reducible refine post_blkR ?_
          | with_reducible refine seg_eval (by simp -dsimp -implicitDefEqProofs [spHas, spRightV, hr, c1, c2, hh, c3]; rfl) ?_
      all_goals first
        | omega
        | exact post_fin rfl rfl ⟨[], [], rfl, rfl, rfl, rfl⟩
        | trace_state
    · have c3 : (v == (1000 : Int)) = false := by simp [hv]
      have c4 : IntKind.wrap .i64 (v + 1) = v + 1 := IntWalk.i64_in _ (by omega)
      by_cases hz : sizeS m = 1
      · have e : applyV v m false i = ((0, 0), 10) := by unfold applyV; rw [if_neg hni]; simp [hh, hv, hz]
        rw [e]
        repeat' first
            | with_reducible refine wp_regionS (seg_eval (by simp -dsimp -implicitDefEqProofs [spHas, spRightV, spWithout, spSize, hr, c1, c2, hh, c3, c4, hz]; rfl) ?_)
            | with_reducible refine wp_region (seg_eval (by simp -dsimp -implicitDefEqProofs [spHas, spRightV, spWithout, spSize, hr, c1, c2, hh, c3, c4, hz]; rfl) ?_)
            | with_reducible refine wp_drawsS (seg_eval (by simp -dsimp -implicitDefEqProofs [spHas, spRightV, spWithout, spSize, hr, c1, c2, hh, c3, c4, hz]; rfl) ?_)
            | with_reducible refine wp_draws (seg_eval (by simp -dsimp -implicitDefEqProofs [spHas, spRightV, spWithout, spSize, hr, c1, c2, hh, c3, c4, hz]; rfl) ?_)
            | with_reducible refine seg_fin ?_
            | with_reducible refine seg_pan ?_
            | with_reducible refine seg_both ?_ ?_
            | with_reducible refine seg_case (fun x h => ?_) (fun h => ?_)
            | with_reducible refine seg_gate (fun h => ?_) (fun h => ?_)
            | with_reducible refine seg_need ?_ ?_
            | with_reducible refine wp_assoc ?_ | with_reducible refine wp_skipS ?_ | with_reducible refine wp_retS ?_ | with_reducible refine wp_exitS ?_ | with_reducible refine wp_dropS (wp_eqT (by simp -dsimp -implicitDefEqProofs [spHas, spRightV, spWithout, spSize, hr, c1, c2, hh, c3, c4, hz]; rfl) ?_) | with_reducible refine wp_sealS (by simp -dsimp -implicitDefEqProofs [spHas, spRightV, spWithout, spSize, hr, c1, c2, hh, c3, c4, hz]; rfl) ?_ | with_reducible refine wp_seal (by simp -dsimp -implicitDefEqProofs [spHas, spRightV, spWithout, spSize, hr, c1, c2, hh, c3, c4, hz]; rfl) ?_ | with_reducible refine wp_closeS (by simp -dsimp -implicitDefEqProofs [spHas, spRightV, spWithout, spSize, hr, c1, c2, hh, c3, c4, hz]; rfl) ?_ | with_reducible refine wp_close (by simp -dsimp -implicitDefEqProofs [spHas, spRightV, spWithout, spSize, hr, c1, c2, hh, c3, c4, hz]; rfl) ?_ | with_reducible refine wp_conc_out ?_ | with_reducible refine wp_open_out ?_ | with_reducible refine wp_pack_out ?_ | with_reducible refine wp_blockS ?_ | with_reducible refine wp_skip' ?_ | with_reducible refine wp_ret' ?_ | with_reducible refine wp_exit' ?_ | with_reducible refine wp_drop (wp_eqT (by simp -dsimp -implicitDefEqProofs [spHas, spRightV, spWithout, spSize, hr, c1, c2, hh, c3, c4, hz]; rfl) ?_) | with_reducible refine wp_block' ?_
            | with_reducible refine wp_condVS (by simp -dsimp -implicitDefEqProofs [spHas, spRightV, spWithout, spSize, hr, c1, c2, hh, c3, c4, hz]; rfl) ?_
            | with_reducible refine wp_condV (by simp -dsimp -implicitDefEqProofs [spHas, spRightV, spWithout, spSize, hr, c1, c2, hh, c3, c4, hz]; rfl) ?_
            | with_reducible refine cond_t ?_ | with_reducible refine cond_f ?_ | with_reducible refine cond_v (fun h => ?_) (fun h => ?_)
            | with_reducible refine post_then ?_ | with_reducible refine post_thenE ?_ | with_reducible refine post_thenP ?_ | with_reducible refine post_blkP ?_ | with_reducible refine post_thenR ?_ | with_reducible refine post_blkN ?_ | with_reducible refine post_blkE ?_ | with_reducible refine post_blkF rfl ?_ | with_reducible refine post_blkR ?_
            | with_reducible refine seg_eval (by simp -dsimp -implicitDefEqProofs [spHas, spRightV, spWithout, spSize, hr, c1, c2, hh, c3, c4, hz]; rfl) ?_
        all_goals first
          | omega
          | exact post_fin rfl rfl ⟨[], [], rfl, rfl, rfl, rfl⟩
          | trace_state
      · have e : applyV v m false i = ((v + 1, withoutS m i), 0) := by unfold applyV; rw [if_neg hni]; simp [hh, hv, hz]
        have e0 : (sizeS m == 1) = false := by simp [hz]
        have e1 : (((sizeS m : Nat) : Int) == 1) = false := by simp; omega
        rw [e]
        repeat' first
            | with_reducible refine wp_regionS (seg_eval (by simp -dsimp -implicitDefEqProofs [spHas, spRightV, spWithout, spSize, hr, c1, c2, hh, c3, c4, hz, e0, e1]; rfl) ?_)
            | with_reducible refine wp_region (seg_eval (by simp -dsimp -implicitDefEqProofs [spHas, spRightV, spWithout, spSize, hr, c1, c2, hh, c3, c4, hz, e0, e1]; rfl) ?_)
            | with_reducible refine wp_drawsS (seg_eval (by simp -dsimp -implicitDefEqProofs [spHas, spRightV, spWithout, spSize, hr, c1, c2, hh, c3, c4, hz, e0, e1]; rfl) ?_)
            | with_reducible refine wp_draws (seg_eval (by simp -dsimp -implicitDefEqProofs [spHas, spRightV, spWithout, spSize, hr, c1, c2, hh, c3, c4, hz, e0, e1]; rfl) ?_)
            | with_reducible refine seg_fin ?_
            | with_reducible refine seg_pan ?_
            | with_reducible refine seg_both ?_ ?_
            | with_reducible refine seg_case (fun x h => ?_) (fun h => ?_)
            | with_reducible refine seg_gate (fun h => ?_) (fun h => ?_)
            | with_reducible refine seg_need ?_ ?_
            | with_reducible refine wp_assoc ?_ | with_reducible refine wp_skipS ?_ | with_reducible refine wp_retS ?_ | with_reducible refine wp_exitS ?_ | with_reducible refine wp_dropS (wp_eqT (by simp -dsimp -implicitDefEqProofs [spHas, spRightV, spWithout, spSize, hr, c1, c2, hh, c3, c4, hz, e0, e1]; rfl) ?_) | with_reducible refine wp_sealS (by simp -dsimp -implicitDefEqProofs [spHas, spRightV, spWithout, spSize, hr, c1, c2, hh, c3, c4, hz, e0, e1]; rfl) ?_ | with_reducible refine wp_seal (by simp -dsimp -implicitDefEqProofs [spHas, spRightV, spWithout, spSize, hr, c1, c2, hh, c3, c4, hz, e0, e1]; rfl) ?_ | with_reducible refine wp_closeS (by simp -dsimp -implicitDefEqProofs [spHas, spRightV, spWithout, spSize, hr, c1, c2, hh, c3, c4, hz, e0, e1]; rfl) ?_ | with_reducible refine wp_close (by simp -dsimp -implicitDefEqProofs [spHas, spRightV, spWithout, spSize, hr, c1, c2, hh, c3, c4, hz, e0, e1]; rfl) ?_ | with_reducible refine wp_conc_out ?_ | with_reducible refine wp_open_out ?_ | with_reducible refine wp_pack_out ?_ | with_reducible refine wp_blockS ?_ | with_reducible refine wp_skip' ?_ | with_reducible refine wp_ret' ?_ | with_reducible refine wp_exit' ?_ | with_reducible refine wp_drop (wp_eqT (by simp -dsimp -implicitDefEqProofs [spHas, spRightV, spWithout, spSize, hr, c1, c2, hh, c3, c4, hz, e0, e1]; rfl) ?_) | with_reducible refine wp_block' ?_
            | with_reducible refine wp_condVS (by simp -dsimp -implicitDefEqProofs [spHas, spRightV, spWithout, spSize, hr, c1, c2, hh, c3, c4, hz, e0, e1]; rfl) ?_
            | with_reducible refine wp_condV (by simp -dsimp -implicitDefEqProofs [spHas, spRightV, spWithout, spSize, hr, c1, c2, hh, c3, c4, hz, e0, e1]; rfl) ?_
            | with_reducible refine cond_t ?_ | with_reducible refine cond_f ?_ | with_reducible refine cond_v (fun h => ?_) (fun h => ?_)
            | with_reducible refine post_then ?_ | with_reducible refine post_thenE ?_ | with_reducible refine post_thenP ?_ | with_reducible refine post_blkP ?_ | with_reducible refine post_thenR ?_ | with_reducible refine post_blkN ?_ | with_reducible refine post_blkE ?_ | with_reducible refine post_blkF rfl ?_ | with_reducible refine post_blkR ?_
            | with_reducible refine seg_eval (by simp -dsimp -implicitDefEqProofs [spHas, spRightV, spWithout, spSize, hr, c1, c2, hh, c3, c4, hz, e0, e1]; rfl) ?_
        all_goals first
          | omega
          | exact post_fin rfl rfl ⟨[], [], rfl, rfl, rfl, rfl⟩
          | trace_state
  · by_cases hv : v = 1000
    · have e : applyV v m true i = ((0, 0), 11) := by unfold applyV; rw [if_neg hni]; simp [hh, hv]
      have c3 : (v == (1000 : Int)) = true := by simp [hv]
      rw [e]
      repeat' first
          | with_reducible refine wp_regionS (seg_eval (by simp -dsimp -implicitDefEqProofs [spHas, spRightV, hr, c1, c2, hh, c3]; rfl) ?_)
          | with_reducible refine wp_region (seg_eval (by simp -dsimp -implicitDefEqProofs [spHas, spRightV, hr, c1, c2, hh, c3]; rfl) ?_)
          | with_reducible refine wp_drawsS (seg_eval (by simp -dsimp -implicitDefEqProofs [spHas, spRightV, hr, c1, c2, hh, c3]; rfl) ?_)
          | with_reducible refine wp_draws (seg_eval (by simp -dsimp -implicitDefEqProofs [spHas, spRightV, hr, c1, c2, hh, c3]; rfl) ?_)
          | with_reducible refine seg_fin ?_
          | with_reducible refine seg_pan ?_
          | with_reducible refine seg_both ?_ ?_
          | with_reducible refine seg_case (fun x h => ?_) (fun h => ?_)
          | with_reducible refine seg_gate (fun h => ?_) (fun h => ?_)
          | with_reducible refine seg_need ?_ ?_
          | with_reducible refine wp_assoc ?_ | with_reducible refine wp_skipS ?_ | with_reducible refine wp_retS ?_ | with_reducible refine wp_exitS ?_ | with_reducible refine wp_dropS (wp_eqT (by simp -dsimp -implicitDefEqProofs [spHas, spRightV, hr, c1, c2, hh, c3]; rfl) ?_) | with_reducible refine wp_sealS (by simp -dsimp -implicitDefEqProofs [spHas, spRightV, hr, c1, c2, hh, c3]; rfl) ?_ | with_reducible refine wp_seal (by simp -dsimp -implicitDefEqProofs [spHas, spRightV, hr, c1, c2, hh, c3]; rfl) ?_ | with_reducible refine wp_closeS (by simp -dsimp -implicitDefEqProofs [spHas, spRightV, hr, c1, c2, hh, c3]; rfl) ?_ | with_reducible refine wp_close (by simp -dsimp -implicitDefEqProofs [spHas, spRightV, hr, c1, c2, hh, c3]; rfl) ?_ | with_reducible refine wp_conc_out ?_ | with_reducible refine wp_open_out ?_ | with_reducible refine wp_pack_out ?_ | with_reducible refine wp_blockS ?_ | with_reducible refine wp_skip' ?_ | with_reducible refine wp_ret' ?_ | with_reducible refine wp_exit' ?_ | with_reducible refine wp_drop (wp_eqT (by simp -dsimp -implicitDefEqProofs [spHas, spRightV, hr, c1, c2, hh, c3]; rfl) ?_) | with_reducible refine wp_block' ?_
          | with_reducible refine wp_condVS (by simp -dsimp -implicitDefEqProofs [spHas, spRightV, hr, c1, c2, hh, c3]; rfl) ?_
          | with_reducible refine wp_condV (by simp -dsimp -implicitDefEqProofs [spHas, spRightV, hr, c1, c2, hh, c3]; rfl) ?_
          | with_reducible refine cond_t ?_ | with_reducible refine cond_f ?_ | with_reducible refine cond_v (fun h => ?_) (fun h => ?_)
          | with_reducible refine post_then ?_ | with_reducible refine post_thenE ?_ | with_reducible refine post_thenP ?_ | with_reducible refine post_blkP ?_ | with_reducible refine post_thenR ?_ | with_reducible refine post_blkN ?_ | with_reducible refine post_blkE ?_ | with_reducible refine post_blkF rfl ?_ | with_reducible refine post_blkR ?_
          | with_reducible refine seg_eval (by simp -dsimp -implicitDefEqProofs [spHas, spRightV, hr, c1, c2, hh, c3]; rfl) ?_
      all_goals first
        | omega
        | exact post_fin rfl rfl ⟨[], [], rfl, rfl, rfl, rfl⟩
        | trace_state
    · have c3 : (v == (1000 : Int)) = false := by simp [hv]
      have c4 : IntKind.wrap .i64 (v + 1) = v + 1 := IntWalk.i64_in _ (by omega)
      have e : applyV v m true i = ((v + 1, withS m i), 0) := by unfold applyV; rw [if_neg hni]; simp [hh, hv]
      rw [e]
      repeat' first
          | with_reducible refine wp_regionS (seg_eval (by simp -dsimp -implicitDefEqProofs [spHas, spRightV, spWithout, spWith, hr, c1, c2, hh, c3, c4]; rfl) ?_)
          | with_reducible refine wp_region (seg_eval (by simp -dsimp -implicitDefEqProofs [spHas, spRightV, spWithout, spWith, hr, c1, c2, hh, c3, c4]; rfl) ?_)
          | with_reducible refine wp_drawsS (seg_eval (by simp -dsimp -implicitDefEqProofs [spHas, spRightV, spWithout, spWith, hr, c1, c2, hh, c3, c4]; rfl) ?_)
          | with_reducible refine wp_draws (seg_eval (by simp -dsimp -implicitDefEqProofs [spHas, spRightV, spWithout, spWith, hr, c1, c2, hh, c3, c4]; rfl) ?_)
          | with_reducible refine seg_fin ?_
          | with_reducible refine seg_pan ?_
          | with_reducible refine seg_both ?_ ?_
          | with_reducible refine seg_case (fun x h => ?_) (fun h => ?_)
          | with_reducible refine seg_gate (fun h => ?_) (fun h => ?_)
          | with_reducible refine seg_need ?_ ?_
          | with_reducible refine wp_assoc ?_ | with_reducible refine wp_skipS ?_ | with_reducible refine wp_retS ?_ | with_reducible refine wp_exitS ?_ | with_reducible refine wp_dropS (wp_eqT (by simp -dsimp -implicitDefEqProofs [spHas, spRightV, spWithout, spWith, hr, c1, c2, hh, c3, c4]; rfl) ?_) | with_reducible refine wp_sealS (by simp -dsimp -implicitDefEqProofs [spHas, spRightV, spWithout, spWith, hr, c1, c2, hh, c3, c4]; rfl) ?_ | with_reducible refine wp_seal (by simp -dsimp -implicitDefEqProofs [spHas, spRightV, spWithout, spWith, hr, c1, c2, hh, c3, c4]; rfl) ?_ | with_reducible refine wp_closeS (by simp -dsimp -implicitDefEqProofs [spHas, spRightV, spWithout, spWith, hr, c1, c2, hh, c3, c4]; rfl) ?_ | with_reducible refine wp_close (by simp -dsimp -implicitDefEqProofs [spHas, spRightV, spWithout, spWith, hr, c1, c2, hh, c3, c4]; rfl) ?_ | with_reducible refine wp_conc_out ?_ | with_reducible refine wp_open_out ?_ | with_reducible refine wp_pack_out ?_ | with_reducible refine wp_blockS ?_ | with_reducible refine wp_skip' ?_ | with_reducible refine wp_ret' ?_ | with_reducible refine wp_exit' ?_ | with_reducible refine wp_drop (wp_eqT (by simp -dsimp -implicitDefEqProofs [spHas, spRightV, spWithout, spWith, hr, c1, c2, hh, c3, c4]; rfl) ?_) | with_reducible refine wp_block' ?_
          | with_reducible refine wp_condVS (by simp -dsimp -implicitDefEqProofs [spHas, spRightV, spWithout, spWith, hr, c1, c2, hh, c3, c4]; rfl) ?_
          | with_reducible refine wp_condV (by simp -dsimp -implicitDefEqProofs [spHas, spRightV, spWithout, spWith, hr, c1, c2, hh, c3, c4]; rfl) ?_
          | with_reducible refine cond_t ?_ | with_reducible refine cond_f ?_ | with_reducible refine cond_v (fun h => ?_) (fun h => ?_)
          | with_reducible refine post_then ?_ | with_reducible refine post_thenE ?_ | with_reducible refine post_thenP ?_ | with_reducible refine post_blkP ?_ | with_reducible refine post_thenR ?_ | with_reducible refine post_blkN ?_ | with_reducible refine post_blkE ?_ | with_reducible refine post_blkF rfl ?_ | with_reducible refine post_blkR ?_
          | with_reducible refine seg_eval (by simp -dsimp -implicitDefEqProofs [spHas, spRightV, spWithout, spWith, hr, c1, c2, hh, c3, c4]; rfl) ?_
      all_goals first
        | omega
        | exact post_fin rfl rfl ⟨[], [], rfl, rfl, rfl, rfl⟩
        | trace_state
  · have e : applyV v m true i = ((0, 0), 9) := by unfold applyV; rw [if_neg hni]; simp [hh]
    rw [e]
    repeat' first
        | with_reducible refine wp_regionS (seg_eval (by simp -dsimp -implicitDefEqProofs [spHas, spRightV, hr, c1, c2, hh]; rfl) ?_)
        | with_reducible refine wp_region (seg_eval (by simp -dsimp -implicitDefEqProofs [spHas, spRightV, hr, c1, c2, hh]; rfl) ?_)
        | with_reducible refine wp_drawsS (seg_eval (by simp -dsimp -implicitDefEqProofs [spHas, spRightV, hr, c1, c2, hh]; rfl) ?_)
        | with_reducible refine wp_draws (seg_eval (by simp -dsimp -implicitDefEqProofs [spHas, spRightV, hr, c1, c2, hh]; rfl) ?_)
        | with_reducible refine seg_fin ?_
        | with_reducible refine seg_pan ?_
        | with_reducible refine seg_both ?_ ?_
        | with_reducible refine seg_case (fun x h => ?_) (fun h => ?_)
        | with_reducible refine seg_gate (fun h => ?_) (fun h => ?_)
        | with_reducible refine seg_need ?_ ?_
        | with_reducible refine wp_assoc ?_ | with_reducible refine wp_skipS ?_ | with_reducible refine wp_retS ?_ | with_reducible refine wp_exitS ?_ | with_reducible refine wp_dropS (wp_eqT (by simp -dsimp -implicitDefEqProofs [spHas, spRightV, hr, c1, c2, hh]; rfl) ?_) | with_reducible refine wp_sealS (by simp -dsimp -implicitDefEqProofs [spHas, spRightV, hr, c1, c2, hh]; rfl) ?_ | with_reducible refine wp_seal (by simp -dsimp -implicitDefEqProofs [spHas, spRightV, hr, c1, c2, hh]; rfl) ?_ | with_reducible refine wp_closeS (by simp -dsimp -implicitDefEqProofs [spHas, spRightV, hr, c1, c2, hh]; rfl) ?_ | with_reducible refine wp_close (by simp -dsimp -implicitDefEqProofs [spHas, spRightV, hr, c1, c2, hh]; rfl) ?_ | with_reducible refine wp_conc_out ?_ | with_reducible refine wp_open_out ?_ | with_reducible refine wp_pack_out ?_ | with_reducible refine wp_blockS ?_ | with_reducible refine wp_skip' ?_ | with_reducible refine wp_ret' ?_ | with_reducible refine wp_exit' ?_ | with_reducible refine wp_drop (wp_eqT (by simp -dsimp -implicitDefEqProofs [spHas, spRightV, hr, c1, c2, hh]; rfl) ?_) | with_reducible refine wp_block' ?_
        | with_reducible refine wp_condVS (by simp -dsimp -implicitDefEqProofs [spHas, spRightV, hr, c1, c2, hh]; rfl) ?_
        | with_reducible refine wp_condV (by simp -dsimp -implicitDefEqProofs [spHas, spRightV, hr, c1, c2, hh]; rfl) ?_
        | with_reducible refine cond_t ?_ | with_reducible refine cond_f ?_ | with_reducible refine cond_v (fun h => ?_) (fun h => ?_)
        | with_reducible refine post_then ?_ | with_reducible refine post_thenE ?_ | with_reducible refine post_thenP ?_ | with_reducible refine post_blkP ?_ | with_reducible refine post_thenR ?_ | with_reducible refine post_blkN ?_ | with_reducible refine post_blkE ?_ | with_reducible refine post_blkF rfl ?_ | with_reducible refine post_blkR ?_
        | with_reducible refine seg_eval (by simp -dsimp -implicitDefEqProofs [spHas, spRightV, hr, c1, c2, hh]; rfl) ?_
    all_goals first
      | omega
      | exact post_fin rfl rfl ⟨[], [], rfl, rfl, rfl, rfl⟩
      | trace_state
end Go.Proofs.Ytbponegjfccgfaa.Am
