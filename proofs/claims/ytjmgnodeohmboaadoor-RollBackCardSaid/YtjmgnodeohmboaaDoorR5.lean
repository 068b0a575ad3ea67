/-
  The law RollMembers, as a contract.
-/
import Derived.Test.YtjmgnodeohmboaaDoorR4
namespace Go.Proofs.YtjmgnodeohmboaaDoor.Am
set_option linter.unusedSimpArgs false
set_option linter.unusedVariables false
open Go Go.Proofs
attribute [local irreducible] wpA
attribute [-simp] splice

theorem applyV_bad {v : Int} {m : Nat} {a : Bool} {i : Nat} (h : (applyV v m a i).2 ≠ 0) : (applyV v m a i).1 = (0, 0) := by
  unfold applyV at h ⊢
  split
  · rfl
  · rename_i n1
    rw [if_neg n1] at h
    split
    · rfl
    · rename_i n2
      rw [if_neg n2] at h
      split
      · rfl
      · rename_i n3
        rw [if_neg n3] at h
        split
        · rfl
        · rename_i n4
          rw [if_neg n4] at h
          split
          · rfl
          · rename_i n5
            rw [if_neg n5] at h
            exact absurd rfl h
theorem applyV_good {v : Int} {m : Nat} {a : Bool} {i : Nat} (h : (applyV v m a i).2 = 0) :
    rightV v m = true ∧ i < 16 ∧ hasS m i = !a ∧ v ≠ 1000 ∧ ¬ (a = false ∧ sizeS m = 1) ∧ (applyV v m a i).1 = (v + 1, if a = true then withS m i else withoutS m i) := by
  unfold applyV at h ⊢
  split at h
  · cases h
  · rename_i n1
    rw [if_neg n1]
    split at h
    · cases h
    · rename_i n2
      rw [if_neg n2]
      split at h
      · cases h
      · rename_i n3
        rw [if_neg n3]
        split at h
        · cases h
        · rename_i n4
          rw [if_neg n4]
          split at h
          · cases h
          · rename_i n5
            rw [if_neg n5]
            simp only [not_or, Bool.not_eq_false, Nat.not_le] at n1
            refine ⟨n1.1, n1.2, ?_, n4, n5, rfl⟩
            cases a <;> cases hh : hasS m i <;> simp_all
theorem xor_with {m i : Nat} (hm : m < 65536) (hi : i < 16) (h : hasS m i = false) : withS m i ^^^ m = bitS i := by
  apply Nat.eq_of_testBit_eq
  intro j
  rw [Nat.testBit_xor, bit_has]
  have := has_with (m := m) i j
  unfold hasS at this h
  rw [this]
  by_cases hij : i = j
  · subst hij; simp [h, hi]
  · simp [hij]
theorem xor_without {m i : Nat} (hm : m < 65536) (hi : i < 16) (h : hasS m i = true) : withoutS m i ^^^ m = bitS i := by
  apply Nat.eq_of_testBit_eq
  intro j
  rw [Nat.testBit_xor, bit_has]
  have := has_without hm i j
  unfold hasS at this h
  rw [this]
  by_cases hij : i = j
  · subst hij; simp [h, hi]
  · simp [hij]
theorem good_has {m i : Nat} {a : Bool} (hm : m < 65536) (hi : i < 16) : hasS (if a = true then withS m i else withoutS m i) i = a := by
  cases a
  · rw [if_neg (by simp), has_without hm]; simp
  · rw [if_pos rfl, has_with]; simp [hi]
theorem good_xor {m i : Nat} {a : Bool} (hm : m < 65536) (hi : i < 16) (h : hasS m i = !a) : (if a = true then withS m i else withoutS m i) ^^^ m = bitS i := by
  cases a
  · rw [if_neg (by simp)]; exact xor_without hm hi h
  · rw [if_pos rfl]; exact xor_with hm hi h
theorem good_nz {m i : Nat} {a : Bool} (hm : m < 65536) (hi : i < 16) (h : hasS m i = !a) (hs : ¬ (a = false ∧ sizeS m = 1)) : (if a = true then withS m i else withoutS m i) ≠ 0 := by
  cases a
  · rw [if_neg (by simp)]; exact fun e => hs ⟨rfl, (without_zero hm h).1 e⟩
  · rw [if_pos rfl]; exact with_nz hi
theorem good_lt {m i : Nat} {a : Bool} (hm : m < 65536) : (if a = true then withS m i else withoutS m i) < 65536 := by
  split
  · exact withS_lt hm i
  · exact withoutS_lt m i

set_option maxHeartbeats 4000000 in
theorem rollMembers_ok : CallOk Tryd.prog 5 spLaw2 := by
  refine ok_5 (Env.put_ok [] (Env.put_ok [] (Env.put_ok [] (Env.put_ok [] (Env.none_ok _) alive_ok) apply_ok) hasR_ok) rollRight_ok) spLaw2 fun args mem r mem1 h => ?_
  unfold spLaw2 at h
  split at h
  case h_2 => cases h
  rename_i v m a i
  obtain ⟨⟨h0, h1, h2, h3⟩, h4⟩ := if_some h
  cases h4
  obtain ⟨m, rfl⟩ := Int.eq_ofNat_of_zero_le h0
  obtain ⟨i, rfl⟩ := Int.eq_ofNat_of_zero_le h2
  clear h
  have hm : m < 65536 := by omega
  unfold ac_5
  by_cases he : (applyV v m a i).2 = 0
  · obtain ⟨g1, g2, g3, g4, g5, g6⟩ := applyV_good he
    obtain ⟨v0, v1, m0⟩ := right_v.1 g1
    obtain ⟨m', hm'⟩ : ∃ m', m' = (if a = true then withS m i else withoutS m i) := ⟨_, rfl⟩
    rw [← hm'] at g6
    have l' : m' < 65536 := hm' ▸ good_lt hm
    have l2 : (m' : Int) < 65536 := by omega
    have n' : m' ≠ 0 := hm' ▸ good_nz hm g2 g3 g5
    have s' : hasS m' i = a := hm' ▸ good_has hm g2
    have x' : xorI .u16 (m' : Int) (m : Int) = ((bitS i : Nat) : Int) := by rw [xor_nat _ _ l' hm, hm', good_xor hm g2 g3]
    have c4 : IntKind.wrap .i64 (v + 1) = v + 1 := IntWalk.i64_in _ (by omega)
    have r' : rightV (v + 1) m' = true := right_v.2 ⟨by omega, by omega, n'⟩
    have sh : IntKind.wrap .u16 (2 ^ min i 16) = ((bitS i : Nat) : Int) := by
      have e : min i 16 = i := by omega
      have hlt : 2 ^ i < 2 ^ 16 := Nat.pow_lt_pow_right (by omega) (by omega)
      have hb : bitS i = 2 ^ i := by unfold bitS; rw [if_pos g2]
      rw [e, hb, show ((2 : Int) ^ i) = ((2 ^ i : Nat) : Int) from by simp, IntWalk.u16_in _ (by omega)]
    have e1 : (applyV v m a i).1.1 = v + 1 := by rw [g6]
    have e2 : (applyV v m a i).1.2 = m' := by rw [g6]
    have b1 : ((!a) != a) = true := by cases a <;> rfl
    repeat' with_reducible first
      | refine wp_regionS (seg_eval (by simp -dsimp -implicitDefEqProofs [spYes, spApplyV, spRightV, spHas, h1, h3, he, e1, e2, c4, l2, s', g3, x', r', sh, b1, Int.toNat_natCast]; rfl) ?_)
      | refine wp_region (seg_eval (by simp -dsimp -implicitDefEqProofs [spYes, spApplyV, spRightV, spHas, h1, h3, he, e1, e2, c4, l2, s', g3, x', r', sh, b1, Int.toNat_natCast]; rfl) ?_)
      | refine wp_drawsS (seg_eval (by simp -dsimp -implicitDefEqProofs [spYes, spApplyV, spRightV, spHas, h1, h3, he, e1, e2, c4, l2, s', g3, x', r', sh, b1, Int.toNat_natCast]; rfl) ?_)
      | refine wp_draws (seg_eval (by simp -dsimp -implicitDefEqProofs [spYes, spApplyV, spRightV, spHas, h1, h3, he, e1, e2, c4, l2, s', g3, x', r', sh, b1, Int.toNat_natCast]; rfl) ?_)
      | refine seg_fin ?_
      | refine seg_pan ?_
      | refine seg_both ?_ ?_
      | refine seg_case (fun x h => ?_) (fun h => ?_)
      | refine seg_gate (fun h => ?_) (fun h => ?_)
      | refine seg_need ?_ ?_
      | refine wp_assoc ?_ | refine wp_skipS ?_ | refine wp_retS ?_ | refine wp_exitS ?_ | refine wp_dropS (wp_eqT (by simp -dsimp -implicitDefEqProofs; rfl) ?_) | refine wp_sealS (by simp -dsimp -implicitDefEqProofs; rfl) ?_ | refine wp_seal (by simp -dsimp -implicitDefEqProofs; rfl) ?_ | refine wp_pack_out ?_ | refine wp_blockS ?_ | refine wp_skip' ?_ | refine wp_ret' ?_ | refine wp_exit' ?_ | refine wp_drop (wp_eqT (by simp -dsimp -implicitDefEqProofs; rfl) ?_) | refine wp_block' ?_
      | refine wp_condVS (by simp -dsimp -implicitDefEqProofs; rfl) ?_
      | refine wp_condV (by simp -dsimp -implicitDefEqProofs; rfl) ?_
      | refine cond_t ?_ | refine cond_f ?_ | refine cond_v (fun h => ?_) (fun h => ?_)
      | refine post_then ?_ | refine post_thenE ?_ | refine post_thenP ?_ | refine post_blkP ?_ | refine post_thenR ?_ | refine post_blkN ?_ | refine post_blkE ?_ | refine post_blkF rfl ?_ | refine post_blkR ?_
      | refine seg_eval (by simp -dsimp -implicitDefEqProofs [spYes, spApplyV, spRightV, spHas, h1, h3, he, e1, e2, c4, l2, s', g3, x', r', sh, b1, Int.toNat_natCast]; rfl) ?_
    all_goals first
      | omega
      | exact post_fin rfl rfl ⟨[], [], rfl, rfl, rfl, rfl⟩
      | trace_state
  · have e0 := applyV_bad he
    have e1 : (applyV v m a i).1.1 = 0 := by rw [e0]
    have e2 : (applyV v m a i).1.2 = 0 := by rw [e0]
    have c1 : ((applyV v m a i).2 != 0) = true := by simp [he]
    repeat' with_reducible first
      | refine wp_regionS (seg_eval (by simp -dsimp -implicitDefEqProofs [spYes, spApplyV, spRightV, spHas, h1, h3, he, e1, e2, c1, Int.toNat_natCast]; rfl) ?_)
      | refine wp_region (seg_eval (by simp -dsimp -implicitDefEqProofs [spYes, spApplyV, spRightV, spHas, h1, h3, he, e1, e2, c1, Int.toNat_natCast]; rfl) ?_)
      | refine wp_drawsS (seg_eval (by simp -dsimp -implicitDefEqProofs [spYes, spApplyV, spRightV, spHas, h1, h3, he, e1, e2, c1, Int.toNat_natCast]; rfl) ?_)
      | refine wp_draws (seg_eval (by simp -dsimp -implicitDefEqProofs [spYes, spApplyV, spRightV, spHas, h1, h3, he, e1, e2, c1, Int.toNat_natCast]; rfl) ?_)
      | refine seg_fin ?_
      | refine seg_pan ?_
      | refine seg_both ?_ ?_
      | refine seg_case (fun x h => ?_) (fun h => ?_)
      | refine seg_gate (fun h => ?_) (fun h => ?_)
      | refine seg_need ?_ ?_
      | refine wp_assoc ?_ | refine wp_skipS ?_ | refine wp_retS ?_ | refine wp_exitS ?_ | refine wp_dropS (wp_eqT (by simp -dsimp -implicitDefEqProofs; rfl) ?_) | refine wp_sealS (by simp -dsimp -implicitDefEqProofs; rfl) ?_ | refine wp_seal (by simp -dsimp -implicitDefEqProofs; rfl) ?_ | refine wp_pack_out ?_ | refine wp_blockS ?_ | refine wp_skip' ?_ | refine wp_ret' ?_ | refine wp_exit' ?_ | refine wp_drop (wp_eqT (by simp -dsimp -implicitDefEqProofs; rfl) ?_) | refine wp_block' ?_
      | refine wp_condVS (by simp -dsimp -implicitDefEqProofs; rfl) ?_
      | refine wp_condV (by simp -dsimp -implicitDefEqProofs; rfl) ?_
      | refine cond_t ?_ | refine cond_f ?_ | refine cond_v (fun h => ?_) (fun h => ?_)
      | refine post_then ?_ | refine post_thenE ?_ | refine post_thenP ?_ | refine post_blkP ?_ | refine post_thenR ?_ | refine post_blkN ?_ | refine post_blkE ?_ | refine post_blkF rfl ?_ | refine post_blkR ?_
      | refine seg_eval (by simp -dsimp -implicitDefEqProofs [spYes, spApplyV, spRightV, spHas, h1, h3, he, e1, e2, c1, Int.toNat_natCast]; rfl) ?_
    all_goals first
      | omega
      | exact post_fin rfl rfl ⟨[], [], rfl, rfl, rfl, rfl⟩
      | trace_state
end Go.Proofs.YtjmgnodeohmboaaDoor.Am
