/-
  The law RollApplies, as a contract.
-/
import Derived.Test.YtjmgnodeohmboaaDoorCodeL
import Derived.Test.YtjmgnodeohmboaaDoorR3
namespace Go.Proofs.YtjmgnodeohmboaaDoor.Am
set_option linter.unusedSimpArgs false
set_option linter.unusedVariables false
open Go Go.Proofs
attribute [local irreducible] wpA
attribute [-simp] splice

theorem applyV_lt {v : Int} {m : Nat} {a : Bool} {i : Nat} (hm : m < 65536) : (applyV v m a i).1.2 < 65536 := by
  unfold applyV
  split
  · simp
  · split
    · simp
    · split
      · simp
      · split
        · simp
        · split
          · simp
          · show (if a = true then withS m i else withoutS m i) < 65536
            split
            · exact withS_lt hm i
            · exact withoutS_lt m i

def spLaw2 : Spec
  | [.agg [.v (.int .i64 v), .v (.int .u16 m)], .agg [.v (.bool a), .v (.int .u8 i)]], [] => if 0 ≤ m ∧ m < 65536 ∧ 0 ≤ i ∧ i < 256 then some (.ret (.v (.bool true)), []) else none
  | _, _ => none
set_option maxHeartbeats 4000000 in
theorem rollApplies_ok : CallOk Tryd.prog 3 spLaw2 := by
  refine ok_3 (Env.put_ok [] (Env.put_ok [] (Env.put_ok [] (Env.put_ok [] (Env.put_ok [] (Env.none_ok _) alive_ok) apply_ok) applyR_ok) rollRight_ok) rollRightR_ok) spLaw2 fun args mem r mem1 h => ?_
  unfold spLaw2 at h
  split at h
  case h_2 => cases h
  rename_i v m a i
  obtain ⟨⟨h0, h1, h2, h3⟩, h4⟩ := if_some h
  cases h4
  obtain ⟨m, rfl⟩ := Int.eq_ofNat_of_zero_le h0
  obtain ⟨i, rfl⟩ := Int.eq_ofNat_of_zero_le h2
  clear h
  unfold ac_3
  repeat' with_reducible first
    | refine wp_regionS (seg_eval (by simp -dsimp -implicitDefEqProofs [spYes, spApplyV, spRightV, h1, h3, Int.toNat_natCast]; rfl) ?_)
    | refine wp_region (seg_eval (by simp -dsimp -implicitDefEqProofs [spYes, spApplyV, spRightV, h1, h3, Int.toNat_natCast]; rfl) ?_)
    | refine wp_drawsS (seg_eval (by simp -dsimp -implicitDefEqProofs [spYes, spApplyV, spRightV, h1, h3, Int.toNat_natCast]; rfl) ?_)
    | refine wp_draws (seg_eval (by simp -dsimp -implicitDefEqProofs [spYes, spApplyV, spRightV, h1, h3, Int.toNat_natCast]; rfl) ?_)
    | refine seg_fin ?_
    | refine seg_pan ?_
    | refine seg_both ?_ ?_
    | refine seg_case (fun x h => ?_) (fun h => ?_)
    | refine seg_gate (fun h => ?_) (fun h => ?_)
    | refine seg_need ?_ ?_
    | refine wp_assoc ?_ | refine wp_skipS ?_ | refine wp_retS ?_ | refine wp_exitS ?_ | refine wp_dropS (wp_eqT (by simp -dsimp -implicitDefEqProofs; rfl) ?_) | refine wp_sealS (by simp -dsimp -implicitDefEqProofs; rfl) ?_ | refine wp_seal (by simp -dsimp -implicitDefEqProofs; rfl) ?_ | refine wp_pack_out ?_ | refine wp_blockS ?_ | refine wp_skip' ?_ | refine wp_ret' ?_ | refine wp_exit' ?_ | refine wp_drop (wp_eqT (by simp -dsimp -implicitDefEqProofs; rfl) ?_) | refine wp_block' ?_
    | refine wp_condVS (by simp -dsimp -implicitDefEqProofs; rfl) ?_
    | refine wp_condV (by simp -dsimp -implicitDefEqProofs; rfl) ?_
    | refine cond_t ?_ | refine cond_f ?_ | refine cond_v (fun h => ?_) (fun h => ?_)
    | refine post_then ?_ | refine post_thenE ?_ | refine post_thenP ?_ | refine post_blkP ?_ | refine post_thenR ?_ | refine post_blkN ?_ | refine post_blkE ?_ | refine post_blkF rfl ?_ | refine post_blkR ?_
    | refine seg_eval (by simp -dsimp -implicitDefEqProofs [spYes, spApplyV, spRightV, h1, h3, Int.toNat_natCast]; rfl) ?_
  all_goals first
    | omega
    | exact post_fin rfl rfl ⟨[], [], rfl, rfl, rfl, rfl⟩
    | trace_state
end Go.Proofs.YtjmgnodeohmboaaDoor.Am
