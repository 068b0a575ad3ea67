import Derived.Test.YtajpaagbfmjacaaGreatDoorZF3
namespace Go.Proofs.YtajpaagbfmjacaaGreatDoor.Am
set_option linter.unusedSimpArgs false
set_option linter.unusedVariables false
open Go Go.Proofs
attribute [local irreducible] wpA

def spLow : Spec
  | [.osl 0, .v (.int .u64 n), .v (.int .i64 k)], [.arr 5 1 es] => if 0 ≤ n ∧ 0 ≤ k ∧ k ≤ 8 ∧ es.length ≤ 1000000 then (inB es).map fun l => (.ret (.osl 1), [.gone, .arr 5 1 (bv (l ++ lowB n.toNat k.toNat))]) else none
  | _, _ => none

theorem low_ok {Γ : Env} (hΓ : EnvOk Tryz.prog Γ) : CallOk Tryz.prog 102 spLow := by
  refine ok_102 hΓ spLow fun args mem r mem1 h => ?_
  unfold spLow at h
  split at h
  case h_2 => cases h
  rename_i n k es
  obtain ⟨hk, h⟩ := if_some h
  obtain ⟨l, hl, h⟩ := map_some h
  cases h
  have := inB_some es l hl
  subst this
  simp only [bv_length] at hk
  obtain ⟨m, rfl⟩ := Int.eq_ofNat_of_zero_le hk.1
  obtain ⟨k, rfl⟩ := Int.eq_ofNat_of_zero_le hk.2.1
  simp only [Int.toNat_natCast]
  unfold ac_102
  repeat' first
      | with_reducible refine wp_regionS (seg_eval (by simp -dsimp -implicitDefEqProofs; rfl) ?_)
      | with_reducible refine wp_region (seg_eval (by simp -dsimp -implicitDefEqProofs; rfl) ?_)
      | with_reducible refine wp_drawsS (seg_eval (by simp -dsimp -implicitDefEqProofs; rfl) ?_)
      | with_reducible refine wp_draws (seg_eval (by simp -dsimp -implicitDefEqProofs; rfl) ?_)
      | with_reducible refine seg_fin ?_
      | with_reducible refine seg_pan ?_
      | with_reducible refine seg_both ?_ ?_
      | with_reducible refine seg_case (fun x h => ?_) (fun h => ?_)
      | with_reducible refine seg_gate (fun h => ?_) (fun h => ?_)
      | with_reducible refine seg_need ?_ ?_
      | with_reducible refine wp_assoc ?_ | with_reducible refine wp_skipS ?_ | with_reducible refine wp_retS ?_ | with_reducible refine wp_exitS ?_ | with_reducible refine wp_dropS (wp_eqT (by simp -dsimp -implicitDefEqProofs; rfl) ?_) | with_reducible refine wp_sealS (by simp -dsimp -implicitDefEqProofs; rfl) ?_ | with_reducible refine wp_seal (by simp -dsimp -implicitDefEqProofs; rfl) ?_ | with_reducible refine wp_closeS (by simp -dsimp -implicitDefEqProofs; rfl) ?_ | with_reducible refine wp_close (by simp -dsimp -implicitDefEqProofs; rfl) ?_ | with_reducible refine wp_conc_out ?_ | with_reducible refine wp_open_out ?_ | with_reducible refine wp_pack_out ?_ | with_reducible refine wp_blockS ?_ | with_reducible refine wp_skip' ?_ | with_reducible refine wp_ret' ?_ | with_reducible refine wp_exit' ?_ | with_reducible refine wp_drop (wp_eqT (by simp -dsimp -implicitDefEqProofs; rfl) ?_) | with_reducible refine wp_block' ?_
      | with_reducible refine wp_condVS (by simp -dsimp -implicitDefEqProofs; rfl) ?_
      | with_reducible refine wp_condV (by simp -dsimp -implicitDefEqProofs; rfl) ?_
      | with_reducible refine cond_t ?_ | with_reducible refine cond_f ?_ | with_reducible refine cond_v (fun h => ?_) (fun h => ?_)
      | with_reducible refine post_then ?_ | with_reducible refine post_thenE ?_ | with_reducible refine post_thenP ?_ | with_reducible refine post_blkP ?_ | with_reducible refine post_thenR ?_ | with_reducible refine post_blkN ?_ | with_reducible refine post_blkE ?_ | with_reducible refine post_blkF rfl ?_ | with_reducible refine post_blkR ?_
      | with_reducible refine seg_eval (by simp -dsimp -implicitDefEqProofs; rfl) ?_
  refine wp_loop' (fun j ts mm => ∃ i : Nat, i + j = k ∧ ts = [(0, .osl 1), (1, .v (.int .u64 ((m : Int) / 256 ^ i))), (7, .v (.int .i64 k)), (8, .v (.int .i64 i))] ∧ mm = [.gone, .arr 5 1 (bv (l ++ lowB m i))]) k ?_ ?_
  · refine ⟨[(0, 0, 0)], [0, 1], ?_⟩
    refine ⟨rfl, rfl, 0, by omega, ?_, ?_⟩
    · simp [lowB, List.idxOf, List.findIdx, List.findIdx.go]
    · simp [lowB]
  · rintro j ts mm ⟨i, hi, rfl, rfl⟩
    repeat' first
        | with_reducible refine wp_regionS (seg_eval (by simp -dsimp -implicitDefEqProofs; rfl) ?_)
        | with_reducible refine wp_region (seg_eval (by simp -dsimp -implicitDefEqProofs; rfl) ?_)
        | with_reducible refine wp_drawsS (seg_eval (by simp -dsimp -implicitDefEqProofs; rfl) ?_)
        | with_reducible refine wp_draws (seg_eval (by simp -dsimp -implicitDefEqProofs; rfl) ?_)
        | with_reducible refine seg_fin ?_
        | with_reducible refine seg_pan ?_
        | with_reducible refine seg_both ?_ ?_
        | with_reducible refine seg_case (fun x h => ?_) (fun h => ?_)
        | with_reducible refine seg_gate (fun h => ?_) (fun h => ?_)
        | with_reducible refine seg_need ?_ ?_
        | with_reducible refine wp_assoc ?_ | with_reducible refine wp_skipS ?_ | with_reducible refine wp_retS ?_ | with_reducible refine wp_exitS ?_ | with_reducible refine wp_dropS (wp_eqT (by simp -dsimp -implicitDefEqProofs; rfl) ?_) | with_reducible refine wp_sealS (by simp -dsimp -implicitDefEqProofs; rfl) ?_ | with_reducible refine wp_seal (by simp -dsimp -implicitDefEqProofs; rfl) ?_ | with_reducible refine wp_closeS (by simp -dsimp -implicitDefEqProofs; rfl) ?_ | with_reducible refine wp_close (by simp -dsimp -implicitDefEqProofs; rfl) ?_ | with_reducible refine wp_conc_out ?_ | with_reducible refine wp_open_out ?_ | with_reducible refine wp_pack_out ?_ | with_reducible refine wp_blockS ?_ | with_reducible refine wp_skip' ?_ | with_reducible refine wp_ret' ?_ | with_reducible refine wp_exit' ?_ | with_reducible refine wp_drop (wp_eqT (by simp -dsimp -implicitDefEqProofs; rfl) ?_) | with_reducible refine wp_block' ?_
        | with_reducible refine wp_condVS (by simp -dsimp -implicitDefEqProofs; rfl) ?_
        | with_reducible refine wp_condV (by simp -dsimp -implicitDefEqProofs; rfl) ?_
        | with_reducible refine cond_t ?_ | with_reducible refine cond_f ?_ | with_reducible refine cond_v (fun h => ?_) (fun h => ?_)
        | with_reducible refine post_then ?_ | with_reducible refine post_thenE ?_ | with_reducible refine post_thenP ?_ | with_reducible refine post_blkP ?_ | with_reducible refine post_thenR ?_ | with_reducible refine post_blkN ?_ | with_reducible refine post_blkE ?_ | with_reducible refine post_blkF rfl ?_ | with_reducible refine post_blkR ?_
        | with_reducible refine seg_eval (by simp -dsimp -implicitDefEqProofs; rfl) ?_
    · have := lowB_length m i
      simp; omega
    · simp only [decide_eq_true_eq] at h
      refine ⟨j - 1, by omega, [], [0, 3], ?_⟩
      refine ⟨rfl, rfl, i + 1, by omega, ?_, ?_⟩
      · rw [IntWalk.i64_in _ (by omega)]
        simp [List.idxOf, List.findIdx, List.findIdx.go, cast_div_step]
      · simp [lowB_snoc]
    · simp only [decide_eq_false_iff_not] at h
      have : i = k := by omega
      subst this
      exact post_fin rfl rfl ⟨[], [0, 1], rfl, rfl, rfl, by simp⟩

def E2 : Env := ((Env.none.put 120 [] spLen64).put 102 [true] spLow)
theorem E2_ok : EnvOk Tryz.prog E2 := Env.put_ok _ (Env.put_ok _ (Env.none_ok _) (len64_ok (Env.none_ok _))) (low_ok (Env.none_ok _))
attribute [simp] E2 spLow spLen64

def spNumber : Spec
  | [.osl 0, .v (.int .u64 n)], [.arr 5 1 es] => if 0 ≤ n ∧ n < 18446744073709551616 ∧ es.length ≤ 900000 then (inB es).map fun l => (.ret (.osl 1), [.gone, .arr 5 1 (bv (l ++ numB n.toNat))]) else none
  | _, _ => none

theorem number_ok : CallOk Tryz.prog 101 spNumber := by
  refine ok_101 E2_ok spNumber fun args mem r mem1 h => ?_
  unfold spNumber at h
  split at h
  case h_2 => cases h
  rename_i n es
  obtain ⟨hk, h⟩ := if_some h
  obtain ⟨l, hl, h⟩ := map_some h
  cases h
  have := inB_some es l hl
  subst this
  simp only [bv_length] at hk
  obtain ⟨m, rfl⟩ := Int.eq_ofNat_of_zero_le hk.1
  simp only [Int.toNat_natCast]
  unfold ac_101
  with_reducible refine wp_regionS (seg_eval (by simp -dsimp -implicitDefEqProofs; rfl) ?_)
  with_reducible refine seg_fin ?_
  with_reducible refine wp_regionS (seg_eval (by simp -dsimp -implicitDefEqProofs; rfl) ?_)
  with_reducible refine seg_need ?_ (seg_fin ?_)
  · omega
  have h8 : nlen m ≤ 8 := nlen_le8 (by omega)
  have e : IntKind.i64.wrap ((IntKind.i64.wrap (↑(bl m) + 7)).tdiv 8) = (nlen m : Int) := by
    have := bl_nlen m
    rw [IntWalk.i64_in (bl m + 7) (by omega), Int.tdiv_eq_ediv_of_nonneg (by omega), IntWalk.i64_in _ (by omega)]
    omega
  rw [e]
  repeat' first
      | with_reducible refine wp_regionS (seg_eval (by simp -dsimp -implicitDefEqProofs; rfl) ?_)
      | with_reducible refine wp_region (seg_eval (by simp -dsimp -implicitDefEqProofs; rfl) ?_)
      | with_reducible refine wp_drawsS (seg_eval (by simp -dsimp -implicitDefEqProofs; rfl) ?_)
      | with_reducible refine wp_draws (seg_eval (by simp -dsimp -implicitDefEqProofs; rfl) ?_)
      | with_reducible refine seg_fin ?_
      | with_reducible refine seg_pan ?_
      | with_reducible refine seg_both ?_ ?_
      | with_reducible refine seg_case (fun x h => ?_) (fun h => ?_)
      | with_reducible refine seg_gate (fun h => ?_) (fun h => ?_)
      | with_reducible refine seg_need ?_ ?_
      | with_reducible refine wp_assoc ?_ | with_reducible refine wp_skipS ?_ | with_reducible refine wp_retS ?_ | with_reducible refine wp_exitS ?_ | with_reducible refine wp_dropS (wp_eqT (by simp -dsimp -implicitDefEqProofs; rfl) ?_) | with_reducible refine wp_sealS (by simp -dsimp -implicitDefEqProofs; rfl) ?_ | with_reducible refine wp_seal (by simp -dsimp -implicitDefEqProofs; rfl) ?_ | with_reducible refine wp_closeS (by simp -dsimp -implicitDefEqProofs; rfl) ?_ | with_reducible refine wp_close (by simp -dsimp -implicitDefEqProofs; rfl) ?_ | with_reducible refine wp_conc_out ?_ | with_reducible refine wp_open_out ?_ | with_reducible refine wp_pack_out ?_ | with_reducible refine wp_blockS ?_ | with_reducible refine wp_skip' ?_ | with_reducible refine wp_ret' ?_ | with_reducible refine wp_exit' ?_ | with_reducible refine wp_drop (wp_eqT (by simp -dsimp -implicitDefEqProofs; rfl) ?_) | with_reducible refine wp_block' ?_
      | with_reducible refine wp_condVS (by simp -dsimp -implicitDefEqProofs; rfl) ?_
      | with_reducible refine wp_condV (by simp -dsimp -implicitDefEqProofs; rfl) ?_
      | with_reducible refine cond_t ?_ | with_reducible refine cond_f ?_ | with_reducible refine cond_v (fun h => ?_) (fun h => ?_)
      | with_reducible refine post_then ?_ | with_reducible refine post_thenE ?_ | with_reducible refine post_thenP ?_ | with_reducible refine post_blkP ?_ | with_reducible refine post_thenR ?_ | with_reducible refine post_blkN ?_ | with_reducible refine post_blkE ?_ | with_reducible refine post_blkF rfl ?_ | with_reducible refine post_blkR ?_
      | with_reducible refine seg_eval (by simp -dsimp -implicitDefEqProofs; rfl) ?_
  · omega
  · omega
  · exact post_fin rfl rfl ⟨[], [0, 3], rfl, rfl, rfl, by simp [numB]⟩

def E2b : Env := E2.put 101 [true] spNumber
theorem E2b_ok : EnvOk Tryz.prog E2b := Env.put_ok _ E2_ok number_ok
attribute [simp] E2b spNumber
end Go.Proofs.YtajpaagbfmjacaaGreatDoor.Am
