import Derived.Test.YtajpaagbfmjacaaGreatDoorZF23
import Derived.Test.YtajpaagbfmjacaaGreatDoorZQ6
namespace Go.Proofs.YtajpaagbfmjacaaGreatDoor.Am
set_option linter.unusedSimpArgs false
set_option linter.unusedVariables false
open Go Go.Proofs
attribute [local irreducible] wpA
attribute [-simp] splice

instance (v : List Nat) : Decidable (okV v) := by unfold okV; infer_instance

theorem max_nat (m n : Nat) : (if m < n then (n : Int) else (m : Int)) = ((max m n : Nat) : Int) := by split <;> omega
theorem max_if (m n : Nat) : (if (m : Int) < (n : Int) then (n : Int) else (m : Int)) = ((max m n : Nat) : Int) := by split <;> omega

/-- a vector, joined so far -/
def stepJ (a b : List Nat) (i : Nat) : List Nat := (joinV a b).take i ++ a.drop i
theorem stepJ_length {a b : List Nat} (h : a.length = b.length) {i : Nat} (hi : i ≤ a.length) : (stepJ a b i).length = a.length := by
  simp [stepJ, joinV_length h]; omega
theorem stepJ_get {a b : List Nat} (h : a.length = b.length) {i x : Nat} (hi : a[i]? = some x) : (stepJ a b i)[i]? = some x := by
  have hl := (List.getElem?_eq_some_iff.1 hi).1
  unfold stepJ
  rw [List.getElem?_append_right (by rw [List.length_take]; omega)]
  simp only [List.length_take, joinV_length h, Nat.min_eq_left (Nat.le_of_lt hl), Nat.sub_self]
  rw [List.getElem?_drop]
  simpa using hi
theorem stepJ_set {a b : List Nat} (h : a.length = b.length) {i x y : Nat} (hi : a[i]? = some x) (hj : b[i]? = some y) : (stepJ a b i).set i (max x y) = stepJ a b (i + 1) := by
  have hl := (List.getElem?_eq_some_iff.1 hi).1
  have hg := joinV_get hi hj
  unfold stepJ
  rw [List.set_append_right _ _ (by rw [List.length_take]; omega)]
  simp only [List.length_take, joinV_length h, Nat.min_eq_left (Nat.le_of_lt hl), Nat.sub_self]
  rw [take_snoc hg, List.drop_eq_getElem_cons hl, List.set_cons_zero, List.append_assoc]
  rfl
theorem stepJ_zero (a b : List Nat) : stepJ a b 0 = a := by simp [stepJ]
theorem stepJ_all {a b : List Nat} (h : a.length = b.length) : stepJ a b a.length = joinV a b := by
  unfold stepJ
  rw [List.take_of_length_le (by rw [joinV_length h]; omega), List.drop_of_length_le (by omega), List.append_nil]

end Go.Proofs.YtajpaagbfmjacaaGreatDoor.Am
namespace Go.Proofs.YtajpaagbfmjacaaGreatDoor.Am
set_option linter.unusedSimpArgs false
set_option linter.unusedVariables false
open Go Go.Proofs
attribute [local irreducible] wpA
attribute [-simp] splice

theorem bdy_bc {cs : List AV} {b : Int × List Nat × ByteArray} (h : unB cs = some b) : cs = bc b.1 b.2.1 b.2.2 := unB_some (k := b.1) (v := b.2.1) (t := b.2.2) h

/-! ### May a body be? -/
def spMay9 : Spec
  | [.agg cs], [] => (unB cs).bind fun b => if okV b.2.1 then some (.ret (.v (.bool (mayB ⟨b.1, b.2.1, b.2.2⟩))), []) else none
  | _, _ => none

theorem mayB_of {k : Int} {v : List Nat} {t : ByteArray} (h : allB v = true) : mayB ⟨k, v, t⟩ = decide (1 ≤ k ∧ k ≤ 3 ∧ t.size ≤ 400) := by simp [mayB, h]
theorem mayB_no {k : Int} {v : List Nat} {t : ByteArray} (h : allB v = false) : mayB ⟨k, v, t⟩ = false := by simp [mayB, h]

set_option maxHeartbeats 2000000 in
theorem may9_ok : CallOk Tryz.prog 77 spMay9 := by
  refine ok_77 E23_ok spMay9 fun args mem r mem1 h => ?_
  unfold spMay9 at h
  split at h
  case h_2 => cases h
  rename_i cs
  obtain ⟨⟨k, v, t⟩, hb, h1⟩ := Option.bind_eq_some_iff.1 h
  have := bdy_bc hb
  subst this
  clear hb h
  obtain ⟨hv, h2⟩ := if_some h1
  clear h1
  cases h2
  simp only at hv ⊢
  have hvl := hv.1
  unfold ac_77
  repeat' first
      | with_reducible refine wp_regionS (seg_eval (by simp -dsimp -implicitDefEqProofs [hvl]; rfl) ?_)
      | with_reducible refine wp_region (seg_eval (by simp -dsimp -implicitDefEqProofs [hvl]; rfl) ?_)
      | with_reducible refine wp_drawsS (seg_eval (by simp -dsimp -implicitDefEqProofs [hvl]; rfl) ?_)
      | with_reducible refine wp_draws (seg_eval (by simp -dsimp -implicitDefEqProofs [hvl]; rfl) ?_)
      | with_reducible refine seg_fin ?_
      | with_reducible refine seg_pan ?_
      | with_reducible refine seg_both ?_ ?_
      | with_reducible refine seg_case (fun x h => ?_) (fun h => ?_)
      | with_reducible refine seg_gate (fun h => ?_) (fun h => ?_)
      | with_reducible refine seg_need ?_ ?_
      | with_reducible refine wp_assoc ?_ | with_reducible refine wp_skipS ?_ | with_reducible refine wp_retS ?_ | with_reducible refine wp_exitS ?_ | with_reducible refine wp_dropS (wp_eqT (by simp -dsimp -implicitDefEqProofs [hvl]; rfl) ?_) | with_reducible refine wp_sealS (by simp -dsimp -implicitDefEqProofs [hvl]; rfl) ?_ | with_reducible refine wp_seal (by simp -dsimp -implicitDefEqProofs [hvl]; rfl) ?_ | with_reducible refine wp_closeS (by simp -dsimp -implicitDefEqProofs [hvl]; rfl) ?_ | with_reducible refine wp_close (by simp -dsimp -implicitDefEqProofs [hvl]; rfl) ?_ | with_reducible refine wp_conc_out ?_ | with_reducible refine wp_open_out ?_ | with_reducible refine wp_pack_out ?_ | with_reducible refine wp_blockS ?_ | with_reducible refine wp_skip' ?_ | with_reducible refine wp_ret' ?_ | with_reducible refine wp_exit' ?_ | with_reducible refine wp_drop (wp_eqT (by simp -dsimp -implicitDefEqProofs [hvl]; rfl) ?_) | with_reducible refine wp_block' ?_
      | with_reducible refine wp_condVS (by simp -dsimp -implicitDefEqProofs [hvl]; rfl) ?_
      | with_reducible refine wp_condV (by simp -dsimp -implicitDefEqProofs [hvl]; rfl) ?_
      | with_reducible refine cond_t ?_ | with_reducible refine cond_f ?_ | with_reducible refine cond_v (fun h => ?_) (fun h => ?_)
      | with_reducible refine post_then ?_ | with_reducible refine post_thenE ?_ | with_reducible refine post_thenP ?_ | with_reducible refine post_blkP ?_ | with_reducible refine post_thenR ?_ | with_reducible refine post_blkN ?_ | with_reducible refine post_blkE ?_ | with_reducible refine post_blkF rfl ?_ | with_reducible refine post_blkR ?_
      | with_reducible refine seg_eval (by simp -dsimp -implicitDefEqProofs [hvl]; rfl) ?_
  refine wp_loop' (fun j ts mm => ∃ i : Nat, i + j = 16 ∧ (∀ n ∈ v.take i, n ≤ 1000) ∧ ts = [(1, .fptr (.agg (bc k v t)) 0), (6, .agg (vc v)), (7, .v (.int .i64 i))] ∧ mm = [.gone]) 16 ?_ ?_
  · exact ⟨[], [0], by simp, by simp, 0, by omega, by simp, by simp, by simp⟩
  · rintro j ts mm ⟨i, hi, hpre, rfl, rfl⟩
    by_cases hlt : i < 16
    · obtain ⟨x, hx⟩ : ∃ x, v[i]? = some x := ⟨_, List.getElem?_eq_getElem (by omega)⟩
      have hd2 : decide (i < 16) = true := by simp [hlt]
      have hd3 : decide ((i : Int) < 16) = true := by rw [decide_eq_true_eq]; omega
      have h64 : IntKind.wrap .i64 ((i : Int) + 1) = ((i + 1 : Nat) : Int) := by rw [IntWalk.i64_in _ (by omega)]; rfl
      have hgx := take_drop_one hx
      have hlt16 : i + 1 ≤ 16 := by omega
      by_cases hxy : 1000 < x
      · have hg1 : decide (1000 < x) = true := by simp [hxy]
        have hg2 : decide ((1000 : Int) < (x : Int)) = true := by rw [decide_eq_true_eq]; omega
        have hno := mayB_no (k := k) (t := t) (allB_no hx hxy)
        repeat' first
            | with_reducible refine wp_regionS (seg_eval (by simp -dsimp -implicitDefEqProofs [hvl, hd2, hd3, h64, hgx, hlt, hlt16, hg1, hg2]; rfl) ?_)
            | with_reducible refine wp_region (seg_eval (by simp -dsimp -implicitDefEqProofs [hvl, hd2, hd3, h64, hgx, hlt, hlt16, hg1, hg2]; rfl) ?_)
            | with_reducible refine wp_drawsS (seg_eval (by simp -dsimp -implicitDefEqProofs [hvl, hd2, hd3, h64, hgx, hlt, hlt16, hg1, hg2]; rfl) ?_)
            | with_reducible refine wp_draws (seg_eval (by simp -dsimp -implicitDefEqProofs [hvl, hd2, hd3, h64, hgx, hlt, hlt16, hg1, hg2]; rfl) ?_)
            | with_reducible refine seg_fin ?_
            | with_reducible refine seg_pan ?_
            | with_reducible refine seg_both ?_ ?_
            | with_reducible refine seg_case (fun x h => ?_) (fun h => ?_)
            | with_reducible refine seg_gate (fun h => ?_) (fun h => ?_)
            | with_reducible refine seg_need ?_ ?_
            | with_reducible refine wp_assoc ?_ | with_reducible refine wp_skipS ?_ | with_reducible refine wp_retS ?_ | with_reducible refine wp_exitS ?_ | with_reducible refine wp_dropS (wp_eqT (by simp -dsimp -implicitDefEqProofs [hvl, hd2, hd3, h64, hgx, hlt, hlt16, hg1, hg2]; rfl) ?_) | with_reducible refine wp_sealS (by simp -dsimp -implicitDefEqProofs [hvl, hd2, hd3, h64, hgx, hlt, hlt16, hg1, hg2]; rfl) ?_ | with_reducible refine wp_seal (by simp -dsimp -implicitDefEqProofs [hvl, hd2, hd3, h64, hgx, hlt, hlt16, hg1, hg2]; rfl) ?_ | with_reducible refine wp_closeS (by simp -dsimp -implicitDefEqProofs [hvl, hd2, hd3, h64, hgx, hlt, hlt16, hg1, hg2]; rfl) ?_ | with_reducible refine wp_close (by simp -dsimp -implicitDefEqProofs [hvl, hd2, hd3, h64, hgx, hlt, hlt16, hg1, hg2]; rfl) ?_ | with_reducible refine wp_conc_out ?_ | with_reducible refine wp_open_out ?_ | with_reducible refine wp_pack_out ?_ | with_reducible refine wp_blockS ?_ | with_reducible refine wp_skip' ?_ | with_reducible refine wp_ret' ?_ | with_reducible refine wp_exit' ?_ | with_reducible refine wp_drop (wp_eqT (by simp -dsimp -implicitDefEqProofs [hvl, hd2, hd3, h64, hgx, hlt, hlt16, hg1, hg2]; rfl) ?_) | with_reducible refine wp_block' ?_
            | with_reducible refine wp_condVS (by simp -dsimp -implicitDefEqProofs [hvl, hd2, hd3, h64, hgx, hlt, hlt16, hg1, hg2]; rfl) ?_
            | with_reducible refine wp_condV (by simp -dsimp -implicitDefEqProofs [hvl, hd2, hd3, h64, hgx, hlt, hlt16, hg1, hg2]; rfl) ?_
            | with_reducible refine cond_t ?_ | with_reducible refine cond_f ?_ | with_reducible refine cond_v (fun h => ?_) (fun h => ?_)
            | with_reducible refine post_then ?_ | with_reducible refine post_thenE ?_ | with_reducible refine post_thenP ?_ | with_reducible refine post_blkP ?_ | with_reducible refine post_thenR ?_ | with_reducible refine post_blkN ?_ | with_reducible refine post_blkE ?_ | with_reducible refine post_blkF rfl ?_ | with_reducible refine post_blkR ?_
            | with_reducible refine seg_eval (by simp -dsimp -implicitDefEqProofs [hvl, hd2, hd3, h64, hgx, hlt, hlt16, hg1, hg2]; rfl) ?_
        all_goals first
          | omega
          | rw [hno]; exact post_fin rfl rfl ⟨[], [], rfl, rfl, rfl, rfl⟩
          | trace_state
      · have hg1 : decide (1000 < x) = false := by simp [hxy]
        have hg2 : decide ((1000 : Int) < (x : Int)) = false := by rw [decide_eq_false_iff_not]; omega
        repeat' first
            | with_reducible refine wp_regionS (seg_eval (by simp -dsimp -implicitDefEqProofs [hvl, hd2, hd3, h64, hgx, hlt, hlt16, hg1, hg2]; rfl) ?_)
            | with_reducible refine wp_region (seg_eval (by simp -dsimp -implicitDefEqProofs [hvl, hd2, hd3, h64, hgx, hlt, hlt16, hg1, hg2]; rfl) ?_)
            | with_reducible refine wp_drawsS (seg_eval (by simp -dsimp -implicitDefEqProofs [hvl, hd2, hd3, h64, hgx, hlt, hlt16, hg1, hg2]; rfl) ?_)
            | with_reducible refine wp_draws (seg_eval (by simp -dsimp -implicitDefEqProofs [hvl, hd2, hd3, h64, hgx, hlt, hlt16, hg1, hg2]; rfl) ?_)
            | with_reducible refine seg_fin ?_
            | with_reducible refine seg_pan ?_
            | with_reducible refine seg_both ?_ ?_
            | with_reducible refine seg_case (fun x h => ?_) (fun h => ?_)
            | with_reducible refine seg_gate (fun h => ?_) (fun h => ?_)
            | with_reducible refine seg_need ?_ ?_
            | with_reducible refine wp_assoc ?_ | with_reducible refine wp_skipS ?_ | with_reducible refine wp_retS ?_ | with_reducible refine wp_exitS ?_ | with_reducible refine wp_dropS (wp_eqT (by simp -dsimp -implicitDefEqProofs [hvl, hd2, hd3, h64, hgx, hlt, hlt16, hg1, hg2]; rfl) ?_) | with_reducible refine wp_sealS (by simp -dsimp -implicitDefEqProofs [hvl, hd2, hd3, h64, hgx, hlt, hlt16, hg1, hg2]; rfl) ?_ | with_reducible refine wp_seal (by simp -dsimp -implicitDefEqProofs [hvl, hd2, hd3, h64, hgx, hlt, hlt16, hg1, hg2]; rfl) ?_ | with_reducible refine wp_closeS (by simp -dsimp -implicitDefEqProofs [hvl, hd2, hd3, h64, hgx, hlt, hlt16, hg1, hg2]; rfl) ?_ | with_reducible refine wp_close (by simp -dsimp -implicitDefEqProofs [hvl, hd2, hd3, h64, hgx, hlt, hlt16, hg1, hg2]; rfl) ?_ | with_reducible refine wp_conc_out ?_ | with_reducible refine wp_open_out ?_ | with_reducible refine wp_pack_out ?_ | with_reducible refine wp_blockS ?_ | with_reducible refine wp_skip' ?_ | with_reducible refine wp_ret' ?_ | with_reducible refine wp_exit' ?_ | with_reducible refine wp_drop (wp_eqT (by simp -dsimp -implicitDefEqProofs [hvl, hd2, hd3, h64, hgx, hlt, hlt16, hg1, hg2]; rfl) ?_) | with_reducible refine wp_block' ?_
            | with_reducible refine wp_condVS (by simp -dsimp -implicitDefEqProofs [hvl, hd2, hd3, h64, hgx, hlt, hlt16, hg1, hg2]; rfl) ?_
            | with_reducible refine wp_condV (by simp -dsimp -implicitDefEqProofs [hvl, hd2, hd3, h64, hgx, hlt, hlt16, hg1, hg2]; rfl) ?_
            | with_reducible refine cond_t ?_ | with_reducible refine cond_f ?_ | with_reducible refine cond_v (fun h => ?_) (fun h => ?_)
            | with_reducible refine post_then ?_ | with_reducible refine post_thenE ?_ | with_reducible refine post_thenP ?_ | with_reducible refine post_blkP ?_ | with_reducible refine post_thenR ?_ | with_reducible refine post_blkN ?_ | with_reducible refine post_blkE ?_ | with_reducible refine post_blkF rfl ?_ | with_reducible refine post_blkR ?_
            | with_reducible refine seg_eval (by simp -dsimp -implicitDefEqProofs [hvl, hd2, hd3, h64, hgx, hlt, hlt16, hg1, hg2]; rfl) ?_
        all_goals first
          | omega
          | refine ⟨j - 1, by omega, [], [0], by simp, by simp, i + 1, by omega, ?_, by simp, by simp⟩
            rw [take_snoc hx]
            intro n hn
            rcases List.mem_append.1 hn with hn | hn
            · exact hpre n hn
            · rw [List.mem_singleton.1 hn]; omega
          | trace_state
    · have hd2 : decide (i < 16) = false := by simp [hlt]
      have hd3 : decide ((i : Int) < 16) = false := by rw [decide_eq_false_iff_not]; omega
      have hyes : allB v = true := by
        rw [List.take_of_length_le (by omega)] at hpre
        simpa [allB] using hpre
      rw [mayB_of hyes]
      repeat' first
          | with_reducible refine wp_regionS (seg_eval (by simp -dsimp -implicitDefEqProofs [hvl, hd2, hd3]; rfl) ?_)
          | with_reducible refine wp_region (seg_eval (by simp -dsimp -implicitDefEqProofs [hvl, hd2, hd3]; rfl) ?_)
          | with_reducible refine wp_drawsS (seg_eval (by simp -dsimp -implicitDefEqProofs [hvl, hd2, hd3]; rfl) ?_)
          | with_reducible refine wp_draws (seg_eval (by simp -dsimp -implicitDefEqProofs [hvl, hd2, hd3]; rfl) ?_)
          | with_reducible refine seg_fin ?_
          | with_reducible refine seg_pan ?_
          | with_reducible refine seg_both ?_ ?_
          | with_reducible refine seg_case (fun x h => ?_) (fun h => ?_)
          | with_reducible refine seg_gate (fun h => ?_) (fun h => ?_)
          | with_reducible refine seg_need ?_ ?_
          | with_reducible refine wp_assoc ?_ | with_reducible refine wp_skipS ?_ | with_reducible refine wp_retS ?_ | with_reducible refine wp_exitS ?_ | with_reducible refine wp_dropS (wp_eqT (by simp -dsimp -implicitDefEqProofs [hvl, hd2, hd3]; rfl) ?_) | with_reducible refine wp_sealS (by simp -dsimp -implicitDefEqProofs [hvl, hd2, hd3]; rfl) ?_ | with_reducible refine wp_seal (by simp -dsimp -implicitDefEqProofs [hvl, hd2, hd3]; rfl) ?_ | with_reducible refine wp_closeS (by simp -dsimp -implicitDefEqProofs [hvl, hd2, hd3]; rfl) ?_ | with_reducible refine wp_close (by simp -dsimp -implicitDefEqProofs [hvl, hd2, hd3]; rfl) ?_ | with_reducible refine wp_conc_out ?_ | with_reducible refine wp_open_out ?_ | with_reducible refine wp_pack_out ?_ | with_reducible refine wp_blockS ?_ | with_reducible refine wp_skip' ?_ | with_reducible refine wp_ret' ?_ | with_reducible refine wp_exit' ?_ | with_reducible refine wp_drop (wp_eqT (by simp -dsimp -implicitDefEqProofs [hvl, hd2, hd3]; rfl) ?_) | with_reducible refine wp_block' ?_
          | with_reducible refine wp_condVS (by simp -dsimp -implicitDefEqProofs [hvl, hd2, hd3]; rfl) ?_
          | with_reducible refine wp_condV (by simp -dsimp -implicitDefEqProofs [hvl, hd2, hd3]; rfl) ?_
          | with_reducible refine cond_t ?_ | with_reducible refine cond_f ?_ | with_reducible refine cond_v (fun h => ?_) (fun h => ?_)
          | with_reducible refine post_then ?_ | with_reducible refine post_thenE ?_ | with_reducible refine post_thenP ?_ | with_reducible refine post_blkP ?_ | with_reducible refine post_thenR ?_ | with_reducible refine post_blkN ?_ | with_reducible refine post_blkE ?_ | with_reducible refine post_blkF rfl ?_ | with_reducible refine post_blkR ?_
          | with_reducible refine seg_eval (by simp -dsimp -implicitDefEqProofs [hvl, hd2, hd3]; rfl) ?_
      all_goals first
        | omega
        | (simp only [decide_eq_true_eq, decide_eq_false_iff_not] at *
           refine post_bool rfl ?_
           rw [Bool.eq_iff_iff]; simp only [decide_eq_true_eq, Bool.false_eq_true, false_iff]; omega)
        | trace_state

set_option maxHeartbeats 2000000 in
theorem may9R_ok : CallOk Tryz.prog 79 spMay9 := by
  refine ok_79 E23_ok spMay9 fun args mem r mem1 h => ?_
  unfold spMay9 at h
  split at h
  case h_2 => cases h
  rename_i cs
  obtain ⟨⟨k, v, t⟩, hb, h1⟩ := Option.bind_eq_some_iff.1 h
  have := bdy_bc hb
  subst this
  clear hb h
  obtain ⟨hv, h2⟩ := if_some h1
  clear h1
  cases h2
  simp only at hv ⊢
  have hvl := hv.1
  unfold ac_79
  repeat' first
      | with_reducible refine wp_regionS (seg_eval (by simp -dsimp -implicitDefEqProofs [hvl]; rfl) ?_)
      | with_reducible refine wp_region (seg_eval (by simp -dsimp -implicitDefEqProofs [hvl]; rfl) ?_)
      | with_reducible refine wp_drawsS (seg_eval (by simp -dsimp -implicitDefEqProofs [hvl]; rfl) ?_)
      | with_reducible refine wp_draws (seg_eval (by simp -dsimp -implicitDefEqProofs [hvl]; rfl) ?_)
      | with_reducible refine seg_fin ?_
      | with_reducible refine seg_pan ?_
      | with_reducible refine seg_both ?_ ?_
      | with_reducible refine seg_case (fun x h => ?_) (fun h => ?_)
      | with_reducible refine seg_gate (fun h => ?_) (fun h => ?_)
      | with_reducible refine seg_need ?_ ?_
      | with_reducible refine wp_assoc ?_ | with_reducible refine wp_skipS ?_ | with_reducible refine wp_retS ?_ | with_reducible refine wp_exitS ?_ | with_reducible refine wp_dropS (wp_eqT (by simp -dsimp -implicitDefEqProofs [hvl]; rfl) ?_) | with_reducible refine wp_sealS (by simp -dsimp -implicitDefEqProofs [hvl]; rfl) ?_ | with_reducible refine wp_seal (by simp -dsimp -implicitDefEqProofs [hvl]; rfl) ?_ | with_reducible refine wp_closeS (by simp -dsimp -implicitDefEqProofs [hvl]; rfl) ?_ | with_reducible refine wp_close (by simp -dsimp -implicitDefEqProofs [hvl]; rfl) ?_ | with_reducible refine wp_conc_out ?_ | with_reducible refine wp_open_out ?_ | with_reducible refine wp_pack_out ?_ | with_reducible refine wp_blockS ?_ | with_reducible refine wp_skip' ?_ | with_reducible refine wp_ret' ?_ | with_reducible refine wp_exit' ?_ | with_reducible refine wp_drop (wp_eqT (by simp -dsimp -implicitDefEqProofs [hvl]; rfl) ?_) | with_reducible refine wp_block' ?_
      | with_reducible refine wp_condVS (by simp -dsimp -implicitDefEqProofs [hvl]; rfl) ?_
      | with_reducible refine wp_condV (by simp -dsimp -implicitDefEqProofs [hvl]; rfl) ?_
      | with_reducible refine cond_t ?_ | with_reducible refine cond_f ?_ | with_reducible refine cond_v (fun h => ?_) (fun h => ?_)
      | with_reducible refine post_then ?_ | with_reducible refine post_thenE ?_ | with_reducible refine post_thenP ?_ | with_reducible refine post_blkP ?_ | with_reducible refine post_thenR ?_ | with_reducible refine post_blkN ?_ | with_reducible refine post_blkE ?_ | with_reducible refine post_blkF rfl ?_ | with_reducible refine post_blkR ?_
      | with_reducible refine seg_eval (by simp -dsimp -implicitDefEqProofs [hvl]; rfl) ?_
  refine wp_loop' (fun j ts mm => ∃ i : Nat, i + j = 16 ∧ (∀ n ∈ v.take i, n ≤ 1000) ∧ ts = [(1, .fptr (.agg (bc k v t)) 0), (3, .v (.int .i64 i))] ∧ mm = [.gone]) 16 ?_ ?_
  · exact ⟨[], [0], by simp, by simp, 0, by omega, by simp, by simp, by simp⟩
  · rintro j ts mm ⟨i, hi, hpre, rfl, rfl⟩
    by_cases hlt : i < 16
    · obtain ⟨x, hx⟩ : ∃ x, v[i]? = some x := ⟨_, List.getElem?_eq_getElem (by omega)⟩
      have hd2 : decide (i < 16) = true := by simp [hlt]
      have hd3 : decide ((i : Int) < 16) = true := by rw [decide_eq_true_eq]; omega
      have h64 : IntKind.wrap .i64 ((i : Int) + 1) = ((i + 1 : Nat) : Int) := by rw [IntWalk.i64_in _ (by omega)]; rfl
      have hgx := bc_at (k := k) (t := t) hx
      have hlt16 : 1 + i + 1 ≤ 18 := by omega
      by_cases hxy : 1000 < x
      · have hg1 : decide (1000 < x) = true := by simp [hxy]
        have hg2 : decide ((1000 : Int) < (x : Int)) = true := by rw [decide_eq_true_eq]; omega
        have hno := mayB_no (k := k) (t := t) (allB_no hx hxy)
        repeat' first
            | with_reducible refine wp_regionS (seg_eval (by simp -dsimp -implicitDefEqProofs [hvl, hd2, hd3, h64, hgx, hlt, hlt16, hg1, hg2]; rfl) ?_)
            | with_reducible refine wp_region (seg_eval (by simp -dsimp -implicitDefEqProofs [hvl, hd2, hd3, h64, hgx, hlt, hlt16, hg1, hg2]; rfl) ?_)
            | with_reducible refine wp_drawsS (seg_eval (by simp -dsimp -implicitDefEqProofs [hvl, hd2, hd3, h64, hgx, hlt, hlt16, hg1, hg2]; rfl) ?_)
            | with_reducible refine wp_draws (seg_eval (by simp -dsimp -implicitDefEqProofs [hvl, hd2, hd3, h64, hgx, hlt, hlt16, hg1, hg2]; rfl) ?_)
            | with_reducible refine seg_fin ?_
            | with_reducible refine seg_pan ?_
            | with_reducible refine seg_both ?_ ?_
            | with_reducible refine seg_case (fun x h => ?_) (fun h => ?_)
            | with_reducible refine seg_gate (fun h => ?_) (fun h => ?_)
            | with_reducible refine seg_need ?_ ?_
            | with_reducible refine wp_assoc ?_ | with_reducible refine wp_skipS ?_ | with_reducible refine wp_retS ?_ | with_reducible refine wp_exitS ?_ | with_reducible refine wp_dropS (wp_eqT (by simp -dsimp -implicitDefEqProofs [hvl, hd2, hd3, h64, hgx, hlt, hlt16, hg1, hg2]; rfl) ?_) | with_reducible refine wp_sealS (by simp -dsimp -implicitDefEqProofs [hvl, hd2, hd3, h64, hgx, hlt, hlt16, hg1, hg2]; rfl) ?_ | with_reducible refine wp_seal (by simp -dsimp -implicitDefEqProofs [hvl, hd2, hd3, h64, hgx, hlt, hlt16, hg1, hg2]; rfl) ?_ | with_reducible refine wp_closeS (by simp -dsimp -implicitDefEqProofs [hvl, hd2, hd3, h64, hgx, hlt, hlt16, hg1, hg2]; rfl) ?_ | with_reducible refine wp_close (by simp -dsimp -implicitDefEqProofs [hvl, hd2, hd3, h64, hgx, hlt, hlt16, hg1, hg2]; rfl) ?_ | with_reducible refine wp_conc_out ?_ | with_reducible refine wp_open_out ?_ | with_reducible refine wp_pack_out ?_ | with_reducible refine wp_blockS ?_ | with_reducible refine wp_skip' ?_ | with_reducible refine wp_ret' ?_ | with_reducible refine wp_exit' ?_ | with_reducible refine wp_drop (wp_eqT (by simp -dsimp -implicitDefEqProofs [hvl, hd2, hd3, h64, hgx, hlt, hlt16, hg1, hg2]; rfl) ?_) | with_reducible refine wp_block' ?_
            | with_reducible refine wp_condVS (by simp -dsimp -implicitDefEqProofs [hvl, hd2, hd3, h64, hgx, hlt, hlt16, hg1, hg2]; rfl) ?_
            | with_reducible refine wp_condV (by simp -dsimp -implicitDefEqProofs [hvl, hd2, hd3, h64, hgx, hlt, hlt16, hg1, hg2]; rfl) ?_
            | with_reducible refine cond_t ?_ | with_reducible refine cond_f ?_ | with_reducible refine cond_v (fun h => ?_) (fun h => ?_)
            | with_reducible refine post_then ?_ | with_reducible refine post_thenE ?_ | with_reducible refine post_thenP ?_ | with_reducible refine post_blkP ?_ | with_reducible refine post_thenR ?_ | with_reducible refine post_blkN ?_ | with_reducible refine post_blkE ?_ | with_reducible refine post_blkF rfl ?_ | with_reducible refine post_blkR ?_
            | with_reducible refine seg_eval (by simp -dsimp -implicitDefEqProofs [hvl, hd2, hd3, h64, hgx, hlt, hlt16, hg1, hg2]; rfl) ?_
        all_goals first
          | omega
          | rw [hno]; exact post_fin rfl rfl ⟨[], [], rfl, rfl, rfl, rfl⟩
          | trace_state
      · have hg1 : decide (1000 < x) = false := by simp [hxy]
        have hg2 : decide ((1000 : Int) < (x : Int)) = false := by rw [decide_eq_false_iff_not]; omega
        repeat' first
            | with_reducible refine wp_regionS (seg_eval (by simp -dsimp -implicitDefEqProofs [hvl, hd2, hd3, h64, hgx, hlt, hlt16, hg1, hg2]; rfl) ?_)
            | with_reducible refine wp_region (seg_eval (by simp -dsimp -implicitDefEqProofs [hvl, hd2, hd3, h64, hgx, hlt, hlt16, hg1, hg2]; rfl) ?_)
            | with_reducible refine wp_drawsS (seg_eval (by simp -dsimp -implicitDefEqProofs [hvl, hd2, hd3, h64, hgx, hlt, hlt16, hg1, hg2]; rfl) ?_)
            | with_reducible refine wp_draws (seg_eval (by simp -dsimp -implicitDefEqProofs [hvl, hd2, hd3, h64, hgx, hlt, hlt16, hg1, hg2]; rfl) ?_)
            | with_reducible refine seg_fin ?_
            | with_reducible refine seg_pan ?_
            | with_reducible refine seg_both ?_ ?_
            | with_reducible refine seg_case (fun x h => ?_) (fun h => ?_)
            | with_reducible refine seg_gate (fun h => ?_) (fun h => ?_)
            | with_reducible refine seg_need ?_ ?_
            | with_reducible refine wp_assoc ?_ | with_reducible refine wp_skipS ?_ | with_reducible refine wp_retS ?_ | with_reducible refine wp_exitS ?_ | with_reducible refine wp_dropS (wp_eqT (by simp -dsimp -implicitDefEqProofs [hvl, hd2, hd3, h64, hgx, hlt, hlt16, hg1, hg2]; rfl) ?_) | with_reducible refine wp_sealS (by simp -dsimp -implicitDefEqProofs [hvl, hd2, hd3, h64, hgx, hlt, hlt16, hg1, hg2]; rfl) ?_ | with_reducible refine wp_seal (by simp -dsimp -implicitDefEqProofs [hvl, hd2, hd3, h64, hgx, hlt, hlt16, hg1, hg2]; rfl) ?_ | with_reducible refine wp_closeS (by simp -dsimp -implicitDefEqProofs [hvl, hd2, hd3, h64, hgx, hlt, hlt16, hg1, hg2]; rfl) ?_ | with_reducible refine wp_close (by simp -dsimp -implicitDefEqProofs [hvl, hd2, hd3, h64, hgx, hlt, hlt16, hg1, hg2]; rfl) ?_ | with_reducible refine wp_conc_out ?_ | with_reducible refine wp_open_out ?_ | with_reducible refine wp_pack_out ?_ | with_reducible refine wp_blockS ?_ | with_reducible refine wp_skip' ?_ | with_reducible refine wp_ret' ?_ | with_reducible refine wp_exit' ?_ | with_reducible refine wp_drop (wp_eqT (by simp -dsimp -implicitDefEqProofs [hvl, hd2, hd3, h64, hgx, hlt, hlt16, hg1, hg2]; rfl) ?_) | with_reducible refine wp_block' ?_
            | with_reducible refine wp_condVS (by simp -dsimp -implicitDefEqProofs [hvl, hd2, hd3, h64, hgx, hlt, hlt16, hg1, hg2]; rfl) ?_
            | with_reducible refine wp_condV (by simp -dsimp -implicitDefEqProofs [hvl, hd2, hd3, h64, hgx, hlt, hlt16, hg1, hg2]; rfl) ?_
            | with_reducible refine cond_t ?_ | with_reducible refine cond_f ?_ | with_reducible refine cond_v (fun h => ?_) (fun h => ?_)
            | with_reducible refine post_then ?_ | with_reducible refine post_thenE ?_ | with_reducible refine post_thenP ?_ | with_reducible refine post_blkP ?_ | with_reducible refine post_thenR ?_ | with_reducible refine post_blkN ?_ | with_reducible refine post_blkE ?_ | with_reducible refine post_blkF rfl ?_ | with_reducible refine post_blkR ?_
            | with_reducible refine seg_eval (by simp -dsimp -implicitDefEqProofs [hvl, hd2, hd3, h64, hgx, hlt, hlt16, hg1, hg2]; rfl) ?_
        all_goals first
          | omega
          | refine ⟨j - 1, by omega, [], [0], by simp, by simp, i + 1, by omega, ?_, by simp, by simp⟩
            rw [take_snoc hx]
            intro n hn
            rcases List.mem_append.1 hn with hn | hn
            · exact hpre n hn
            · rw [List.mem_singleton.1 hn]; omega
          | trace_state
    · have hd2 : decide (i < 16) = false := by simp [hlt]
      have hd3 : decide ((i : Int) < 16) = false := by rw [decide_eq_false_iff_not]; omega
      have hyes : allB v = true := by
        rw [List.take_of_length_le (by omega)] at hpre
        simpa [allB] using hpre
      rw [mayB_of hyes]
      repeat' first
          | with_reducible refine wp_regionS (seg_eval (by simp -dsimp -implicitDefEqProofs [hvl, hd2, hd3]; rfl) ?_)
          | with_reducible refine wp_region (seg_eval (by simp -dsimp -implicitDefEqProofs [hvl, hd2, hd3]; rfl) ?_)
          | with_reducible refine wp_drawsS (seg_eval (by simp -dsimp -implicitDefEqProofs [hvl, hd2, hd3]; rfl) ?_)
          | with_reducible refine wp_draws (seg_eval (by simp -dsimp -implicitDefEqProofs [hvl, hd2, hd3]; rfl) ?_)
          | with_reducible refine seg_fin ?_
          | with_reducible refine seg_pan ?_
          | with_reducible refine seg_both ?_ ?_
          | with_reducible refine seg_case (fun x h => ?_) (fun h => ?_)
          | with_reducible refine seg_gate (fun h => ?_) (fun h => ?_)
          | with_reducible refine seg_need ?_ ?_
          | with_reducible refine wp_assoc ?_ | with_reducible refine wp_skipS ?_ | with_reducible refine wp_retS ?_ | with_reducible refine wp_exitS ?_ | with_reducible refine wp_dropS (wp_eqT (by simp -dsimp -implicitDefEqProofs [hvl, hd2, hd3]; rfl) ?_) | with_reducible refine wp_sealS (by simp -dsimp -implicitDefEqProofs [hvl, hd2, hd3]; rfl) ?_ | with_reducible refine wp_seal (by simp -dsimp -implicitDefEqProofs [hvl, hd2, hd3]; rfl) ?_ | with_reducible refine wp_closeS (by simp -dsimp -implicitDefEqProofs [hvl, hd2, hd3]; rfl) ?_ | with_reducible refine wp_close (by simp -dsimp -implicitDefEqProofs [hvl, hd2, hd3]; rfl) ?_ | with_reducible refine wp_conc_out ?_ | with_reducible refine wp_open_out ?_ | with_reducible refine wp_pack_out ?_ | with_reducible refine wp_blockS ?_ | with_reducible refine wp_skip' ?_ | with_reducible refine wp_ret' ?_ | with_reducible refine wp_exit' ?_ | with_reducible refine wp_drop (wp_eqT (by simp -dsimp -implicitDefEqProofs [hvl, hd2, hd3]; rfl) ?_) | with_reducible refine wp_block' ?_
          | with_reducible refine wp_condVS (by simp -dsimp -implicitDefEqProofs [hvl, hd2, hd3]; rfl) ?_
          | with_reducible refine wp_condV (by simp -dsimp -implicitDefEqProofs [hvl, hd2, hd3]; rfl) ?_
          | with_reducible refine cond_t ?_ | with_reducible refine cond_f ?_ | with_reducible refine cond_v (fun h => ?_) (fun h => ?_)
          | with_reducible refine post_then ?_ | with_reducible refine post_thenE ?_ | with_reducible refine post_thenP ?_ | with_reducible refine post_blkP ?_ | with_reducible refine post_thenR ?_ | with_reducible refine post_blkN ?_ | with_reducible refine post_blkE ?_ | with_reducible refine post_blkF rfl ?_ | with_reducible refine post_blkR ?_
          | with_reducible refine seg_eval (by simp -dsimp -implicitDefEqProofs [hvl, hd2, hd3]; rfl) ?_
      all_goals first
        | omega
        | (simp only [decide_eq_true_eq, decide_eq_false_iff_not] at *
           refine post_bool rfl ?_
           rw [Bool.eq_iff_iff]; simp only [decide_eq_true_eq, Bool.false_eq_true, false_iff]; omega)
        | trace_state

/-! ### As which of whose broadcasts? -/
def E31 : Env := (E23.put 77 [] spMay9).put 79 [] spMay9
theorem E31_ok : EnvOk Tryz.prog E31 := Env.put_ok _ (Env.put_ok _ E23_ok may9_ok) may9R_ok
attribute [simp] E31 spMay9

end Go.Proofs.YtajpaagbfmjacaaGreatDoor.Am
namespace Go.Proofs.YtajpaagbfmjacaaGreatDoor.Am
set_option linter.unusedSimpArgs false
set_option linter.unusedVariables false
open Go Go.Proofs
attribute [local irreducible] wpA
attribute [-simp] splice

/-! ### A body's bytes -/
def bdPre (k : Nat) (v : List Nat) (i : Nat) : List Fld := nF k :: (v.take i).map nF
theorem av1_snocN (l : List Fld) (n : Nat) : l.map av1 ++ [.agg [.v (.int .i64 1), .v (.int .u64 n), .v (.string ⟨#[]⟩), .v (.float .f64 0)]] = (l ++ [nF n]).map av1 := by simp [av1, nF]
theorem av2_snocN (l : List Fld) (n : Nat) : l.map av2 ++ [.agg [.v (.int .i64 1), .v (.int .u64 n), .v (.string ⟨#[]⟩), .v (.int .u64 0)]] = (l ++ [nF n]).map av2 := by simp [av2, nF]
theorem av1_snocT (l : List Fld) (t : ByteArray) : l.map av1 ++ [.agg [.v (.int .i64 2), .v (.int .u64 0), .v (.string t), .v (.float .f64 0)]] = (l ++ [tF t]).map av1 := by simp [av1, tF]
theorem av2_snocT (l : List Fld) (t : ByteArray) : l.map av2 ++ [.agg [.v (.int .i64 2), .v (.int .u64 0), .v (.string t), .v (.int .u64 0)]] = (l ++ [tF t]).map av2 := by simp [av2, tF]
theorem bdPre_snoc {k : Nat} {v : List Nat} {i x : Nat} (h : v[i]? = some x) : bdPre k v i ++ [nF x] = bdPre k v (i + 1) := by simp [bdPre, take_snoc h]
theorem bdPre_all {k : Nat} {v : List Nat} {t : ByteArray} (h : v.length = 16) : bdPre k v 16 ++ [tF t] = bdL ⟨k, v, t⟩ := by
  simp only [bdPre, bdL, Int.toNat_natCast, List.cons_append]
  rw [List.take_of_length_le (by omega)]
theorem bdPre_length {k : Nat} {v : List Nat} {i : Nat} (h : i ≤ v.length) : (bdPre k v i).length = i + 1 := by simp [bdPre]; omega
theorem av1_shaped (l : List Fld) : (l.map av1).all AV.shaped = true := by simp [av1, AV.shaped, AV.one, Value.oneCell']
theorem av2_shaped (l : List Fld) : (l.map av2).all AV.shaped = true := by simp [av2, AV.shaped, AV.one, Value.oneCell']

def spBdE : Spec
  | [.agg cs], [] => (unB cs).bind fun b => if okV b.2.1 then some (.ret (.tup [.v (.string (bdS ⟨b.1, b.2.1, b.2.2⟩)), .v (.int .i64 (bdE ⟨b.1, b.2.1, b.2.2⟩))]), []) else none
  | _, _ => none

set_option maxHeartbeats 4000000 in
theorem bdEnc_ok : CallOk Tryz.prog 59 spBdE := by
  refine ok_59 E31_ok spBdE fun args mem r mem1 h => ?_
  unfold spBdE at h
  split at h
  case h_2 => cases h
  rename_i cs
  obtain ⟨⟨k, v, t⟩, hb, h1⟩ := Option.bind_eq_some_iff.1 h
  have := bdy_bc hb
  subst this
  clear hb h
  obtain ⟨hv, h2⟩ := if_some h1
  clear h1
  cases h2
  simp only at hv ⊢
  have hvl := hv.1
  unfold ac_59
  cases hm : mayB ⟨k, v, t⟩ with
  | false =>
    have e1 : bdS ⟨k, v, t⟩ = ⟨#[]⟩ := by simp [bdS, hm]
    have e2 : bdE ⟨k, v, t⟩ = 2 := by simp [bdE, hm]
    rw [e1, e2]
    repeat' first
        | with_reducible refine wp_regionS (seg_eval (by simp -dsimp -implicitDefEqProofs [hvl, hv, hm]; rfl) ?_)
        | with_reducible refine wp_region (seg_eval (by simp -dsimp -implicitDefEqProofs [hvl, hv, hm]; rfl) ?_)
        | with_reducible refine wp_drawsS (seg_eval (by simp -dsimp -implicitDefEqProofs [hvl, hv, hm]; rfl) ?_)
        | with_reducible refine wp_draws (seg_eval (by simp -dsimp -implicitDefEqProofs [hvl, hv, hm]; rfl) ?_)
        | with_reducible refine seg_fin ?_
        | with_reducible refine seg_pan ?_
        | with_reducible refine seg_both ?_ ?_
        | with_reducible refine seg_case (fun x h => ?_) (fun h => ?_)
        | with_reducible refine seg_gate (fun h => ?_) (fun h => ?_)
        | with_reducible refine seg_need ?_ ?_
        | with_reducible refine wp_assoc ?_ | with_reducible refine wp_skipS ?_ | with_reducible refine wp_retS ?_ | with_reducible refine wp_exitS ?_ | with_reducible refine wp_dropS (wp_eqT (by simp -dsimp -implicitDefEqProofs [hvl, hv, hm]; rfl) ?_) | with_reducible refine wp_sealS (by simp -dsimp -implicitDefEqProofs [hvl, hv, hm]; rfl) ?_ | with_reducible refine wp_seal (by simp -dsimp -implicitDefEqProofs [hvl, hv, hm]; rfl) ?_ | with_reducible refine wp_closeS (by simp -dsimp -implicitDefEqProofs [hvl, hv, hm]; rfl) ?_ | with_reducible refine wp_close (by simp -dsimp -implicitDefEqProofs [hvl, hv, hm]; rfl) ?_ | with_reducible refine wp_conc_out ?_ | with_reducible refine wp_open_out ?_ | with_reducible refine wp_pack_out ?_ | with_reducible refine wp_blockS ?_ | with_reducible refine wp_skip' ?_ | with_reducible refine wp_ret' ?_ | with_reducible refine wp_exit' ?_ | with_reducible refine wp_drop (wp_eqT (by simp -dsimp -implicitDefEqProofs [hvl, hv, hm]; rfl) ?_) | with_reducible refine wp_block' ?_
        | with_reducible refine wp_condVS (by simp -dsimp -implicitDefEqProofs [hvl, hv, hm]; rfl) ?_
        | with_reducible refine wp_condV (by simp -dsimp -implicitDefEqProofs [hvl, hv, hm]; rfl) ?_
        | with_reducible refine cond_t ?_ | with_reducible refine cond_f ?_ | with_reducible refine cond_v (fun h => ?_) (fun h => ?_)
        | with_reducible refine post_then ?_ | with_reducible refine post_thenE ?_ | with_reducible refine post_thenP ?_ | with_reducible refine post_blkP ?_ | with_reducible refine post_thenR ?_ | with_reducible refine post_blkN ?_ | with_reducible refine post_blkE ?_ | with_reducible refine post_blkF rfl ?_ | with_reducible refine post_blkR ?_
        | with_reducible refine seg_eval (by simp -dsimp -implicitDefEqProofs [hvl, hv, hm]; rfl) ?_
    all_goals first
      | omega
      | exact post_fin rfl rfl ⟨[], [], by simp, by simp, by simp, by simp⟩
      | trace_state
  | true =>
    have hb := (mayB_iff _).1 hm
    simp only at hb
    obtain ⟨k, rfl⟩ := Int.eq_ofNat_of_zero_le (show 0 ≤ k by omega)
    have e1 : bdS ⟨k, v, t⟩ = ⟨(enc (bdL ⟨k, v, t⟩)).toArray⟩ := by simp [bdS, hm]
    have e2 : bdE ⟨k, v, t⟩ = 0 := by simp [bdE, hm]
    have he := bdy_enc hm hv
    have hok := List.all_eq_true.2 (bdy_ok hm)
    have hlen := bdL_length (b := ⟨k, v, t⟩) hv
    rw [e1, e2]
    have wk : IntKind.wrap .u64 (k : Int) = (k : Int) := IntWalk.u64_in _ (by omega)
    repeat' first
        | with_reducible refine wp_regionS (seg_eval (by simp -dsimp -implicitDefEqProofs [hvl, hv, hm, wk]; rfl) ?_)
        | with_reducible refine wp_region (seg_eval (by simp -dsimp -implicitDefEqProofs [hvl, hv, hm, wk]; rfl) ?_)
        | with_reducible refine wp_drawsS (seg_eval (by simp -dsimp -implicitDefEqProofs [hvl, hv, hm, wk]; rfl) ?_)
        | with_reducible refine wp_draws (seg_eval (by simp -dsimp -implicitDefEqProofs [hvl, hv, hm, wk]; rfl) ?_)
        | with_reducible refine seg_fin ?_
        | with_reducible refine seg_pan ?_
        | with_reducible refine seg_both ?_ ?_
        | with_reducible refine seg_case (fun x h => ?_) (fun h => ?_)
        | with_reducible refine seg_gate (fun h => ?_) (fun h => ?_)
        | with_reducible refine seg_need ?_ ?_
        | with_reducible refine wp_assoc ?_ | with_reducible refine wp_skipS ?_ | with_reducible refine wp_retS ?_ | with_reducible refine wp_exitS ?_ | with_reducible refine wp_dropS (wp_eqT (by simp -dsimp -implicitDefEqProofs [hvl, hv, hm, wk]; rfl) ?_) | with_reducible refine wp_sealS (by simp -dsimp -implicitDefEqProofs [hvl, hv, hm, wk]; rfl) ?_ | with_reducible refine wp_seal (by simp -dsimp -implicitDefEqProofs [hvl, hv, hm, wk]; rfl) ?_ | with_reducible refine wp_closeS (by simp -dsimp -implicitDefEqProofs [hvl, hv, hm, wk]; rfl) ?_ | with_reducible refine wp_close (by simp -dsimp -implicitDefEqProofs [hvl, hv, hm, wk]; rfl) ?_ | with_reducible refine wp_conc_out ?_ | with_reducible refine wp_open_out ?_ | with_reducible refine wp_pack_out ?_ | with_reducible refine wp_blockS ?_ | with_reducible refine wp_skip' ?_ | with_reducible refine wp_ret' ?_ | with_reducible refine wp_exit' ?_ | with_reducible refine wp_drop (wp_eqT (by simp -dsimp -implicitDefEqProofs [hvl, hv, hm, wk]; rfl) ?_) | with_reducible refine wp_block' ?_
        | with_reducible refine wp_condVS (by simp -dsimp -implicitDefEqProofs [hvl, hv, hm, wk]; rfl) ?_
        | with_reducible refine wp_condV (by simp -dsimp -implicitDefEqProofs [hvl, hv, hm, wk]; rfl) ?_
        | with_reducible refine cond_t ?_ | with_reducible refine cond_f ?_ | with_reducible refine cond_v (fun h => ?_) (fun h => ?_)
        | with_reducible refine post_then ?_ | with_reducible refine post_thenE ?_ | with_reducible refine post_thenP ?_ | with_reducible refine post_blkP ?_ | with_reducible refine post_thenR ?_ | with_reducible refine post_blkN ?_ | with_reducible refine post_blkE ?_ | with_reducible refine post_blkF rfl ?_ | with_reducible refine post_blkR ?_
        | with_reducible refine seg_eval (by simp -dsimp -implicitDefEqProofs [hvl, hv, hm, wk]; rfl) ?_
    refine wp_loop' (fun j ts mm => ∃ i : Nat, i + j = 16 ∧ ts = [(1, .fptr (.agg (bc k v t)) 0), (4, .osl 0), (18, .agg (vc v)), (19, .v (.int .i64 i))] ∧ mm = [.arr 171 4 ((bdPre k v i).map av1)]) 16 ?_ ?_
    · exact ⟨[], [1], by simp, by simp, 0, by omega, by simp, by simp [bdPre, nF, av1]⟩
    · rintro j ts mm ⟨i, hi, rfl, rfl⟩
      have hpl := bdPre_length (k := k) (v := v) (i := i) (by omega)
      by_cases hlt : i < 16
      · obtain ⟨x, hx⟩ : ∃ x, v[i]? = some x := ⟨_, List.getElem?_eq_getElem (by omega)⟩
        have hx6 := okV_at hv hx
        have wx : IntKind.wrap .u64 (x : Int) = (x : Int) := IntWalk.u64_in _ (by omega)
        have hd2 : decide (i < 16) = true := by simp [hlt]
        have hd3 : decide ((i : Int) < 16) = true := by rw [decide_eq_true_eq]; omega
        have h64 : IntKind.wrap .i64 ((i : Int) + 1) = ((i + 1 : Nat) : Int) := by rw [IntWalk.i64_in _ (by omega)]; rfl
        have hgx := take_drop_one hx
        have hlt16 : i + 1 ≤ 16 := by omega
        have hsn := bdPre_snoc (k := k) hx
        repeat' first
            | with_reducible refine wp_regionS (seg_eval (by simp -dsimp -implicitDefEqProofs [hvl, hd2, hd3, h64, hgx, hlt, hlt16, wx, av1_snocN, hsn, av1_shaped, hpl]; rfl) ?_)
            | with_reducible refine wp_region (seg_eval (by simp -dsimp -implicitDefEqProofs [hvl, hd2, hd3, h64, hgx, hlt, hlt16, wx, av1_snocN, hsn, av1_shaped, hpl]; rfl) ?_)
            | with_reducible refine wp_drawsS (seg_eval (by simp -dsimp -implicitDefEqProofs [hvl, hd2, hd3, h64, hgx, hlt, hlt16, wx, av1_snocN, hsn, av1_shaped, hpl]; rfl) ?_)
            | with_reducible refine wp_draws (seg_eval (by simp -dsimp -implicitDefEqProofs [hvl, hd2, hd3, h64, hgx, hlt, hlt16, wx, av1_snocN, hsn, av1_shaped, hpl]; rfl) ?_)
            | with_reducible refine seg_fin ?_
            | with_reducible refine seg_pan ?_
            | with_reducible refine seg_both ?_ ?_
            | with_reducible refine seg_case (fun x h => ?_) (fun h => ?_)
            | with_reducible refine seg_gate (fun h => ?_) (fun h => ?_)
            | with_reducible refine seg_need ?_ ?_
            | with_reducible refine wp_assoc ?_ | with_reducible refine wp_skipS ?_ | with_reducible refine wp_retS ?_ | with_reducible refine wp_exitS ?_ | with_reducible refine wp_dropS (wp_eqT (by simp -dsimp -implicitDefEqProofs [hvl, hd2, hd3, h64, hgx, hlt, hlt16, wx, av1_snocN, hsn, av1_shaped, hpl]; rfl) ?_) | with_reducible refine wp_sealS (by simp -dsimp -implicitDefEqProofs [hvl, hd2, hd3, h64, hgx, hlt, hlt16, wx, av1_snocN, hsn, av1_shaped, hpl]; rfl) ?_ | with_reducible refine wp_seal (by simp -dsimp -implicitDefEqProofs [hvl, hd2, hd3, h64, hgx, hlt, hlt16, wx, av1_snocN, hsn, av1_shaped, hpl]; rfl) ?_ | with_reducible refine wp_closeS (by simp -dsimp -implicitDefEqProofs [hvl, hd2, hd3, h64, hgx, hlt, hlt16, wx, av1_snocN, hsn, av1_shaped, hpl]; rfl) ?_ | with_reducible refine wp_close (by simp -dsimp -implicitDefEqProofs [hvl, hd2, hd3, h64, hgx, hlt, hlt16, wx, av1_snocN, hsn, av1_shaped, hpl]; rfl) ?_ | with_reducible refine wp_conc_out ?_ | with_reducible refine wp_open_out ?_ | with_reducible refine wp_pack_out ?_ | with_reducible refine wp_blockS ?_ | with_reducible refine wp_skip' ?_ | with_reducible refine wp_ret' ?_ | with_reducible refine wp_exit' ?_ | with_reducible refine wp_drop (wp_eqT (by simp -dsimp -implicitDefEqProofs [hvl, hd2, hd3, h64, hgx, hlt, hlt16, wx, av1_snocN, hsn, av1_shaped, hpl]; rfl) ?_) | with_reducible refine wp_block' ?_
            | with_reducible refine wp_condVS (by simp -dsimp -implicitDefEqProofs [hvl, hd2, hd3, h64, hgx, hlt, hlt16, wx, av1_snocN, hsn, av1_shaped, hpl]; rfl) ?_
            | with_reducible refine wp_condV (by simp -dsimp -implicitDefEqProofs [hvl, hd2, hd3, h64, hgx, hlt, hlt16, wx, av1_snocN, hsn, av1_shaped, hpl]; rfl) ?_
            | with_reducible refine cond_t ?_ | with_reducible refine cond_f ?_ | with_reducible refine cond_v (fun h => ?_) (fun h => ?_)
            | with_reducible refine post_then ?_ | with_reducible refine post_thenE ?_ | with_reducible refine post_thenP ?_ | with_reducible refine post_blkP ?_ | with_reducible refine post_thenR ?_ | with_reducible refine post_blkN ?_ | with_reducible refine post_blkE ?_ | with_reducible refine post_blkF rfl ?_ | with_reducible refine post_blkR ?_
            | with_reducible refine seg_eval (by simp -dsimp -implicitDefEqProofs [hvl, hd2, hd3, h64, hgx, hlt, hlt16, wx, av1_snocN, hsn, av1_shaped, hpl]; rfl) ?_
        all_goals first
          | omega
          | exact ⟨j - 1, by omega, [], [2], by simp, by simp, i + 1, by omega, by simp, by simp⟩
          | trace_state
      · have hd2 : decide (i < 16) = false := by simp [hlt]
        have hd3 : decide ((i : Int) < 16) = false := by rw [decide_eq_false_iff_not]; omega
        have hi16 : i = 16 := by omega
        subst hi16
        have hall := bdPre_all (k := k) (v := v) (t := t) hvl
        repeat' first
            | with_reducible refine wp_regionS (seg_eval (by simp -dsimp -implicitDefEqProofs [hvl, hd2, hd3, av1_snocT, hall, he, hok, hlen, hpl, av1_shaped]; rfl) ?_)
            | with_reducible refine wp_region (seg_eval (by simp -dsimp -implicitDefEqProofs [hvl, hd2, hd3, av1_snocT, hall, he, hok, hlen, hpl, av1_shaped]; rfl) ?_)
            | with_reducible refine wp_drawsS (seg_eval (by simp -dsimp -implicitDefEqProofs [hvl, hd2, hd3, av1_snocT, hall, he, hok, hlen, hpl, av1_shaped]; rfl) ?_)
            | with_reducible refine wp_draws (seg_eval (by simp -dsimp -implicitDefEqProofs [hvl, hd2, hd3, av1_snocT, hall, he, hok, hlen, hpl, av1_shaped]; rfl) ?_)
            | with_reducible refine seg_fin ?_
            | with_reducible refine seg_pan ?_
            | with_reducible refine seg_both ?_ ?_
            | with_reducible refine seg_case (fun x h => ?_) (fun h => ?_)
            | with_reducible refine seg_gate (fun h => ?_) (fun h => ?_)
            | with_reducible refine seg_need ?_ ?_
            | with_reducible refine wp_assoc ?_ | with_reducible refine wp_skipS ?_ | with_reducible refine wp_retS ?_ | with_reducible refine wp_exitS ?_ | with_reducible refine wp_dropS (wp_eqT (by simp -dsimp -implicitDefEqProofs [hvl, hd2, hd3, av1_snocT, hall, he, hok, hlen, hpl, av1_shaped]; rfl) ?_) | with_reducible refine wp_sealS (by simp -dsimp -implicitDefEqProofs [hvl, hd2, hd3, av1_snocT, hall, he, hok, hlen, hpl, av1_shaped]; rfl) ?_ | with_reducible refine wp_seal (by simp -dsimp -implicitDefEqProofs [hvl, hd2, hd3, av1_snocT, hall, he, hok, hlen, hpl, av1_shaped]; rfl) ?_ | with_reducible refine wp_closeS (by simp -dsimp -implicitDefEqProofs [hvl, hd2, hd3, av1_snocT, hall, he, hok, hlen, hpl, av1_shaped]; rfl) ?_ | with_reducible refine wp_close (by simp -dsimp -implicitDefEqProofs [hvl, hd2, hd3, av1_snocT, hall, he, hok, hlen, hpl, av1_shaped]; rfl) ?_ | with_reducible refine wp_conc_out ?_ | with_reducible refine wp_open_out ?_ | with_reducible refine wp_pack_out ?_ | with_reducible refine wp_blockS ?_ | with_reducible refine wp_skip' ?_ | with_reducible refine wp_ret' ?_ | with_reducible refine wp_exit' ?_ | with_reducible refine wp_drop (wp_eqT (by simp -dsimp -implicitDefEqProofs [hvl, hd2, hd3, av1_snocT, hall, he, hok, hlen, hpl, av1_shaped]; rfl) ?_) | with_reducible refine wp_block' ?_
            | with_reducible refine wp_condVS (by simp -dsimp -implicitDefEqProofs [hvl, hd2, hd3, av1_snocT, hall, he, hok, hlen, hpl, av1_shaped]; rfl) ?_
            | with_reducible refine wp_condV (by simp -dsimp -implicitDefEqProofs [hvl, hd2, hd3, av1_snocT, hall, he, hok, hlen, hpl, av1_shaped]; rfl) ?_
            | with_reducible refine cond_t ?_ | with_reducible refine cond_f ?_ | with_reducible refine cond_v (fun h => ?_) (fun h => ?_)
            | with_reducible refine post_then ?_ | with_reducible refine post_thenE ?_ | with_reducible refine post_thenP ?_ | with_reducible refine post_blkP ?_ | with_reducible refine post_thenR ?_ | with_reducible refine post_blkN ?_ | with_reducible refine post_blkE ?_ | with_reducible refine post_blkF rfl ?_ | with_reducible refine post_blkR ?_
            | with_reducible refine seg_eval (by simp -dsimp -implicitDefEqProofs [hvl, hd2, hd3, av1_snocT, hall, he, hok, hlen, hpl, av1_shaped]; rfl) ?_
        all_goals first
          | omega
          | exact bdy_ok hm
          | exact post_fin rfl rfl ⟨[], [], rfl, rfl, rfl, rfl⟩
          | trace_state

set_option maxHeartbeats 4000000 in
theorem bdEncR_ok : CallOk Tryz.prog 60 spBdE := by
  refine ok_60 E31_ok spBdE fun args mem r mem1 h => ?_
  unfold spBdE at h
  split at h
  case h_2 => cases h
  rename_i cs
  obtain ⟨⟨k, v, t⟩, hb, h1⟩ := Option.bind_eq_some_iff.1 h
  have := bdy_bc hb
  subst this
  clear hb h
  obtain ⟨hv, h2⟩ := if_some h1
  clear h1
  cases h2
  simp only at hv ⊢
  have hvl := hv.1
  unfold ac_60
  cases hm : mayB ⟨k, v, t⟩ with
  | false =>
    have e1 : bdS ⟨k, v, t⟩ = ⟨#[]⟩ := by simp [bdS, hm]
    have e2 : bdE ⟨k, v, t⟩ = 2 := by simp [bdE, hm]
    rw [e1, e2]
    repeat' first
        | with_reducible refine wp_regionS (seg_eval (by simp -dsimp -implicitDefEqProofs [hvl, hv, hm]; rfl) ?_)
        | with_reducible refine wp_region (seg_eval (by simp -dsimp -implicitDefEqProofs [hvl, hv, hm]; rfl) ?_)
        | with_reducible refine wp_drawsS (seg_eval (by simp -dsimp -implicitDefEqProofs [hvl, hv, hm]; rfl) ?_)
        | with_reducible refine wp_draws (seg_eval (by simp -dsimp -implicitDefEqProofs [hvl, hv, hm]; rfl) ?_)
        | with_reducible refine seg_fin ?_
        | with_reducible refine seg_pan ?_
        | with_reducible refine seg_both ?_ ?_
        | with_reducible refine seg_case (fun x h => ?_) (fun h => ?_)
        | with_reducible refine seg_gate (fun h => ?_) (fun h => ?_)
        | with_reducible refine seg_need ?_ ?_
        | with_reducible refine wp_assoc ?_ | with_reducible refine wp_skipS ?_ | with_reducible refine wp_retS ?_ | with_reducible refine wp_exitS ?_ | with_reducible refine wp_dropS (wp_eqT (by simp -dsimp -implicitDefEqProofs [hvl, hv, hm]; rfl) ?_) | with_reducible refine wp_sealS (by simp -dsimp -implicitDefEqProofs [hvl, hv, hm]; rfl) ?_ | with_reducible refine wp_seal (by simp -dsimp -implicitDefEqProofs [hvl, hv, hm]; rfl) ?_ | with_reducible refine wp_closeS (by simp -dsimp -implicitDefEqProofs [hvl, hv, hm]; rfl) ?_ | with_reducible refine wp_close (by simp -dsimp -implicitDefEqProofs [hvl, hv, hm]; rfl) ?_ | with_reducible refine wp_conc_out ?_ | with_reducible refine wp_open_out ?_ | with_reducible refine wp_pack_out ?_ | with_reducible refine wp_blockS ?_ | with_reducible refine wp_skip' ?_ | with_reducible refine wp_ret' ?_ | with_reducible refine wp_exit' ?_ | with_reducible refine wp_drop (wp_eqT (by simp -dsimp -implicitDefEqProofs [hvl, hv, hm]; rfl) ?_) | with_reducible refine wp_block' ?_
        | with_reducible refine wp_condVS (by simp -dsimp -implicitDefEqProofs [hvl, hv, hm]; rfl) ?_
        | with_reducible refine wp_condV (by simp -dsimp -implicitDefEqProofs [hvl, hv, hm]; rfl) ?_
        | with_reducible refine cond_t ?_ | with_reducible refine cond_f ?_ | with_reducible refine cond_v (fun h => ?_) (fun h => ?_)
        | with_reducible refine post_then ?_ | with_reducible refine post_thenE ?_ | with_reducible refine post_thenP ?_ | with_reducible refine post_blkP ?_ | with_reducible refine post_thenR ?_ | with_reducible refine post_blkN ?_ | with_reducible refine post_blkE ?_ | with_reducible refine post_blkF rfl ?_ | with_reducible refine post_blkR ?_
        | with_reducible refine seg_eval (by simp -dsimp -implicitDefEqProofs [hvl, hv, hm]; rfl) ?_
    all_goals first
      | omega
      | exact post_fin rfl rfl ⟨[], [], by simp, by simp, by simp, by simp⟩
      | trace_state
  | true =>
    have hb := (mayB_iff _).1 hm
    simp only at hb
    obtain ⟨k, rfl⟩ := Int.eq_ofNat_of_zero_le (show 0 ≤ k by omega)
    have e1 : bdS ⟨k, v, t⟩ = ⟨(enc (bdL ⟨k, v, t⟩)).toArray⟩ := by simp [bdS, hm]
    have e2 : bdE ⟨k, v, t⟩ = 0 := by simp [bdE, hm]
    have he := bdy_enc hm hv
    have hok := List.all_eq_true.2 (bdy_ok hm)
    have hlen := bdL_length (b := ⟨k, v, t⟩) hv
    rw [e1, e2]
    have wk : IntKind.wrap .u64 (k : Int) = (k : Int) := IntWalk.u64_in _ (by omega)
    repeat' first
        | with_reducible refine wp_regionS (seg_eval (by simp -dsimp -implicitDefEqProofs [hvl, hv, hm, wk]; rfl) ?_)
        | with_reducible refine wp_region (seg_eval (by simp -dsimp -implicitDefEqProofs [hvl, hv, hm, wk]; rfl) ?_)
        | with_reducible refine wp_drawsS (seg_eval (by simp -dsimp -implicitDefEqProofs [hvl, hv, hm, wk]; rfl) ?_)
        | with_reducible refine wp_draws (seg_eval (by simp -dsimp -implicitDefEqProofs [hvl, hv, hm, wk]; rfl) ?_)
        | with_reducible refine seg_fin ?_
        | with_reducible refine seg_pan ?_
        | with_reducible refine seg_both ?_ ?_
        | with_reducible refine seg_case (fun x h => ?_) (fun h => ?_)
        | with_reducible refine seg_gate (fun h => ?_) (fun h => ?_)
        | with_reducible refine seg_need ?_ ?_
        | with_reducible refine wp_assoc ?_ | with_reducible refine wp_skipS ?_ | with_reducible refine wp_retS ?_ | with_reducible refine wp_exitS ?_ | with_reducible refine wp_dropS (wp_eqT (by simp -dsimp -implicitDefEqProofs [hvl, hv, hm, wk]; rfl) ?_) | with_reducible refine wp_sealS (by simp -dsimp -implicitDefEqProofs [hvl, hv, hm, wk]; rfl) ?_ | with_reducible refine wp_seal (by simp -dsimp -implicitDefEqProofs [hvl, hv, hm, wk]; rfl) ?_ | with_reducible refine wp_closeS (by simp -dsimp -implicitDefEqProofs [hvl, hv, hm, wk]; rfl) ?_ | with_reducible refine wp_close (by simp -dsimp -implicitDefEqProofs [hvl, hv, hm, wk]; rfl) ?_ | with_reducible refine wp_conc_out ?_ | with_reducible refine wp_open_out ?_ | with_reducible refine wp_pack_out ?_ | with_reducible refine wp_blockS ?_ | with_reducible refine wp_skip' ?_ | with_reducible refine wp_ret' ?_ | with_reducible refine wp_exit' ?_ | with_reducible refine wp_drop (wp_eqT (by simp -dsimp -implicitDefEqProofs [hvl, hv, hm, wk]; rfl) ?_) | with_reducible refine wp_block' ?_
        | with_reducible refine wp_condVS (by simp -dsimp -implicitDefEqProofs [hvl, hv, hm, wk]; rfl) ?_
        | with_reducible refine wp_condV (by simp -dsimp -implicitDefEqProofs [hvl, hv, hm, wk]; rfl) ?_
        | with_reducible refine cond_t ?_ | with_reducible refine cond_f ?_ | with_reducible refine cond_v (fun h => ?_) (fun h => ?_)
        | with_reducible refine post_then ?_ | with_reducible refine post_thenE ?_ | with_reducible refine post_thenP ?_ | with_reducible refine post_blkP ?_ | with_reducible refine post_thenR ?_ | with_reducible refine post_blkN ?_ | with_reducible refine post_blkE ?_ | with_reducible refine post_blkF rfl ?_ | with_reducible refine post_blkR ?_
        | with_reducible refine seg_eval (by simp -dsimp -implicitDefEqProofs [hvl, hv, hm, wk]; rfl) ?_
    refine wp_loop' (fun j ts mm => ∃ i : Nat, i + j = 16 ∧ ts = [(1, .fptr (.agg (bc k v t)) 0), (4, .osl 0), (5, .v (.int .i64 i))] ∧ mm = [.arr 176 4 ((bdPre k v i).map av2)]) 16 ?_ ?_
    · exact ⟨[], [1], by simp, by simp, 0, by omega, by simp, by simp [bdPre, nF, av2]⟩
    · rintro j ts mm ⟨i, hi, rfl, rfl⟩
      have hpl := bdPre_length (k := k) (v := v) (i := i) (by omega)
      by_cases hlt : i < 16
      · obtain ⟨x, hx⟩ : ∃ x, v[i]? = some x := ⟨_, List.getElem?_eq_getElem (by omega)⟩
        have hx6 := okV_at hv hx
        have wx : IntKind.wrap .u64 (x : Int) = (x : Int) := IntWalk.u64_in _ (by omega)
        have hd2 : decide (i < 16) = true := by simp [hlt]
        have hd3 : decide ((i : Int) < 16) = true := by rw [decide_eq_true_eq]; omega
        have h64 : IntKind.wrap .i64 ((i : Int) + 1) = ((i + 1 : Nat) : Int) := by rw [IntWalk.i64_in _ (by omega)]; rfl
        have hgx := bc_at (k := k) (t := t) hx
        have hlt16 : 1 + i + 1 ≤ 18 := by omega
        have hsn := bdPre_snoc (k := k) hx
        repeat' first
            | with_reducible refine wp_regionS (seg_eval (by simp -dsimp -implicitDefEqProofs [hvl, hd2, hd3, h64, hgx, hlt, hlt16, wx, av2_snocN, hsn, av2_shaped, hpl]; rfl) ?_)
            | with_reducible refine wp_region (seg_eval (by simp -dsimp -implicitDefEqProofs [hvl, hd2, hd3, h64, hgx, hlt, hlt16, wx, av2_snocN, hsn, av2_shaped, hpl]; rfl) ?_)
            | with_reducible refine wp_drawsS (seg_eval (by simp -dsimp -implicitDefEqProofs [hvl, hd2, hd3, h64, hgx, hlt, hlt16, wx, av2_snocN, hsn, av2_shaped, hpl]; rfl) ?_)
            | with_reducible refine wp_draws (seg_eval (by simp -dsimp -implicitDefEqProofs [hvl, hd2, hd3, h64, hgx, hlt, hlt16, wx, av2_snocN, hsn, av2_shaped, hpl]; rfl) ?_)
            | with_reducible refine seg_fin ?_
            | with_reducible refine seg_pan ?_
            | with_reducible refine seg_both ?_ ?_
            | with_reducible refine seg_case (fun x h => ?_) (fun h => ?_)
            | with_reducible refine seg_gate (fun h => ?_) (fun h => ?_)
            | with_reducible refine seg_need ?_ ?_
            | with_reducible refine wp_assoc ?_ | with_reducible refine wp_skipS ?_ | with_reducible refine wp_retS ?_ | with_reducible refine wp_exitS ?_ | with_reducible refine wp_dropS (wp_eqT (by simp -dsimp -implicitDefEqProofs [hvl, hd2, hd3, h64, hgx, hlt, hlt16, wx, av2_snocN, hsn, av2_shaped, hpl]; rfl) ?_) | with_reducible refine wp_sealS (by simp -dsimp -implicitDefEqProofs [hvl, hd2, hd3, h64, hgx, hlt, hlt16, wx, av2_snocN, hsn, av2_shaped, hpl]; rfl) ?_ | with_reducible refine wp_seal (by simp -dsimp -implicitDefEqProofs [hvl, hd2, hd3, h64, hgx, hlt, hlt16, wx, av2_snocN, hsn, av2_shaped, hpl]; rfl) ?_ | with_reducible refine wp_closeS (by simp -dsimp -implicitDefEqProofs [hvl, hd2, hd3, h64, hgx, hlt, hlt16, wx, av2_snocN, hsn, av2_shaped, hpl]; rfl) ?_ | with_reducible refine wp_close (by simp -dsimp -implicitDefEqProofs [hvl, hd2, hd3, h64, hgx, hlt, hlt16, wx, av2_snocN, hsn, av2_shaped, hpl]; rfl) ?_ | with_reducible refine wp_conc_out ?_ | with_reducible refine wp_open_out ?_ | with_reducible refine wp_pack_out ?_ | with_reducible refine wp_blockS ?_ | with_reducible refine wp_skip' ?_ | with_reducible refine wp_ret' ?_ | with_reducible refine wp_exit' ?_ | with_reducible refine wp_drop (wp_eqT (by simp -dsimp -implicitDefEqProofs [hvl, hd2, hd3, h64, hgx, hlt, hlt16, wx, av2_snocN, hsn, av2_shaped, hpl]; rfl) ?_) | with_reducible refine wp_block' ?_
            | with_reducible refine wp_condVS (by simp -dsimp -implicitDefEqProofs [hvl, hd2, hd3, h64, hgx, hlt, hlt16, wx, av2_snocN, hsn, av2_shaped, hpl]; rfl) ?_
            | with_reducible refine wp_condV (by simp -dsimp -implicitDefEqProofs [hvl, hd2, hd3, h64, hgx, hlt, hlt16, wx, av2_snocN, hsn, av2_shaped, hpl]; rfl) ?_
            | with_reducible refine cond_t ?_ | with_reducible refine cond_f ?_ | with_reducible refine cond_v (fun h => ?_) (fun h => ?_)
            | with_reducible refine post_then ?_ | with_reducible refine post_thenE ?_ | with_reducible refine post_thenP ?_ | with_reducible refine post_blkP ?_ | with_reducible refine post_thenR ?_ | with_reducible refine post_blkN ?_ | with_reducible refine post_blkE ?_ | with_reducible refine post_blkF rfl ?_ | with_reducible refine post_blkR ?_
            | with_reducible refine seg_eval (by simp -dsimp -implicitDefEqProofs [hvl, hd2, hd3, h64, hgx, hlt, hlt16, wx, av2_snocN, hsn, av2_shaped, hpl]; rfl) ?_
        all_goals first
          | omega
          | exact ⟨j - 1, by omega, [], [2], by simp, by simp, i + 1, by omega, by simp, by simp⟩
          | trace_state
      · have hd2 : decide (i < 16) = false := by simp [hlt]
        have hd3 : decide ((i : Int) < 16) = false := by rw [decide_eq_false_iff_not]; omega
        have hi16 : i = 16 := by omega
        subst hi16
        have hall := bdPre_all (k := k) (v := v) (t := t) hvl
        repeat' first
            | with_reducible refine wp_regionS (seg_eval (by simp -dsimp -implicitDefEqProofs [hvl, hd2, hd3, av2_snocT, hall, he, hok, hlen, hpl, av2_shaped]; rfl) ?_)
            | with_reducible refine wp_region (seg_eval (by simp -dsimp -implicitDefEqProofs [hvl, hd2, hd3, av2_snocT, hall, he, hok, hlen, hpl, av2_shaped]; rfl) ?_)
            | with_reducible refine wp_drawsS (seg_eval (by simp -dsimp -implicitDefEqProofs [hvl, hd2, hd3, av2_snocT, hall, he, hok, hlen, hpl, av2_shaped]; rfl) ?_)
            | with_reducible refine wp_draws (seg_eval (by simp -dsimp -implicitDefEqProofs [hvl, hd2, hd3, av2_snocT, hall, he, hok, hlen, hpl, av2_shaped]; rfl) ?_)
            | with_reducible refine seg_fin ?_
            | with_reducible refine seg_pan ?_
            | with_reducible refine seg_both ?_ ?_
            | with_reducible refine seg_case (fun x h => ?_) (fun h => ?_)
            | with_reducible refine seg_gate (fun h => ?_) (fun h => ?_)
            | with_reducible refine seg_need ?_ ?_
            | with_reducible refine wp_assoc ?_ | with_reducible refine wp_skipS ?_ | with_reducible refine wp_retS ?_ | with_reducible refine wp_exitS ?_ | with_reducible refine wp_dropS (wp_eqT (by simp -dsimp -implicitDefEqProofs [hvl, hd2, hd3, av2_snocT, hall, he, hok, hlen, hpl, av2_shaped]; rfl) ?_) | with_reducible refine wp_sealS (by simp -dsimp -implicitDefEqProofs [hvl, hd2, hd3, av2_snocT, hall, he, hok, hlen, hpl, av2_shaped]; rfl) ?_ | with_reducible refine wp_seal (by simp -dsimp -implicitDefEqProofs [hvl, hd2, hd3, av2_snocT, hall, he, hok, hlen, hpl, av2_shaped]; rfl) ?_ | with_reducible refine wp_closeS (by simp -dsimp -implicitDefEqProofs [hvl, hd2, hd3, av2_snocT, hall, he, hok, hlen, hpl, av2_shaped]; rfl) ?_ | with_reducible refine wp_close (by simp -dsimp -implicitDefEqProofs [hvl, hd2, hd3, av2_snocT, hall, he, hok, hlen, hpl, av2_shaped]; rfl) ?_ | with_reducible refine wp_conc_out ?_ | with_reducible refine wp_open_out ?_ | with_reducible refine wp_pack_out ?_ | with_reducible refine wp_blockS ?_ | with_reducible refine wp_skip' ?_ | with_reducible refine wp_ret' ?_ | with_reducible refine wp_exit' ?_ | with_reducible refine wp_drop (wp_eqT (by simp -dsimp -implicitDefEqProofs [hvl, hd2, hd3, av2_snocT, hall, he, hok, hlen, hpl, av2_shaped]; rfl) ?_) | with_reducible refine wp_block' ?_
            | with_reducible refine wp_condVS (by simp -dsimp -implicitDefEqProofs [hvl, hd2, hd3, av2_snocT, hall, he, hok, hlen, hpl, av2_shaped]; rfl) ?_
            | with_reducible refine wp_condV (by simp -dsimp -implicitDefEqProofs [hvl, hd2, hd3, av2_snocT, hall, he, hok, hlen, hpl, av2_shaped]; rfl) ?_
            | with_reducible refine cond_t ?_ | with_reducible refine cond_f ?_ | with_reducible refine cond_v (fun h => ?_) (fun h => ?_)
            | with_reducible refine post_then ?_ | with_reducible refine post_thenE ?_ | with_reducible refine post_thenP ?_ | with_reducible refine post_blkP ?_ | with_reducible refine post_thenR ?_ | with_reducible refine post_blkN ?_ | with_reducible refine post_blkE ?_ | with_reducible refine post_blkF rfl ?_ | with_reducible refine post_blkR ?_
            | with_reducible refine seg_eval (by simp -dsimp -implicitDefEqProofs [hvl, hd2, hd3, av2_snocT, hall, he, hok, hlen, hpl, av2_shaped]; rfl) ?_
        all_goals first
          | omega
          | exact bdy_ok hm
          | exact post_fin rfl rfl ⟨[], [], rfl, rfl, rfl, rfl⟩
          | trace_state

def E32 : Env := (E31.put 59 [] spBdE).put 60 [] spBdE
theorem E32_ok : EnvOk Tryz.prog E32 := Env.put_ok _ (Env.put_ok _ E31_ok bdEnc_ok) bdEncR_ok
attribute [simp] E32 spBdE
end Go.Proofs.YtajpaagbfmjacaaGreatDoor.Am
