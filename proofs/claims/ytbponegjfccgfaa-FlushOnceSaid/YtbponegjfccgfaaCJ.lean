/-
  VECTORS JOINED, AND BELOW ONE ANOTHER.
-/
import Derived.Test.YtbponegjfccgfaaCode
import Derived.Test.YtbponegjfccgfaaV1
namespace Go.Proofs.Ytbponegjfccgfaa.Am
set_option linter.unusedSimpArgs false
set_option linter.unusedVariables false
open Go Go.Proofs
attribute [local irreducible] wpA
attribute [-simp] splice

theorem max_nat (m n : Nat) : (if m < n then (n : Int) else (m : Int)) = ((max m n : Nat) : Int) := by split <;> omega
theorem max_if (m n : Nat) : (if (m : Int) < (n : Int) then (n : Int) else (m : Int)) = ((max m n : Nat) : Int) := by split <;> omega

/-- a vector, joined so far -/
def stepJ (a b : List Nat) (i : Nat) : List Nat := (joinV a b).take i ++ a.drop i
theorem stepJ_length {a b : List Nat} (h : a.length = b.length) {i : Nat} (hi : i ≤ a.length) : (stepJ a b i).length = a.length := by
  simp [stepJ, joinV_length h]; omega
theorem stepJ_get {a b : List Nat} (h : a.length = b.length) {i x : Nat} (hi : a[i]? = some x) : (stepJ a b i)[i]? = some x := by
  have hl := (List.getElem?_eq_some_iff.1 hi).1
  unfold stepJ
  rw [List.getElem?_append_right (by rw [List.length_take]; omega)]
  simp only [List.length_take, joinV_length h, Nat.min_eq_left (Nat.le_of_lt hl), Nat.sub_self]
  rw [List.getElem?_drop]
  simpa using hi
theorem stepJ_set {a b : List Nat} (h : a.length = b.length) {i x y : Nat} (hi : a[i]? = some x) (hj : b[i]? = some y) : (stepJ a b i).set i (max x y) = stepJ a b (i + 1) := by
  have hl := (List.getElem?_eq_some_iff.1 hi).1
  have hg := joinV_get hi hj
  unfold stepJ
  rw [List.set_append_right _ _ (by rw [List.length_take]; omega)]
  simp only [List.length_take, joinV_length h, Nat.min_eq_left (Nat.le_of_lt hl), Nat.sub_self]
  rw [take_more hg, List.drop_eq_getElem_cons hl, List.set_cons_zero, List.append_assoc]
  rfl
theorem stepJ_zero (a b : List Nat) : stepJ a b 0 = a := by simp [stepJ]
theorem stepJ_all {a b : List Nat} (h : a.length = b.length) : stepJ a b a.length = joinV a b := by
  unfold stepJ
  rw [List.take_of_length_le (by rw [joinV_length h]; omega), List.drop_of_length_le (by omega), List.append_nil]

def spJoin : Spec
  | [.agg xs, .agg ys], [] => (unVc xs).bind fun a => (unVc ys).bind fun b => if okV a ∧ okV b then some (.ret (.agg (vc (joinV a b))), []) else none
  | _, _ => none

set_option maxHeartbeats 2000000 in
theorem join_ok : CallOk Try.prog 50 spJoin := by
  refine ok_50 (Env.none_ok _) spJoin fun args mem r mem1 h => ?_
  unfold spJoin at h
  split at h
  case h_2 => cases h
  rename_i xs ys
  obtain ⟨a, hxa, h1⟩ := Option.bind_eq_some_iff.1 h
  obtain ⟨b, hyb, h2⟩ := Option.bind_eq_some_iff.1 h1
  clear h h1
  have := unVc_some hxa
  subst this
  have := unVc_some hyb
  subst this
  clear hxa hyb
  obtain ⟨⟨ha, hb⟩, h3⟩ := if_some h2
  clear h2
  cases h3
  have hal := ha.1
  have hbl := hb.1
  have hab : a.length = b.length := by omega
  unfold ac_50
  repeat' first
      | with_reducible refine wp_regionS (seg_eval (by simp -dsimp -implicitDefEqProofs [hal, hbl]; rfl) ?_)
      | with_reducible refine wp_region (seg_eval (by simp -dsimp -implicitDefEqProofs [hal, hbl]; rfl) ?_)
      | with_reducible refine wp_drawsS (seg_eval (by simp -dsimp -implicitDefEqProofs [hal, hbl]; rfl) ?_)
      | with_reducible refine wp_draws (seg_eval (by simp -dsimp -implicitDefEqProofs [hal, hbl]; rfl) ?_)
      | with_reducible refine seg_fin ?_
      | with_reducible refine seg_pan ?_
      | with_reducible refine seg_both ?_ ?_
      | with_reducible refine seg_case (fun x h => ?_) (fun h => ?_)
      | with_reducible refine seg_gate (fun h => ?_) (fun h => ?_)
      | with_reducible refine seg_need ?_ ?_
      | with_reducible refine wp_assoc ?_ | with_reducible refine wp_skipS ?_ | with_reducible refine wp_retS ?_ | with_reducible refine wp_exitS ?_ | with_reducible refine wp_dropS (wp_eqT (by simp -dsimp -implicitDefEqProofs [hal, hbl]; rfl) ?_) | with_reducible refine wp_sealS (by simp -dsimp -implicitDefEqProofs [hal, hbl]; rfl) ?_ | with_reducible refine wp_seal (by simp -dsimp -implicitDefEqProofs [hal, hbl]; rfl) ?_ | with_reducible refine wp_closeS (by simp -dsimp -implicitDefEqProofs [hal, hbl]; rfl) ?_ | with_reducible refine wp_close (by simp -dsimp -implicitDefEqProofs [hal, hbl]; rfl) ?_ | with_reducible refine wp_conc_out ?_ | with_reducible refine wp_open_out ?_ | with_reducible refine wp_pack_out ?_ | with_reducible refine wp_blockS ?_ | with_reducible refine wp_skip' ?_ | with_reducible refine wp_ret' ?_ | with_reducible refine wp_exit' ?_ | with_reducible refine wp_drop (wp_eqT (by simp -dsimp -implicitDefEqProofs [hal, hbl]; rfl) ?_) | with_reducible refine wp_block' ?_
      | with_reducible refine wp_condVS (by simp -dsimp -implicitDefEqProofs [hal, hbl]; rfl) ?_
      | with_reducible refine wp_condV (by simp -dsimp -implicitDefEqProofs [hal, hbl]; rfl) ?_
      | with_reducible refine cond_t ?_ | with_reducible refine cond_f ?_ | with_reducible refine cond_v (fun h => ?_) (fun h => ?_)
      | with_reducible refine post_then ?_ | with_reducible refine post_thenE ?_ | with_reducible refine post_thenP ?_ | with_reducible refine post_blkP ?_ | with_reducible refine post_thenR ?_ | with_reducible refine post_blkN ?_ | with_reducible refine post_blkE ?_ | with_reducible refine post_blkF rfl ?_ | with_reducible refine post_blkR ?_
      | with_reducible refine seg_eval (by simp -dsimp -implicitDefEqProofs [hal, hbl]; rfl) ?_
  refine wp_loop' (fun j ts mm => ∃ i : Nat, i + j = 16 ∧ ts = [(2, .ptr 0 0 0), (4, .ptr 1 0 0), (7, .agg (vc b)), (8, .v (.int .i64 i))] ∧ mm = [.var (vc (stepJ a b i)), .var (vc zV)]) 16 ?_ ?_
  · exact ⟨[], [0, 2], by simp, by simp, 0, by omega, by simp, by simp [stepJ_zero]⟩
  · rintro j ts mm ⟨i, hi, rfl, rfl⟩
    have hsl := stepJ_length hab (i := i) (by omega)
    rw [hal] at hsl
    by_cases hlt : i < 16
    · obtain ⟨x, hx⟩ : ∃ x, a[i]? = some x := ⟨_, List.getElem?_eq_getElem (by omega)⟩
      obtain ⟨y, hy⟩ : ∃ y, b[i]? = some y := ⟨_, List.getElem?_eq_getElem (by omega)⟩
      have hd2 : decide (i < 16) = true := by simp [hlt]
      have hd3 : decide ((i : Int) < 16) = true := by rw [decide_eq_true_eq]; omega
      have h64 : IntKind.wrap .i64 ((i : Int) + 1) = ((i + 1 : Nat) : Int) := by rw [IntWalk.i64_in _ (by omega)]; rfl
      have hgx := take_drop_one (stepJ_get hab hx)
      have hgy := take_drop_one hy
      have hmx := max_if x y
      have hmx' := max_nat x y
      have hst := stepJ_set hab hx hy
      have hlt16 : i + 1 ≤ 16 := by omega
      repeat' first
          | with_reducible refine wp_regionS (seg_eval (by simp -dsimp -implicitDefEqProofs [hal, hbl, hd2, hd3, h64, hgx, hgy, hmx, hmx', hst, hlt, hsl, hlt16]; rfl) ?_)
          | with_reducible refine wp_region (seg_eval (by simp -dsimp -implicitDefEqProofs [hal, hbl, hd2, hd3, h64, hgx, hgy, hmx, hmx', hst, hlt, hsl, hlt16]; rfl) ?_)
          | with_reducible refine wp_drawsS (seg_eval (by simp -dsimp -implicitDefEqProofs [hal, hbl, hd2, hd3, h64, hgx, hgy, hmx, hmx', hst, hlt, hsl, hlt16]; rfl) ?_)
          | with_reducible refine wp_draws (seg_eval (by simp -dsimp -implicitDefEqProofs [hal, hbl, hd2, hd3, h64, hgx, hgy, hmx, hmx', hst, hlt, hsl, hlt16]; rfl) ?_)
          | with_reducible refine seg_fin ?_
          | with_reducible refine seg_pan ?_
          | with_reducible refine seg_both ?_ ?_
          | with_reducible refine seg_case (fun x h => ?_) (fun h => ?_)
          | with_reducible refine seg_gate (fun h => ?_) (fun h => ?_)
          | with_reducible refine seg_need ?_ ?_
          | with_reducible refine wp_assoc ?_ | with_reducible refine wp_skipS ?_ | with_reducible refine wp_retS ?_ | with_reducible refine wp_exitS ?_ | with_reducible refine wp_dropS (wp_eqT (by simp -dsimp -implicitDefEqProofs [hal, hbl, hd2, hd3, h64, hgx, hgy, hmx, hmx', hst, hlt, hsl, hlt16]; rfl) ?_) | with_reducible refine wp_sealS (by simp -dsimp -implicitDefEqProofs [hal, hbl, hd2, hd3, h64, hgx, hgy, hmx, hmx', hst, hlt, hsl, hlt16]; rfl) ?_ | with_reducible refine wp_seal (by simp -dsimp -implicitDefEqProofs [hal, hbl, hd2, hd3, h64, hgx, hgy, hmx, hmx', hst, hlt, hsl, hlt16]; rfl) ?_ | with_reducible refine wp_closeS (by simp -dsimp -implicitDefEqProofs [hal, hbl, hd2, hd3, h64, hgx, hgy, hmx, hmx', hst, hlt, hsl, hlt16]; rfl) ?_ | with_reducible refine wp_close (by simp -dsimp -implicitDefEqProofs [hal, hbl, hd2, hd3, h64, hgx, hgy, hmx, hmx', hst, hlt, hsl, hlt16]; rfl) ?_ | with_reducible refine wp_conc_out ?_ | with_reducible refine wp_open_out ?_ | with_reducible refine wp_pack_out ?_ | with_reducible refine wp_blockS ?_ | with_reducible refine wp_skip' ?_ | with_reducible refine wp_ret' ?_ | with_reducible refine wp_exit' ?_ | with_reducible refine wp_drop (wp_eqT (by simp -dsimp -implicitDefEqProofs [hal, hbl, hd2, hd3, h64, hgx, hgy, hmx, hmx', hst, hlt, hsl, hlt16]; rfl) ?_) | with_reducible refine wp_block' ?_
          | with_reducible refine wp_condVS (by simp -dsimp -implicitDefEqProofs [hal, hbl, hd2, hd3, h64, hgx, hgy, hmx, hmx', hst, hlt, hsl, hlt16]; rfl) ?_
          | with_reducible refine wp_condV (by simp -dsimp -implicitDefEqProofs [hal, hbl, hd2, hd3, h64, hgx, hgy, hmx, hmx', hst, hlt, hsl, hlt16]; rfl) ?_
          | with_reducible refine cond_t ?_ | with_reducible refine cond_f ?_ | with_reducible refine cond_v (fun h => ?_) (fun h => ?_)
          | with_reducible refine post_then ?_ | with_reducible refine post_thenE ?_ | with_reducible refine post_thenP ?_ | with_reducible refine post_blkP ?_ | with_reducible refine post_thenR ?_ | with_reducible refine post_blkN ?_ | with_reducible refine post_blkE ?_ | with_reducible refine post_blkF rfl ?_ | with_reducible refine post_blkR ?_
          | with_reducible refine seg_eval (by simp -dsimp -implicitDefEqProofs [hal, hbl, hd2, hd3, h64, hgx, hgy, hmx, hmx', hst, hlt, hsl, hlt16]; rfl) ?_
      all_goals first
        | omega
        | exact ⟨j - 1, by omega, [], [0, 1], by simp, by simp, i + 1, by omega, by simp, by simp⟩
        | trace_state
    · have hd2 : decide (i < 16) = false := by simp [hlt]
      have hd3 : decide ((i : Int) < 16) = false := by rw [decide_eq_false_iff_not]; omega
      have hij : i = a.length := by omega
      subst hij
      rw [stepJ_all hab] at *
      have hjl := (okV_join ha hb).1
      repeat' first
          | with_reducible refine wp_regionS (seg_eval (by simp -dsimp -implicitDefEqProofs [hd2, hd3, hjl]; rfl) ?_)
          | with_reducible refine wp_region (seg_eval (by simp -dsimp -implicitDefEqProofs [hd2, hd3, hjl]; rfl) ?_)
          | with_reducible refine wp_drawsS (seg_eval (by simp -dsimp -implicitDefEqProofs [hd2, hd3, hjl]; rfl) ?_)
          | with_reducible refine wp_draws (seg_eval (by simp -dsimp -implicitDefEqProofs [hd2, hd3, hjl]; rfl) ?_)
          | with_reducible refine seg_fin ?_
          | with_reducible refine seg_pan ?_
          | with_reducible refine seg_both ?_ ?_
          | with_reducible refine seg_case (fun x h => ?_) (fun h => ?_)
          | with_reducible refine seg_gate (fun h => ?_) (fun h => ?_)
          | with_reducible refine seg_need ?_ ?_
          | with_reducible refine wp_assoc ?_ | with_reducible refine wp_skipS ?_ | with_reducible refine wp_retS ?_ | with_reducible refine wp_exitS ?_ | with_reducible refine wp_dropS (wp_eqT (by simp -dsimp -implicitDefEqProofs [hd2, hd3, hjl]; rfl) ?_) | with_reducible refine wp_sealS (by simp -dsimp -implicitDefEqProofs [hd2, hd3, hjl]; rfl) ?_ | with_reducible refine wp_seal (by simp -dsimp -implicitDefEqProofs [hd2, hd3, hjl]; rfl) ?_ | with_reducible refine wp_closeS (by simp -dsimp -implicitDefEqProofs [hd2, hd3, hjl]; rfl) ?_ | with_reducible refine wp_close (by simp -dsimp -implicitDefEqProofs [hd2, hd3, hjl]; rfl) ?_ | with_reducible refine wp_conc_out ?_ | with_reducible refine wp_open_out ?_ | with_reducible refine wp_pack_out ?_ | with_reducible refine wp_blockS ?_ | with_reducible refine wp_skip' ?_ | with_reducible refine wp_ret' ?_ | with_reducible refine wp_exit' ?_ | with_reducible refine wp_drop (wp_eqT (by simp -dsimp -implicitDefEqProofs [hd2, hd3, hjl]; rfl) ?_) | with_reducible refine wp_block' ?_
          | with_reducible refine wp_condVS (by simp -dsimp -implicitDefEqProofs [hd2, hd3, hjl]; rfl) ?_
          | with_reducible refine wp_condV (by simp -dsimp -implicitDefEqProofs [hd2, hd3, hjl]; rfl) ?_
          | with_reducible refine cond_t ?_ | with_reducible refine cond_f ?_ | with_reducible refine cond_v (fun h => ?_) (fun h => ?_)
          | with_reducible refine post_then ?_ | with_reducible refine post_thenE ?_ | with_reducible refine post_thenP ?_ | with_reducible refine post_blkP ?_ | with_reducible refine post_thenR ?_ | with_reducible refine post_blkN ?_ | with_reducible refine post_blkE ?_ | with_reducible refine post_blkF rfl ?_ | with_reducible refine post_blkR ?_
          | with_reducible refine seg_eval (by simp -dsimp -implicitDefEqProofs [hd2, hd3, hjl]; rfl) ?_
      all_goals first
        | omega
        | exact post_fin (vs := [.agg (vc (joinV a b))]) (by simp [resAll, res1, rs_50, hjl]) rfl ⟨[], [], by simp, by simp, by simp, by simp⟩
        | trace_state

set_option maxHeartbeats 2000000 in
theorem joinR_ok : CallOk Try.prog 51 spJoin := by
  refine ok_51 (Env.none_ok _) spJoin fun args mem r mem1 h => ?_
  unfold spJoin at h
  split at h
  case h_2 => cases h
  rename_i xs ys
  obtain ⟨a, hxa, h1⟩ := Option.bind_eq_some_iff.1 h
  obtain ⟨b, hyb, h2⟩ := Option.bind_eq_some_iff.1 h1
  clear h h1
  have := unVc_some hxa
  subst this
  have := unVc_some hyb
  subst this
  clear hxa hyb
  obtain ⟨⟨ha, hb⟩, h3⟩ := if_some h2
  clear h2
  cases h3
  have hal := ha.1
  have hbl := hb.1
  have hab : a.length = b.length := by omega
  unfold ac_51
  repeat' first
      | with_reducible refine wp_regionS (seg_eval (by simp -dsimp -implicitDefEqProofs [hal, hbl]; rfl) ?_)
      | with_reducible refine wp_region (seg_eval (by simp -dsimp -implicitDefEqProofs [hal, hbl]; rfl) ?_)
      | with_reducible refine wp_drawsS (seg_eval (by simp -dsimp -implicitDefEqProofs [hal, hbl]; rfl) ?_)
      | with_reducible refine wp_draws (seg_eval (by simp -dsimp -implicitDefEqProofs [hal, hbl]; rfl) ?_)
      | with_reducible refine seg_fin ?_
      | with_reducible refine seg_pan ?_
      | with_reducible refine seg_both ?_ ?_
      | with_reducible refine seg_case (fun x h => ?_) (fun h => ?_)
      | with_reducible refine seg_gate (fun h => ?_) (fun h => ?_)
      | with_reducible refine seg_need ?_ ?_
      | with_reducible refine wp_assoc ?_ | with_reducible refine wp_skipS ?_ | with_reducible refine wp_retS ?_ | with_reducible refine wp_exitS ?_ | with_reducible refine wp_dropS (wp_eqT (by simp -dsimp -implicitDefEqProofs [hal, hbl]; rfl) ?_) | with_reducible refine wp_sealS (by simp -dsimp -implicitDefEqProofs [hal, hbl]; rfl) ?_ | with_reducible refine wp_seal (by simp -dsimp -implicitDefEqProofs [hal, hbl]; rfl) ?_ | with_reducible refine wp_closeS (by simp -dsimp -implicitDefEqProofs [hal, hbl]; rfl) ?_ | with_reducible refine wp_close (by simp -dsimp -implicitDefEqProofs [hal, hbl]; rfl) ?_ | with_reducible refine wp_conc_out ?_ | with_reducible refine wp_open_out ?_ | with_reducible refine wp_pack_out ?_ | with_reducible refine wp_blockS ?_ | with_reducible refine wp_skip' ?_ | with_reducible refine wp_ret' ?_ | with_reducible refine wp_exit' ?_ | with_reducible refine wp_drop (wp_eqT (by simp -dsimp -implicitDefEqProofs [hal, hbl]; rfl) ?_) | with_reducible refine wp_block' ?_
      | with_reducible refine wp_condVS (by simp -dsimp -implicitDefEqProofs [hal, hbl]; rfl) ?_
      | with_reducible refine wp_condV (by simp -dsimp -implicitDefEqProofs [hal, hbl]; rfl) ?_
      | with_reducible refine cond_t ?_ | with_reducible refine cond_f ?_ | with_reducible refine cond_v (fun h => ?_) (fun h => ?_)
      | with_reducible refine post_then ?_ | with_reducible refine post_thenE ?_ | with_reducible refine post_thenP ?_ | with_reducible refine post_blkP ?_ | with_reducible refine post_thenR ?_ | with_reducible refine post_blkN ?_ | with_reducible refine post_blkE ?_ | with_reducible refine post_blkF rfl ?_ | with_reducible refine post_blkR ?_
      | with_reducible refine seg_eval (by simp -dsimp -implicitDefEqProofs [hal, hbl]; rfl) ?_
  refine wp_loop' (fun j ts mm => ∃ i : Nat, i + j = 16 ∧ ts = [(2, .ptr 0 0 0), (3, .fptr (.agg (vc b)) 0), (4, .ptr 1 0 0), (5, .v (.int .i64 i))] ∧ mm = [.var (vc (stepJ a b i)), .var (vc zV)]) 16 ?_ ?_
  · exact ⟨[], [0, 2], by simp, by simp, 0, by omega, by simp, by simp [stepJ_zero]⟩
  · rintro j ts mm ⟨i, hi, rfl, rfl⟩
    have hsl := stepJ_length hab (i := i) (by omega)
    rw [hal] at hsl
    by_cases hlt : i < 16
    · obtain ⟨x, hx⟩ : ∃ x, a[i]? = some x := ⟨_, List.getElem?_eq_getElem (by omega)⟩
      obtain ⟨y, hy⟩ : ∃ y, b[i]? = some y := ⟨_, List.getElem?_eq_getElem (by omega)⟩
      have hd2 : decide (i < 16) = true := by simp [hlt]
      have hd3 : decide ((i : Int) < 16) = true := by rw [decide_eq_true_eq]; omega
      have h64 : IntKind.wrap .i64 ((i : Int) + 1) = ((i + 1 : Nat) : Int) := by rw [IntWalk.i64_in _ (by omega)]; rfl
      have hgx := take_drop_one (stepJ_get hab hx)
      have hgy := take_drop_one hy
      have hmx := max_if x y
      have hmx' := max_nat x y
      have hst := stepJ_set hab hx hy
      have hlt16 : i + 1 ≤ 16 := by omega
      repeat' first
          | with_reducible refine wp_regionS (seg_eval (by simp -dsimp -implicitDefEqProofs [hal, hbl, hd2, hd3, h64, hgx, hgy, hmx, hmx', hst, hlt, hsl, hlt16]; rfl) ?_)
          | with_reducible refine wp_region (seg_eval (by simp -dsimp -implicitDefEqProofs [hal, hbl, hd2, hd3, h64, hgx, hgy, hmx, hmx', hst, hlt, hsl, hlt16]; rfl) ?_)
          | with_reducible refine wp_drawsS (seg_eval (by simp -dsimp -implicitDefEqProofs [hal, hbl, hd2, hd3, h64, hgx, hgy, hmx, hmx', hst, hlt, hsl, hlt16]; rfl) ?_)
          | with_reducible refine wp_draws (seg_eval (by simp -dsimp -implicitDefEqProofs [hal, hbl, hd2, hd3, h64, hgx, hgy, hmx, hmx', hst, hlt, hsl, hlt16]; rfl) ?_)
          | with_reducible refine seg_fin ?_
          | with_reducible refine seg_pan ?_
          | with_reducible refine seg_both ?_ ?_
          | with_reducible refine seg_case (fun x h => ?_) (fun h => ?_)
          | with_reducible refine seg_gate (fun h => ?_) (fun h => ?_)
          | with_reducible refine seg_need ?_ ?_
          | with_reducible refine wp_assoc ?_ | with_reducible refine wp_skipS ?_ | with_reducible refine wp_retS ?_ | with_reducible refine wp_exitS ?_ | with_reducible refine wp_dropS (wp_eqT (by simp -dsimp -implicitDefEqProofs [hal, hbl, hd2, hd3, h64, hgx, hgy, hmx, hmx', hst, hlt, hsl, hlt16]; rfl) ?_) | with_reducible refine wp_sealS (by simp -dsimp -implicitDefEqProofs [hal, hbl, hd2, hd3, h64, hgx, hgy, hmx, hmx', hst, hlt, hsl, hlt16]; rfl) ?_ | with_reducible refine wp_seal (by simp -dsimp -implicitDefEqProofs [hal, hbl, hd2, hd3, h64, hgx, hgy, hmx, hmx', hst, hlt, hsl, hlt16]; rfl) ?_ | with_reducible refine wp_closeS (by simp -dsimp -implicitDefEqProofs [hal, hbl, hd2, hd3, h64, hgx, hgy, hmx, hmx', hst, hlt, hsl, hlt16]; rfl) ?_ | with_reducible refine wp_close (by simp -dsimp -implicitDefEqProofs [hal, hbl, hd2, hd3, h64, hgx, hgy, hmx, hmx', hst, hlt, hsl, hlt16]; rfl) ?_ | with_reducible refine wp_conc_out ?_ | with_reducible refine wp_open_out ?_ | with_reducible refine wp_pack_out ?_ | with_reducible refine wp_blockS ?_ | with_reducible refine wp_skip' ?_ | with_reducible refine wp_ret' ?_ | with_reducible refine wp_exit' ?_ | with_reducible refine wp_drop (wp_eqT (by simp -dsimp -implicitDefEqProofs [hal, hbl, hd2, hd3, h64, hgx, hgy, hmx, hmx', hst, hlt, hsl, hlt16]; rfl) ?_) | with_reducible refine wp_block' ?_
          | with_reducible refine wp_condVS (by simp -dsimp -implicitDefEqProofs [hal, hbl, hd2, hd3, h64, hgx, hgy, hmx, hmx', hst, hlt, hsl, hlt16]; rfl) ?_
          | with_reducible refine wp_condV (by simp -dsimp -implicitDefEqProofs [hal, hbl, hd2, hd3, h64, hgx, hgy, hmx, hmx', hst, hlt, hsl, hlt16]; rfl) ?_
          | with_reducible refine cond_t ?_ | with_reducible refine cond_f ?_ | with_reducible refine cond_v (fun h => ?_) (fun h => ?_)
          | with_reducible refine post_then ?_ | with_reducible refine post_thenE ?_ | with_reducible refine post_thenP ?_ | with_reducible refine post_blkP ?_ | with_reducible refine post_thenR ?_ | with_reducible refine post_blkN ?_ | with_reducible refine post_blkE ?_ | with_reducible refine post_blkF rfl ?_ | with_reducible refine post_blkR ?_
          | with_reducible refine seg_eval (by simp -dsimp -implicitDefEqProofs [hal, hbl, hd2, hd3, h64, hgx, hgy, hmx, hmx', hst, hlt, hsl, hlt16]; rfl) ?_
      all_goals first
        | omega
        | exact ⟨j - 1, by omega, [], [0, 1], by simp, by simp, i + 1, by omega, by simp, by simp⟩
        | trace_state
    · have hd2 : decide (i < 16) = false := by simp [hlt]
      have hd3 : decide ((i : Int) < 16) = false := by rw [decide_eq_false_iff_not]; omega
      have hij : i = a.length := by omega
      subst hij
      rw [stepJ_all hab] at *
      have hjl := (okV_join ha hb).1
      repeat' first
          | with_reducible refine wp_regionS (seg_eval (by simp -dsimp -implicitDefEqProofs [hd2, hd3, hjl]; rfl) ?_)
          | with_reducible refine wp_region (seg_eval (by simp -dsimp -implicitDefEqProofs [hd2, hd3, hjl]; rfl) ?_)
          | with_reducible refine wp_drawsS (seg_eval (by simp -dsimp -implicitDefEqProofs [hd2, hd3, hjl]; rfl) ?_)
          | with_reducible refine wp_draws (seg_eval (by simp -dsimp -implicitDefEqProofs [hd2, hd3, hjl]; rfl) ?_)
          | with_reducible refine seg_fin ?_
          | with_reducible refine seg_pan ?_
          | with_reducible refine seg_both ?_ ?_
          | with_reducible refine seg_case (fun x h => ?_) (fun h => ?_)
          | with_reducible refine seg_gate (fun h => ?_) (fun h => ?_)
          | with_reducible refine seg_need ?_ ?_
          | with_reducible refine wp_assoc ?_ | with_reducible refine wp_skipS ?_ | with_reducible refine wp_retS ?_ | with_reducible refine wp_exitS ?_ | with_reducible refine wp_dropS (wp_eqT (by simp -dsimp -implicitDefEqProofs [hd2, hd3, hjl]; rfl) ?_) | with_reducible refine wp_sealS (by simp -dsimp -implicitDefEqProofs [hd2, hd3, hjl]; rfl) ?_ | with_reducible refine wp_seal (by simp -dsimp -implicitDefEqProofs [hd2, hd3, hjl]; rfl) ?_ | with_reducible refine wp_closeS (by simp -dsimp -implicitDefEqProofs [hd2, hd3, hjl]; rfl) ?_ | with_reducible refine wp_close (by simp -dsimp -implicitDefEqProofs [hd2, hd3, hjl]; rfl) ?_ | with_reducible refine wp_conc_out ?_ | with_reducible refine wp_open_out ?_ | with_reducible refine wp_pack_out ?_ | with_reducible refine wp_blockS ?_ | with_reducible refine wp_skip' ?_ | with_reducible refine wp_ret' ?_ | with_reducible refine wp_exit' ?_ | with_reducible refine wp_drop (wp_eqT (by simp -dsimp -implicitDefEqProofs [hd2, hd3, hjl]; rfl) ?_) | with_reducible refine wp_block' ?_
          | with_reducible refine wp_condVS (by simp -dsimp -implicitDefEqProofs [hd2, hd3, hjl]; rfl) ?_
          | with_reducible refine wp_condV (by simp -dsimp -implicitDefEqProofs [hd2, hd3, hjl]; rfl) ?_
          | with_reducible refine cond_t ?_ | with_reducible refine cond_f ?_ | with_reducible refine cond_v (fun h => ?_) (fun h => ?_)
          | with_reducible refine post_then ?_ | with_reducible refine post_thenE ?_ | with_reducible refine post_thenP ?_ | with_reducible refine post_blkP ?_ | with_reducible refine post_thenR ?_ | with_reducible refine post_blkN ?_ | with_reducible refine post_blkE ?_ | with_reducible refine post_blkF rfl ?_ | with_reducible refine post_blkR ?_
          | with_reducible refine seg_eval (by simp -dsimp -implicitDefEqProofs [hd2, hd3, hjl]; rfl) ?_
      all_goals first
        | omega
        | exact post_fin (vs := [.agg (vc (joinV a b))]) (by simp [resAll, res1, rs_51, hjl]) rfl ⟨[], [], by simp, by simp, by simp, by simp⟩
        | trace_state

def spBelow : Spec
  | [.agg xs, .agg ys], [] => (unVc xs).bind fun a => (unVc ys).bind fun b => if okV a ∧ okV b then some (.ret (.v (.bool (belowV a b))), []) else none
  | _, _ => none

set_option maxHeartbeats 2000000 in
theorem belowR_ok : CallOk Try.prog 23 spBelow := by
  refine ok_23 (Env.none_ok _) spBelow fun args mem r mem1 h => ?_
  unfold spBelow at h
  split at h
  case h_2 => cases h
  rename_i xs ys
  obtain ⟨a, hxa, h1⟩ := Option.bind_eq_some_iff.1 h
  obtain ⟨b, hyb, h2⟩ := Option.bind_eq_some_iff.1 h1
  clear h h1
  have := unVc_some hxa
  subst this
  have := unVc_some hyb
  subst this
  clear hxa hyb
  obtain ⟨⟨ha, hb⟩, h3⟩ := if_some h2
  clear h2
  cases h3
  have hal := ha.1
  have hbl := hb.1
  unfold ac_23
  repeat' first
      | with_reducible refine wp_regionS (seg_eval (by simp -dsimp -implicitDefEqProofs [hal, hbl]; rfl) ?_)
      | with_reducible refine wp_region (seg_eval (by simp -dsimp -implicitDefEqProofs [hal, hbl]; rfl) ?_)
      | with_reducible refine wp_drawsS (seg_eval (by simp -dsimp -implicitDefEqProofs [hal, hbl]; rfl) ?_)
      | with_reducible refine wp_draws (seg_eval (by simp -dsimp -implicitDefEqProofs [hal, hbl]; rfl) ?_)
      | with_reducible refine seg_fin ?_
      | with_reducible refine seg_pan ?_
      | with_reducible refine seg_both ?_ ?_
      | with_reducible refine seg_case (fun x h => ?_) (fun h => ?_)
      | with_reducible refine seg_gate (fun h => ?_) (fun h => ?_)
      | with_reducible refine seg_need ?_ ?_
      | with_reducible refine wp_assoc ?_ | with_reducible refine wp_skipS ?_ | with_reducible refine wp_retS ?_ | with_reducible refine wp_exitS ?_ | with_reducible refine wp_dropS (wp_eqT (by simp -dsimp -implicitDefEqProofs [hal, hbl]; rfl) ?_) | with_reducible refine wp_sealS (by simp -dsimp -implicitDefEqProofs [hal, hbl]; rfl) ?_ | with_reducible refine wp_seal (by simp -dsimp -implicitDefEqProofs [hal, hbl]; rfl) ?_ | with_reducible refine wp_closeS (by simp -dsimp -implicitDefEqProofs [hal, hbl]; rfl) ?_ | with_reducible refine wp_close (by simp -dsimp -implicitDefEqProofs [hal, hbl]; rfl) ?_ | with_reducible refine wp_conc_out ?_ | with_reducible refine wp_open_out ?_ | with_reducible refine wp_pack_out ?_ | with_reducible refine wp_blockS ?_ | with_reducible refine wp_skip' ?_ | with_reducible refine wp_ret' ?_ | with_reducible refine wp_exit' ?_ | with_reducible refine wp_drop (wp_eqT (by simp -dsimp -implicitDefEqProofs [hal, hbl]; rfl) ?_) | with_reducible refine wp_block' ?_
      | with_reducible refine wp_condVS (by simp -dsimp -implicitDefEqProofs [hal, hbl]; rfl) ?_
      | with_reducible refine wp_condV (by simp -dsimp -implicitDefEqProofs [hal, hbl]; rfl) ?_
      | with_reducible refine cond_t ?_ | with_reducible refine cond_f ?_ | with_reducible refine cond_v (fun h => ?_) (fun h => ?_)
      | with_reducible refine post_then ?_ | with_reducible refine post_thenE ?_ | with_reducible refine post_thenP ?_ | with_reducible refine post_blkP ?_ | with_reducible refine post_thenR ?_ | with_reducible refine post_blkN ?_ | with_reducible refine post_blkE ?_ | with_reducible refine post_blkF rfl ?_ | with_reducible refine post_blkR ?_
      | with_reducible refine seg_eval (by simp -dsimp -implicitDefEqProofs [hal, hbl]; rfl) ?_
  refine wp_loop' (fun j ts mm => ∃ i : Nat, i + j = 16 ∧ (∀ (k x y : Nat), k < i → a[k]? = some x → b[k]? = some y → x ≤ y) ∧ ts = [(2, .fptr (.agg (vc a)) 0), (3, .fptr (.agg (vc b)) 0), (5, .v (.int .i64 i))] ∧ mm = []) 16 ?_ ?_
  · exact ⟨[], [], by simp, by simp, 0, by omega, by omega, by simp, by simp⟩
  · rintro j ts mm ⟨i, hi, hpre, rfl, rfl⟩
    by_cases hlt : i < 16
    · obtain ⟨x, hx⟩ : ∃ x, a[i]? = some x := ⟨_, List.getElem?_eq_getElem (by omega)⟩
      obtain ⟨y, hy⟩ : ∃ y, b[i]? = some y := ⟨_, List.getElem?_eq_getElem (by omega)⟩
      have hd2 : decide (i < 16) = true := by simp [hlt]
      have hd3 : decide ((i : Int) < 16) = true := by rw [decide_eq_true_eq]; omega
      have h64 : IntKind.wrap .i64 ((i : Int) + 1) = ((i + 1 : Nat) : Int) := by rw [IntWalk.i64_in _ (by omega)]; rfl
      have hgx := take_drop_one hx
      have hgy := take_drop_one hy
      have hlt16 : i + 1 ≤ 16 := by omega
      by_cases hxy : y < x
      · have hg1 : decide (y < x) = true := by simp [hxy]
        have hg2 : decide ((y : Int) < (x : Int)) = true := by rw [decide_eq_true_eq]; omega
        have hno := belowV_no hx hy hxy
        repeat' first
            | with_reducible refine wp_regionS (seg_eval (by simp -dsimp -implicitDefEqProofs [hal, hbl, hd2, hd3, h64, hgx, hgy, hlt, hlt16, hg1, hg2]; rfl) ?_)
            | with_reducible refine wp_region (seg_eval (by simp -dsimp -implicitDefEqProofs [hal, hbl, hd2, hd3, h64, hgx, hgy, hlt, hlt16, hg1, hg2]; rfl) ?_)
            | with_reducible refine wp_drawsS (seg_eval (by simp -dsimp -implicitDefEqProofs [hal, hbl, hd2, hd3, h64, hgx, hgy, hlt, hlt16, hg1, hg2]; rfl) ?_)
            | with_reducible refine wp_draws (seg_eval (by simp -dsimp -implicitDefEqProofs [hal, hbl, hd2, hd3, h64, hgx, hgy, hlt, hlt16, hg1, hg2]; rfl) ?_)
            | with_reducible refine seg_fin ?_
            | with_reducible refine seg_pan ?_
            | with_reducible refine seg_both ?_ ?_
            | with_reducible refine seg_case (fun x h => ?_) (fun h => ?_)
            | with_reducible refine seg_gate (fun h => ?_) (fun h => ?_)
            | with_reducible refine seg_need ?_ ?_
            | with_reducible refine wp_assoc ?_ | with_reducible refine wp_skipS ?_ | with_reducible refine wp_retS ?_ | with_reducible refine wp_exitS ?_ | with_reducible refine wp_dropS (wp_eqT (by simp -dsimp -implicitDefEqProofs [hal, hbl, hd2, hd3, h64, hgx, hgy, hlt, hlt16, hg1, hg2]; rfl) ?_) | with_reducible refine wp_sealS (by simp -dsimp -implicitDefEqProofs [hal, hbl, hd2, hd3, h64, hgx, hgy, hlt, hlt16, hg1, hg2]; rfl) ?_ | with_reducible refine wp_seal (by simp -dsimp -implicitDefEqProofs [hal, hbl, hd2, hd3, h64, hgx, hgy, hlt, hlt16, hg1, hg2]; rfl) ?_ | with_reducible refine wp_closeS (by simp -dsimp -implicitDefEqProofs [hal, hbl, hd2, hd3, h64, hgx, hgy, hlt, hlt16, hg1, hg2]; rfl) ?_ | with_reducible refine wp_close (by simp -dsimp -implicitDefEqProofs [hal, hbl, hd2, hd3, h64, hgx, hgy, hlt, hlt16, hg1, hg2]; rfl) ?_ | with_reducible refine wp_conc_out ?_ | with_reducible refine wp_open_out ?_ | with_reducible refine wp_pack_out ?_ | with_reducible refine wp_blockS ?_ | with_reducible refine wp_skip' ?_ | with_reducible refine wp_ret' ?_ | with_reducible refine wp_exit' ?_ | with_reducible refine wp_drop (wp_eqT (by simp -dsimp -implicitDefEqProofs [hal, hbl, hd2, hd3, h64, hgx, hgy, hlt, hlt16, hg1, hg2]; rfl) ?_) | with_reducible refine wp_block' ?_
            | with_reducible refine wp_condVS (by simp -dsimp -implicitDefEqProofs [hal, hbl, hd2, hd3, h64, hgx, hgy, hlt, hlt16, hg1, hg2]; rfl) ?_
            | with_reducible refine wp_condV (by simp -dsimp -implicitDefEqProofs [hal, hbl, hd2, hd3, h64, hgx, hgy, hlt, hlt16, hg1, hg2]; rfl) ?_
            | with_reducible refine cond_t ?_ | with_reducible refine cond_f ?_ | with_reducible refine cond_v (fun h => ?_) (fun h => ?_)
            | with_reducible refine post_then ?_ | with_reducible refine post_thenE ?_ | with_reducible refine post_thenP ?_ | with_reducible refine post_blkP ?_ | with_reducible refine post_thenR ?_ | with_reducible refine post_blkN ?_ | with_reducible refine post_blkE ?_ | with_reducible refine post_blkF rfl ?_ | with_reducible refine post_blkR ?_
            | with_reducible refine seg_eval (by simp -dsimp -implicitDefEqProofs [hal, hbl, hd2, hd3, h64, hgx, hgy, hlt, hlt16, hg1, hg2]; rfl) ?_
        all_goals first
          | omega
          | rw [hno]; exact post_fin rfl rfl ⟨[], [], rfl, rfl, rfl, rfl⟩
          | trace_state
      · have hg1 : decide (y < x) = false := by simp [hxy]
        have hg2 : decide ((y : Int) < (x : Int)) = false := by rw [decide_eq_false_iff_not]; omega
        repeat' first
            | with_reducible refine wp_regionS (seg_eval (by simp -dsimp -implicitDefEqProofs [hal, hbl, hd2, hd3, h64, hgx, hgy, hlt, hlt16, hg1, hg2]; rfl) ?_)
            | with_reducible refine wp_region (seg_eval (by simp -dsimp -implicitDefEqProofs [hal, hbl, hd2, hd3, h64, hgx, hgy, hlt, hlt16, hg1, hg2]; rfl) ?_)
            | with_reducible refine wp_drawsS (seg_eval (by simp -dsimp -implicitDefEqProofs [hal, hbl, hd2, hd3, h64, hgx, hgy, hlt, hlt16, hg1, hg2]; rfl) ?_)
            | with_reducible refine wp_draws (seg_eval (by simp -dsimp -implicitDefEqProofs [hal, hbl, hd2, hd3, h64, hgx, hgy, hlt, hlt16, hg1, hg2]; rfl) ?_)
            | with_reducible refine seg_fin ?_
            | with_reducible refine seg_pan ?_
            | with_reducible refine seg_both ?_ ?_
            | with_reducible refine seg_case (fun x h => ?_) (fun h => ?_)
            | with_reducible refine seg_gate (fun h => ?_) (fun h => ?_)
            | with_reducible refine seg_need ?_ ?_
            | with_reducible refine wp_assoc ?_ | with_reducible refine wp_skipS ?_ | with_reducible refine wp_retS ?_ | with_reducible refine wp_exitS ?_ | with_reducible refine wp_dropS (wp_eqT (by simp -dsimp -implicitDefEqProofs [hal, hbl, hd2, hd3, h64, hgx, hgy, hlt, hlt16, hg1, hg2]; rfl) ?_) | with_reducible refine wp_sealS (by simp -dsimp -implicitDefEqProofs [hal, hbl, hd2, hd3, h64, hgx, hgy, hlt, hlt16, hg1, hg2]; rfl) ?_ | with_reducible refine wp_seal (by simp -dsimp -implicitDefEqProofs [hal, hbl, hd2, hd3, h64, hgx, hgy, hlt, hlt16, hg1, hg2]; rfl) ?_ | with_reducible refine wp_closeS (by simp -dsimp -implicitDefEqProofs [hal, hbl, hd2, hd3, h64, hgx, hgy, hlt, hlt16, hg1, hg2]; rfl) ?_ | with_reducible refine wp_close (by simp -dsimp -implicitDefEqProofs [hal, hbl, hd2, hd3, h64, hgx, hgy, hlt, hlt16, hg1, hg2]; rfl) ?_ | with_reducible refine wp_conc_out ?_ | with_reducible refine wp_open_out ?_ | with_reducible refine wp_pack_out ?_ | with_reducible refine wp_blockS ?_ | with_reducible refine wp_skip' ?_ | with_reducible refine wp_ret' ?_ | with_reducible refine wp_exit' ?_ | with_reducible refine wp_drop (wp_eqT (by simp -dsimp -implicitDefEqProofs [hal, hbl, hd2, hd3, h64, hgx, hgy, hlt, hlt16, hg1, hg2]; rfl) ?_) | with_reducible refine wp_block' ?_
            | with_reducible refine wp_condVS (by simp -dsimp -implicitDefEqProofs [hal, hbl, hd2, hd3, h64, hgx, hgy, hlt, hlt16, hg1, hg2]; rfl) ?_
            | with_reducible refine wp_condV (by simp -dsimp -implicitDefEqProofs [hal, hbl, hd2, hd3, h64, hgx, hgy, hlt, hlt16, hg1, hg2]; rfl) ?_
            | with_reducible refine cond_t ?_ | with_reducible refine cond_f ?_ | with_reducible refine cond_v (fun h => ?_) (fun h => ?_)
            | with_reducible refine post_then ?_ | with_reducible refine post_thenE ?_ | with_reducible refine post_thenP ?_ | with_reducible refine post_blkP ?_ | with_reducible refine post_thenR ?_ | with_reducible refine post_blkN ?_ | with_reducible refine post_blkE ?_ | with_reducible refine post_blkF rfl ?_ | with_reducible refine post_blkR ?_
            | with_reducible refine seg_eval (by simp -dsimp -implicitDefEqProofs [hal, hbl, hd2, hd3, h64, hgx, hgy, hlt, hlt16, hg1, hg2]; rfl) ?_
        all_goals first
          | omega
          | refine ⟨j - 1, by omega, [], [], by simp, by simp, i + 1, by omega, ?_, by simp, by simp⟩
            intro k x' y' hk h1 h2
            by_cases hki : k = i
            · subst hki
              rw [hx] at h1; rw [hy] at h2
              cases h1; cases h2
              omega
            · exact hpre k x' y' (by omega) h1 h2
          | trace_state
    · have hd2 : decide (i < 16) = false := by simp [hlt]
      have hd3 : decide ((i : Int) < 16) = false := by rw [decide_eq_false_iff_not]; omega
      have hyes : belowV a b = true := belowV_yes fun k x y h1 h2 => hpre k x y (by have := (List.getElem?_eq_some_iff.1 h1).1; omega) h1 h2
      repeat' first
          | with_reducible refine wp_regionS (seg_eval (by simp -dsimp -implicitDefEqProofs [hd2, hd3]; rfl) ?_)
          | with_reducible refine wp_region (seg_eval (by simp -dsimp -implicitDefEqProofs [hd2, hd3]; rfl) ?_)
          | with_reducible refine wp_drawsS (seg_eval (by simp -dsimp -implicitDefEqProofs [hd2, hd3]; rfl) ?_)
          | with_reducible refine wp_draws (seg_eval (by simp -dsimp -implicitDefEqProofs [hd2, hd3]; rfl) ?_)
          | with_reducible refine seg_fin ?_
          | with_reducible refine seg_pan ?_
          | with_reducible refine seg_both ?_ ?_
          | with_reducible refine seg_case (fun x h => ?_) (fun h => ?_)
          | with_reducible refine seg_gate (fun h => ?_) (fun h => ?_)
          | with_reducible refine seg_need ?_ ?_
          | with_reducible refine wp_assoc ?_ | with_reducible refine wp_skipS ?_ | with_reducible refine wp_retS ?_ | with_reducible refine wp_exitS ?_ | with_reducible refine wp_dropS (wp_eqT (by simp -dsimp -implicitDefEqProofs [hd2, hd3]; rfl) ?_) | with_reducible refine wp_sealS (by simp -dsimp -implicitDefEqProofs [hd2, hd3]; rfl) ?_ | with_reducible refine wp_seal (by simp -dsimp -implicitDefEqProofs [hd2, hd3]; rfl) ?_ | with_reducible refine wp_closeS (by simp -dsimp -implicitDefEqProofs [hd2, hd3]; rfl) ?_ | with_reducible refine wp_close (by simp -dsimp -implicitDefEqProofs [hd2, hd3]; rfl) ?_ | with_reducible refine wp_conc_out ?_ | with_reducible refine wp_open_out ?_ | with_reducible refine wp_pack_out ?_ | with_reducible refine wp_blockS ?_ | with_reducible refine wp_skip' ?_ | with_reducible refine wp_ret' ?_ | with_reducible refine wp_exit' ?_ | with_reducible refine wp_drop (wp_eqT (by simp -dsimp -implicitDefEqProofs [hd2, hd3]; rfl) ?_) | with_reducible refine wp_block' ?_
          | with_reducible refine wp_condVS (by simp -dsimp -implicitDefEqProofs [hd2, hd3]; rfl) ?_
          | with_reducible refine wp_condV (by simp -dsimp -implicitDefEqProofs [hd2, hd3]; rfl) ?_
          | with_reducible refine cond_t ?_ | with_reducible refine cond_f ?_ | with_reducible refine cond_v (fun h => ?_) (fun h => ?_)
          | with_reducible refine post_then ?_ | with_reducible refine post_thenE ?_ | with_reducible refine post_thenP ?_ | with_reducible refine post_blkP ?_ | with_reducible refine post_thenR ?_ | with_reducible refine post_blkN ?_ | with_reducible refine post_blkE ?_ | with_reducible refine post_blkF rfl ?_ | with_reducible refine post_blkR ?_
          | with_reducible refine seg_eval (by simp -dsimp -implicitDefEqProofs [hd2, hd3]; rfl) ?_
      all_goals first
        | omega
        | rw [hyes]; exact post_fin rfl rfl ⟨[], [], rfl, rfl, rfl, rfl⟩
        | trace_state

end Go.Proofs.Ytbponegjfccgfaa.Am
