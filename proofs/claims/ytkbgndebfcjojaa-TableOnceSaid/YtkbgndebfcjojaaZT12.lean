/-
  ONE PACKAGE's CASES AND TABLES AS THE OTHER's; few; told.
-/
import Derived.Test.YtkbgndebfcjojaaZT11
namespace Go.Proofs.Ytkbgndebfcjojaa.Am
set_option linter.unusedSimpArgs false
set_option linter.unusedVariables false
open Go Go.Proofs
attribute [local irreducible] wpA
attribute [-simp] splice

theorem tc_putv (v m v' : Int) (b : List Nat) (x : AV) : splice (tc v m b x) 0 [.v (.int .i64 v')] = tc v' m b x := by simp [splice, tc]
theorem tc_putm (v m m' : Int) (b : List Nat) (x : AV) : splice (tc v m b x) 1 [.v (.int .u16 m')] = tc v m' b x := by simp [splice, tc]
attribute [simp high] tc_putv tc_putm
noncomputable def spConvC : Spec := sp1 avCs okCs avCs

set_option maxHeartbeats 8000000 in
theorem theirs7_ok : CallOk Try.prog 28 spConvC := by
  refine ok_28 (Env.none_ok _) spConvC (wb_sp1 ?_)
  rintro ⟨e, r, d, es, rs⟩ ⟨⟨hl1, _⟩, hl2, _⟩
  simp only [avCs] at hl1 hl2 ⊢
  unfold ac_28
  repeat' with_reducible first
  | refine stp ?_ | refine seg_both ?_ ?_ | refine seg_case (fun x h => ?_) (fun h => ?_) | refine seg_gate (fun h => ?_) (fun h => ?_) | refine seg_need ?_ ?_ | refine cond_v (fun h => ?_) (fun h => ?_)
  | refine seg_eval (by simp -dsimp -implicitDefEqProofs; rfl) ?_
  refine wp_loopR (fun ts mm => ts = [(1, .fptr (.agg [.v (.bool e), .v (.bool r), .v (.bool d), .fsl 2 (es.map avBa), .fsl 2 (rs.map avBa)]) 0), (2, .ptr 0 0 0), (3, .ptr 1 0 0)] ∧ ((es = [] ∧ mm = [.var [.v (.bool false), .v (.bool false), .v (.bool false), .v (.slice none 0 0), .v (.slice none 0 0)], .var [.v (.bool e), .v (.bool r), .v (.bool d), .v (.slice none 0 0), .v (.slice none 0 0)]]) ∨ (es ≠ [] ∧ mm = [.var [.v (.bool false), .v (.bool false), .v (.bool false), .v (.slice none 0 0), .v (.slice none 0 0)], .var [.v (.bool e), .v (.bool r), .v (.bool d), .osl 2, .v (.slice none 0 0)], .arr 107 2 (es.map avBa)])))
    (fun j ts mm => ∃ i : Nat, i + j = es.length ∧ ts = [(1, .fptr (.agg [.v (.bool e), .v (.bool r), .v (.bool d), .fsl 2 (es.map avBa), .fsl 2 (rs.map avBa)]) 0), (2, .ptr 0 0 0), (3, .ptr 1 0 0), (16, .fsl 2 (es.map avBa)), (17, .v (.int .i64 es.length)), (18, .v (.int .i64 i))] ∧
      ((i = 0 ∧ mm = [.var [.v (.bool false), .v (.bool false), .v (.bool false), .v (.slice none 0 0), .v (.slice none 0 0)], .var [.v (.bool e), .v (.bool r), .v (.bool d), .v (.slice none 0 0), .v (.slice none 0 0)]]) ∨ (0 < i ∧ mm = [.var [.v (.bool false), .v (.bool false), .v (.bool false), .v (.slice none 0 0), .v (.slice none 0 0)], .var [.v (.bool e), .v (.bool r), .v (.bool d), .osl 2, .v (.slice none 0 0)], .arr 107 2 ((es.take i).map avBa)]))) es.length ?_ ?_ ?_
  · exact ⟨[], [1, 2], rfl, rfl, 0, by omega, by simp, .inl ⟨rfl, by simp⟩⟩
  · rintro W hW j ts mm ⟨i, hi, rfl, hmm⟩
    by_cases hlt : i < es.length
    · obtain ⟨x, hx⟩ : ∃ x, es[i]? = some x := ⟨_, List.getElem?_eq_getElem (by omega)⟩
      have hd : decide ((i : Int) < (es.length : Int)) = true := by rw [decide_eq_true_eq]; omega
      have hd2 : decide (i < es.length) = true := by simp [hlt]
      have h64 : IntKind.wrap .i64 ((i : Int) + 1) = ((i + 1 : Nat) : Int) := by rw [IntWalk.i64_in _ (by omega)]; rfl
      have hul : (es.take i).length ≤ 1000000 := by simp; omega
      have hst := take_more hx
      have hxc := ba_shaped x
      obtain ⟨xb, xn⟩ := x
      simp only [avBa] at hxc
      rcases hmm with ⟨rfl, rfl⟩ | ⟨h0, rfl⟩
      · repeat' with_reducible first
        | refine stp ?_ | refine seg_both ?_ ?_ | refine seg_case (fun x h => ?_) (fun h => ?_) | refine seg_gate (fun h => ?_) (fun h => ?_) | refine seg_need ?_ ?_ | refine cond_v (fun h => ?_) (fun h => ?_)
        | refine seg_eval (by simp -dsimp -implicitDefEqProofs [avBa, hd, hd2, h64, hx, hxc]; rfl) ?_
        all_goals first
          | omega
          | exact ⟨j - 1, by omega, [], [0, 1, 4], by simp, by simp, 1, by omega, by simp; decide, .inr ⟨by omega, by simp [hst, avBa]⟩⟩
          | trace_state
      · repeat' with_reducible first
        | refine stp ?_ | refine seg_both ?_ ?_ | refine seg_case (fun x h => ?_) (fun h => ?_) | refine seg_gate (fun h => ?_) (fun h => ?_) | refine seg_need ?_ ?_ | refine cond_v (fun h => ?_) (fun h => ?_)
        | refine seg_eval (by simp -dsimp -implicitDefEqProofs [avBa, hd, hd2, h64, hx, hxc, hul]; rfl) ?_
        all_goals first
          | omega
          | exact ⟨j - 1, by omega, [], [0, 1, 5], by simp, by simp, i + 1, by omega, by simp, .inr ⟨by omega, by simp [hst, avBa]⟩⟩
          | trace_state
    · have hd : decide ((i : Int) < (es.length : Int)) = false := by rw [decide_eq_false_iff_not]; omega
      have hd2 : decide (i < es.length) = false := by simp [hlt]
      rcases hmm with ⟨rfl, rfl⟩ | ⟨h0, rfl⟩
      · have he : es = [] := List.eq_nil_of_length_eq_zero (by omega)
        repeat' with_reducible first
        | refine stp ?_ | refine seg_both ?_ ?_ | refine seg_case (fun x h => ?_) (fun h => ?_) | refine seg_gate (fun h => ?_) (fun h => ?_) | refine seg_need ?_ ?_ | refine cond_v (fun h => ?_) (fun h => ?_)
        | refine seg_eval (by simp -dsimp -implicitDefEqProofs [hd, hd2]; rfl) ?_
        all_goals first
          | exact hW _ _ ⟨by simp, .inl ⟨he, by simp⟩⟩
          | trace_state
      · have hil : es.take i = es := List.take_of_length_le (by omega)
        rw [hil]
        repeat' with_reducible first
        | refine stp ?_ | refine seg_both ?_ ?_ | refine seg_case (fun x h => ?_) (fun h => ?_) | refine seg_gate (fun h => ?_) (fun h => ?_) | refine seg_need ?_ ?_ | refine cond_v (fun h => ?_) (fun h => ?_)
        | refine seg_eval (by simp -dsimp -implicitDefEqProofs [hd, hd2]; rfl) ?_
        all_goals first
          | exact hW _ _ ⟨by simp, .inr ⟨by intro h; rw [h] at hlt hi; simp at hi; omega, by simp⟩⟩
          | trace_state
  · rintro ts mm ⟨rfl, hmm1⟩
    rcases hmm1 with ⟨hes, rfl⟩ | ⟨hes, rfl⟩
    · repeat' with_reducible first
      | refine stp ?_ | refine seg_both ?_ ?_ | refine seg_case (fun x h => ?_) (fun h => ?_) | refine seg_gate (fun h => ?_) (fun h => ?_) | refine seg_need ?_ ?_ | refine cond_v (fun h => ?_) (fun h => ?_)
      | refine seg_eval (by simp -dsimp -implicitDefEqProofs; rfl) ?_
      refine wp_loop' (fun j ts mm => ∃ i : Nat, i + j = rs.length ∧ ts = [(2, .ptr 0 0 0), (3, .ptr 1 0 0), (30, .fsl 2 (rs.map avBa)), (31, .v (.int .i64 rs.length)), (32, .v (.int .i64 i))] ∧
        ((i = 0 ∧ mm = [.var [.v (.bool false), .v (.bool false), .v (.bool false), .v (.slice none 0 0), .v (.slice none 0 0)], .var [.v (.bool e), .v (.bool r), .v (.bool d), .v (.slice none 0 0), .v (.slice none 0 0)]]) ∨ (0 < i ∧ mm = [.var [.v (.bool false), .v (.bool false), .v (.bool false), .v (.slice none 0 0), .v (.slice none 0 0)], .var [.v (.bool e), .v (.bool r), .v (.bool d), .v (.slice none 0 0), .osl 2], .arr 107 2 ((rs.take i).map avBa)]))) rs.length ?_ ?_
      · exact ⟨[], [0, 1], rfl, rfl, 0, by omega, by simp, .inl ⟨rfl, by simp⟩⟩
      · rintro j ts mm ⟨i, hi, rfl, hmm⟩
        by_cases hlt : i < rs.length
        · obtain ⟨x, hx⟩ : ∃ x, rs[i]? = some x := ⟨_, List.getElem?_eq_getElem (by omega)⟩
          have hd : decide ((i : Int) < (rs.length : Int)) = true := by rw [decide_eq_true_eq]; omega
          have hd2 : decide (i < rs.length) = true := by simp [hlt]
          have h64 : IntKind.wrap .i64 ((i : Int) + 1) = ((i + 1 : Nat) : Int) := by rw [IntWalk.i64_in _ (by omega)]; rfl
          have hul : (rs.take i).length ≤ 1000000 := by simp; omega
          have hst := take_more hx
          have hxc := ba_shaped x
          obtain ⟨xb, xn⟩ := x
          simp only [avBa] at hxc
          rcases hmm with ⟨rfl, rfl⟩ | ⟨h0, rfl⟩
          · repeat' with_reducible first
            | refine stp ?_ | refine seg_both ?_ ?_ | refine seg_case (fun x h => ?_) (fun h => ?_) | refine seg_gate (fun h => ?_) (fun h => ?_) | refine seg_need ?_ ?_ | refine cond_v (fun h => ?_) (fun h => ?_)
            | refine seg_eval (by simp -dsimp -implicitDefEqProofs [avBa, hd, hd2, h64, hx, hxc]; rfl) ?_
            all_goals first
              | omega
              | exact ⟨j - 1, by omega, [], [0, 1, 4], by simp, by simp, 1, by omega, by simp; decide, .inr ⟨by omega, by simp [hst, avBa]⟩⟩
              | trace_state
          · repeat' with_reducible first
            | refine stp ?_ | refine seg_both ?_ ?_ | refine seg_case (fun x h => ?_) (fun h => ?_) | refine seg_gate (fun h => ?_) (fun h => ?_) | refine seg_need ?_ ?_ | refine cond_v (fun h => ?_) (fun h => ?_)
            | refine seg_eval (by simp -dsimp -implicitDefEqProofs [avBa, hd, hd2, h64, hx, hxc, hul]; rfl) ?_
            all_goals first
              | omega
              | exact ⟨j - 1, by omega, [], [0, 1, 5], by simp, by simp, i + 1, by omega, by simp, .inr ⟨by omega, by simp [hst, avBa]⟩⟩
              | trace_state
        · have hd : decide ((i : Int) < (rs.length : Int)) = false := by rw [decide_eq_false_iff_not]; omega
          have hd2 : decide (i < rs.length) = false := by simp [hlt]
          rcases hmm with ⟨rfl, rfl⟩ | ⟨h0, rfl⟩
          · have he : rs = [] := List.eq_nil_of_length_eq_zero (by omega)
            subst hes; subst he
            simp only [List.map_nil]
            repeat' with_reducible first
            | refine stp ?_ | refine seg_both ?_ ?_ | refine seg_case (fun x h => ?_) (fun h => ?_) | refine seg_gate (fun h => ?_) (fun h => ?_) | refine seg_need ?_ ?_ | refine cond_v (fun h => ?_) (fun h => ?_)
            | refine seg_eval (by simp -dsimp -implicitDefEqProofs [hd, hd2]; rfl) ?_
            all_goals first
              | exact post_finS rfl rfl (.agg (.cons (.rfl _) (.cons (.rfl _) (.cons (.rfl _) (.cons (.nil 0 2) (.cons (.nil 0 2) .nil)))))) ⟨[], [], rfl, rfl, rfl, rfl⟩
              | trace_state
          · have hil : rs.take i = rs := List.take_of_length_le (by omega)
            rw [hil]
            subst hes
            simp only [List.map_nil]
            repeat' with_reducible first
            | refine stp ?_ | refine seg_both ?_ ?_ | refine seg_case (fun x h => ?_) (fun h => ?_) | refine seg_gate (fun h => ?_) (fun h => ?_) | refine seg_need ?_ ?_ | refine cond_v (fun h => ?_) (fun h => ?_)
            | refine seg_eval (by simp -dsimp -implicitDefEqProofs [hd, hd2]; rfl) ?_
            all_goals first
              | exact post_finS rfl rfl (.agg (.cons (.rfl _) (.cons (.rfl _) (.cons (.rfl _) (.cons (.nil 0 2) (.cons (.rfl _) .nil)))))) ⟨[2], [], rfl, rfl, rfl, rfl⟩
              | trace_state
    · repeat' with_reducible first
      | refine stp ?_ | refine seg_both ?_ ?_ | refine seg_case (fun x h => ?_) (fun h => ?_) | refine seg_gate (fun h => ?_) (fun h => ?_) | refine seg_need ?_ ?_ | refine cond_v (fun h => ?_) (fun h => ?_)
      | refine seg_eval (by simp -dsimp -implicitDefEqProofs; rfl) ?_
      refine wp_loop' (fun j ts mm => ∃ i : Nat, i + j = rs.length ∧ ts = [(2, .ptr 0 0 0), (3, .ptr 1 0 0), (30, .fsl 2 (rs.map avBa)), (31, .v (.int .i64 rs.length)), (32, .v (.int .i64 i))] ∧
        ((i = 0 ∧ mm = [.var [.v (.bool false), .v (.bool false), .v (.bool false), .v (.slice none 0 0), .v (.slice none 0 0)], .var [.v (.bool e), .v (.bool r), .v (.bool d), .osl 2, .v (.slice none 0 0)], .arr 107 2 (es.map avBa)]) ∨ (0 < i ∧ mm = [.var [.v (.bool false), .v (.bool false), .v (.bool false), .v (.slice none 0 0), .v (.slice none 0 0)], .var [.v (.bool e), .v (.bool r), .v (.bool d), .osl 2, .osl 3], .arr 107 2 (es.map avBa), .arr 107 2 ((rs.take i).map avBa)]))) rs.length ?_ ?_
      · exact ⟨[], [0, 1, 2], rfl, rfl, 0, by omega, by simp, .inl ⟨rfl, by simp⟩⟩
      · rintro j ts mm ⟨i, hi, rfl, hmm⟩
        by_cases hlt : i < rs.length
        · obtain ⟨x, hx⟩ : ∃ x, rs[i]? = some x := ⟨_, List.getElem?_eq_getElem (by omega)⟩
          have hd : decide ((i : Int) < (rs.length : Int)) = true := by rw [decide_eq_true_eq]; omega
          have hd2 : decide (i < rs.length) = true := by simp [hlt]
          have h64 : IntKind.wrap .i64 ((i : Int) + 1) = ((i + 1 : Nat) : Int) := by rw [IntWalk.i64_in _ (by omega)]; rfl
          have hul : (rs.take i).length ≤ 1000000 := by simp; omega
          have hst := take_more hx
          have hxc := ba_shaped x
          obtain ⟨xb, xn⟩ := x
          simp only [avBa] at hxc
          rcases hmm with ⟨rfl, rfl⟩ | ⟨h0, rfl⟩
          · repeat' with_reducible first
            | refine stp ?_ | refine seg_both ?_ ?_ | refine seg_case (fun x h => ?_) (fun h => ?_) | refine seg_gate (fun h => ?_) (fun h => ?_) | refine seg_need ?_ ?_ | refine cond_v (fun h => ?_) (fun h => ?_)
            | refine seg_eval (by simp -dsimp -implicitDefEqProofs [avBa, hd, hd2, h64, hx, hxc]; rfl) ?_
            all_goals first
              | omega
              | exact ⟨j - 1, by omega, [], [0, 1, 2, 5], by simp, by simp, 1, by omega, by simp; decide, .inr ⟨by omega, by simp [hst, avBa]⟩⟩
              | trace_state
          · repeat' with_reducible first
            | refine stp ?_ | refine seg_both ?_ ?_ | refine seg_case (fun x h => ?_) (fun h => ?_) | refine seg_gate (fun h => ?_) (fun h => ?_) | refine seg_need ?_ ?_ | refine cond_v (fun h => ?_) (fun h => ?_)
            | refine seg_eval (by simp -dsimp -implicitDefEqProofs [avBa, hd, hd2, h64, hx, hxc, hul]; rfl) ?_
            all_goals first
              | omega
              | exact ⟨j - 1, by omega, [], [0, 1, 2, 6], by simp, by simp, i + 1, by omega, by simp, .inr ⟨by omega, by simp [hst, avBa]⟩⟩
              | trace_state
        · have hd : decide ((i : Int) < (rs.length : Int)) = false := by rw [decide_eq_false_iff_not]; omega
          have hd2 : decide (i < rs.length) = false := by simp [hlt]
          rcases hmm with ⟨rfl, rfl⟩ | ⟨h0, rfl⟩
          · have he : rs = [] := List.eq_nil_of_length_eq_zero (by omega)
            subst he
            simp only [List.map_nil]
            repeat' with_reducible first
            | refine stp ?_ | refine seg_both ?_ ?_ | refine seg_case (fun x h => ?_) (fun h => ?_) | refine seg_gate (fun h => ?_) (fun h => ?_) | refine seg_need ?_ ?_ | refine cond_v (fun h => ?_) (fun h => ?_)
            | refine seg_eval (by simp -dsimp -implicitDefEqProofs [hd, hd2]; rfl) ?_
            all_goals first
              | exact post_finS rfl rfl (.agg (.cons (.rfl _) (.cons (.rfl _) (.cons (.rfl _) (.cons (.rfl _) (.cons (.nil 0 2) .nil)))))) ⟨[2], [], rfl, rfl, rfl, rfl⟩
              | trace_state
          · have hil : rs.take i = rs := List.take_of_length_le (by omega)
            rw [hil]
            skip
            skip
            repeat' with_reducible first
            | refine stp ?_ | refine seg_both ?_ ?_ | refine seg_case (fun x h => ?_) (fun h => ?_) | refine seg_gate (fun h => ?_) (fun h => ?_) | refine seg_need ?_ ?_ | refine cond_v (fun h => ?_) (fun h => ?_)
            | refine seg_eval (by simp -dsimp -implicitDefEqProofs [hd, hd2]; rfl) ?_
            all_goals first
              | exact post_finS rfl rfl (.agg (.cons (.rfl _) (.cons (.rfl _) (.cons (.rfl _) (.cons (.rfl _) (.cons (.rfl _) .nil)))))) ⟨[2, 3], [], rfl, rfl, rfl, rfl⟩
              | trace_state

set_option maxHeartbeats 8000000 in
theorem ours7_ok : CallOk Try.prog 38 spConvC := by
  refine ok_38 (Env.none_ok _) spConvC (wb_sp1 ?_)
  rintro ⟨e, r, d, es, rs⟩ ⟨⟨hl1, _⟩, hl2, _⟩
  simp only [avCs] at hl1 hl2 ⊢
  unfold ac_38
  repeat' with_reducible first
  | refine stp ?_ | refine seg_both ?_ ?_ | refine seg_case (fun x h => ?_) (fun h => ?_) | refine seg_gate (fun h => ?_) (fun h => ?_) | refine seg_need ?_ ?_ | refine cond_v (fun h => ?_) (fun h => ?_)
  | refine seg_eval (by simp -dsimp -implicitDefEqProofs; rfl) ?_
  refine wp_loopR (fun ts mm => ts = [(1, .fptr (.agg [.v (.bool e), .v (.bool r), .v (.bool d), .fsl 2 (es.map avBa), .fsl 2 (rs.map avBa)]) 0), (2, .ptr 0 0 0), (3, .ptr 1 0 0)] ∧ ((es = [] ∧ mm = [.var [.v (.bool false), .v (.bool false), .v (.bool false), .v (.slice none 0 0), .v (.slice none 0 0)], .var [.v (.bool e), .v (.bool r), .v (.bool d), .v (.slice none 0 0), .v (.slice none 0 0)]]) ∨ (es ≠ [] ∧ mm = [.var [.v (.bool false), .v (.bool false), .v (.bool false), .v (.slice none 0 0), .v (.slice none 0 0)], .var [.v (.bool e), .v (.bool r), .v (.bool d), .osl 2, .v (.slice none 0 0)], .arr 116 2 (es.map avBa)])))
    (fun j ts mm => ∃ i : Nat, i + j = es.length ∧ ts = [(1, .fptr (.agg [.v (.bool e), .v (.bool r), .v (.bool d), .fsl 2 (es.map avBa), .fsl 2 (rs.map avBa)]) 0), (2, .ptr 0 0 0), (3, .ptr 1 0 0), (16, .fsl 2 (es.map avBa)), (17, .v (.int .i64 es.length)), (18, .v (.int .i64 i))] ∧
      ((i = 0 ∧ mm = [.var [.v (.bool false), .v (.bool false), .v (.bool false), .v (.slice none 0 0), .v (.slice none 0 0)], .var [.v (.bool e), .v (.bool r), .v (.bool d), .v (.slice none 0 0), .v (.slice none 0 0)]]) ∨ (0 < i ∧ mm = [.var [.v (.bool false), .v (.bool false), .v (.bool false), .v (.slice none 0 0), .v (.slice none 0 0)], .var [.v (.bool e), .v (.bool r), .v (.bool d), .osl 2, .v (.slice none 0 0)], .arr 116 2 ((es.take i).map avBa)]))) es.length ?_ ?_ ?_
  · exact ⟨[], [1, 2], rfl, rfl, 0, by omega, by simp, .inl ⟨rfl, by simp⟩⟩
  · rintro W hW j ts mm ⟨i, hi, rfl, hmm⟩
    by_cases hlt : i < es.length
    · obtain ⟨x, hx⟩ : ∃ x, es[i]? = some x := ⟨_, List.getElem?_eq_getElem (by omega)⟩
      have hd : decide ((i : Int) < (es.length : Int)) = true := by rw [decide_eq_true_eq]; omega
      have hd2 : decide (i < es.length) = true := by simp [hlt]
      have h64 : IntKind.wrap .i64 ((i : Int) + 1) = ((i + 1 : Nat) : Int) := by rw [IntWalk.i64_in _ (by omega)]; rfl
      have hul : (es.take i).length ≤ 1000000 := by simp; omega
      have hst := take_more hx
      have hxc := ba_shaped x
      obtain ⟨xb, xn⟩ := x
      simp only [avBa] at hxc
      rcases hmm with ⟨rfl, rfl⟩ | ⟨h0, rfl⟩
      · repeat' with_reducible first
        | refine stp ?_ | refine seg_both ?_ ?_ | refine seg_case (fun x h => ?_) (fun h => ?_) | refine seg_gate (fun h => ?_) (fun h => ?_) | refine seg_need ?_ ?_ | refine cond_v (fun h => ?_) (fun h => ?_)
        | refine seg_eval (by simp -dsimp -implicitDefEqProofs [avBa, hd, hd2, h64, hx, hxc]; rfl) ?_
        all_goals first
          | omega
          | exact ⟨j - 1, by omega, [], [0, 1, 4], by simp, by simp, 1, by omega, by simp; decide, .inr ⟨by omega, by simp [hst, avBa]⟩⟩
          | trace_state
      · repeat' with_reducible first
        | refine stp ?_ | refine seg_both ?_ ?_ | refine seg_case (fun x h => ?_) (fun h => ?_) | refine seg_gate (fun h => ?_) (fun h => ?_) | refine seg_need ?_ ?_ | refine cond_v (fun h => ?_) (fun h => ?_)
        | refine seg_eval (by simp -dsimp -implicitDefEqProofs [avBa, hd, hd2, h64, hx, hxc, hul]; rfl) ?_
        all_goals first
          | omega
          | exact ⟨j - 1, by omega, [], [0, 1, 5], by simp, by simp, i + 1, by omega, by simp, .inr ⟨by omega, by simp [hst, avBa]⟩⟩
          | trace_state
    · have hd : decide ((i : Int) < (es.length : Int)) = false := by rw [decide_eq_false_iff_not]; omega
      have hd2 : decide (i < es.length) = false := by simp [hlt]
      rcases hmm with ⟨rfl, rfl⟩ | ⟨h0, rfl⟩
      · have he : es = [] := List.eq_nil_of_length_eq_zero (by omega)
        repeat' with_reducible first
        | refine stp ?_ | refine seg_both ?_ ?_ | refine seg_case (fun x h => ?_) (fun h => ?_) | refine seg_gate (fun h => ?_) (fun h => ?_) | refine seg_need ?_ ?_ | refine cond_v (fun h => ?_) (fun h => ?_)
        | refine seg_eval (by simp -dsimp -implicitDefEqProofs [hd, hd2]; rfl) ?_
        all_goals first
          | exact hW _ _ ⟨by simp, .inl ⟨he, by simp⟩⟩
          | trace_state
      · have hil : es.take i = es := List.take_of_length_le (by omega)
        rw [hil]
        repeat' with_reducible first
        | refine stp ?_ | refine seg_both ?_ ?_ | refine seg_case (fun x h => ?_) (fun h => ?_) | refine seg_gate (fun h => ?_) (fun h => ?_) | refine seg_need ?_ ?_ | refine cond_v (fun h => ?_) (fun h => ?_)
        | refine seg_eval (by simp -dsimp -implicitDefEqProofs [hd, hd2]; rfl) ?_
        all_goals first
          | exact hW _ _ ⟨by simp, .inr ⟨by intro h; rw [h] at hlt hi; simp at hi; omega, by simp⟩⟩
          | trace_state
  · rintro ts mm ⟨rfl, hmm1⟩
    rcases hmm1 with ⟨hes, rfl⟩ | ⟨hes, rfl⟩
    · repeat' with_reducible first
      | refine stp ?_ | refine seg_both ?_ ?_ | refine seg_case (fun x h => ?_) (fun h => ?_) | refine seg_gate (fun h => ?_) (fun h => ?_) | refine seg_need ?_ ?_ | refine cond_v (fun h => ?_) (fun h => ?_)
      | refine seg_eval (by simp -dsimp -implicitDefEqProofs; rfl) ?_
      refine wp_loop' (fun j ts mm => ∃ i : Nat, i + j = rs.length ∧ ts = [(2, .ptr 0 0 0), (3, .ptr 1 0 0), (30, .fsl 2 (rs.map avBa)), (31, .v (.int .i64 rs.length)), (32, .v (.int .i64 i))] ∧
        ((i = 0 ∧ mm = [.var [.v (.bool false), .v (.bool false), .v (.bool false), .v (.slice none 0 0), .v (.slice none 0 0)], .var [.v (.bool e), .v (.bool r), .v (.bool d), .v (.slice none 0 0), .v (.slice none 0 0)]]) ∨ (0 < i ∧ mm = [.var [.v (.bool false), .v (.bool false), .v (.bool false), .v (.slice none 0 0), .v (.slice none 0 0)], .var [.v (.bool e), .v (.bool r), .v (.bool d), .v (.slice none 0 0), .osl 2], .arr 116 2 ((rs.take i).map avBa)]))) rs.length ?_ ?_
      · exact ⟨[], [0, 1], rfl, rfl, 0, by omega, by simp, .inl ⟨rfl, by simp⟩⟩
      · rintro j ts mm ⟨i, hi, rfl, hmm⟩
        by_cases hlt : i < rs.length
        · obtain ⟨x, hx⟩ : ∃ x, rs[i]? = some x := ⟨_, List.getElem?_eq_getElem (by omega)⟩
          have hd : decide ((i : Int) < (rs.length : Int)) = true := by rw [decide_eq_true_eq]; omega
          have hd2 : decide (i < rs.length) = true := by simp [hlt]
          have h64 : IntKind.wrap .i64 ((i : Int) + 1) = ((i + 1 : Nat) : Int) := by rw [IntWalk.i64_in _ (by omega)]; rfl
          have hul : (rs.take i).length ≤ 1000000 := by simp; omega
          have hst := take_more hx
          have hxc := ba_shaped x
          obtain ⟨xb, xn⟩ := x
          simp only [avBa] at hxc
          rcases hmm with ⟨rfl, rfl⟩ | ⟨h0, rfl⟩
          · repeat' with_reducible first
            | refine stp ?_ | refine seg_both ?_ ?_ | refine seg_case (fun x h => ?_) (fun h => ?_) | refine seg_gate (fun h => ?_) (fun h => ?_) | refine seg_need ?_ ?_ | refine cond_v (fun h => ?_) (fun h => ?_)
            | refine seg_eval (by simp -dsimp -implicitDefEqProofs [avBa, hd, hd2, h64, hx, hxc]; rfl) ?_
            all_goals first
              | omega
              | exact ⟨j - 1, by omega, [], [0, 1, 4], by simp, by simp, 1, by omega, by simp; decide, .inr ⟨by omega, by simp [hst, avBa]⟩⟩
              | trace_state
          · repeat' with_reducible first
            | refine stp ?_ | refine seg_both ?_ ?_ | refine seg_case (fun x h => ?_) (fun h => ?_) | refine seg_gate (fun h => ?_) (fun h => ?_) | refine seg_need ?_ ?_ | refine cond_v (fun h => ?_) (fun h => ?_)
            | refine seg_eval (by simp -dsimp -implicitDefEqProofs [avBa, hd, hd2, h64, hx, hxc, hul]; rfl) ?_
            all_goals first
              | omega
              | exact ⟨j - 1, by omega, [], [0, 1, 5], by simp, by simp, i + 1, by omega, by simp, .inr ⟨by omega, by simp [hst, avBa]⟩⟩
              | trace_state
        · have hd : decide ((i : Int) < (rs.length : Int)) = false := by rw [decide_eq_false_iff_not]; omega
          have hd2 : decide (i < rs.length) = false := by simp [hlt]
          rcases hmm with ⟨rfl, rfl⟩ | ⟨h0, rfl⟩
          · have he : rs = [] := List.eq_nil_of_length_eq_zero (by omega)
            subst hes; subst he
            simp only [List.map_nil]
            repeat' with_reducible first
            | refine stp ?_ | refine seg_both ?_ ?_ | refine seg_case (fun x h => ?_) (fun h => ?_) | refine seg_gate (fun h => ?_) (fun h => ?_) | refine seg_need ?_ ?_ | refine cond_v (fun h => ?_) (fun h => ?_)
            | refine seg_eval (by simp -dsimp -implicitDefEqProofs [hd, hd2]; rfl) ?_
            all_goals first
              | exact post_finS rfl rfl (.agg (.cons (.rfl _) (.cons (.rfl _) (.cons (.rfl _) (.cons (.nil 0 2) (.cons (.nil 0 2) .nil)))))) ⟨[], [], rfl, rfl, rfl, rfl⟩
              | trace_state
          · have hil : rs.take i = rs := List.take_of_length_le (by omega)
            rw [hil]
            subst hes
            simp only [List.map_nil]
            repeat' with_reducible first
            | refine stp ?_ | refine seg_both ?_ ?_ | refine seg_case (fun x h => ?_) (fun h => ?_) | refine seg_gate (fun h => ?_) (fun h => ?_) | refine seg_need ?_ ?_ | refine cond_v (fun h => ?_) (fun h => ?_)
            | refine seg_eval (by simp -dsimp -implicitDefEqProofs [hd, hd2]; rfl) ?_
            all_goals first
              | exact post_finS rfl rfl (.agg (.cons (.rfl _) (.cons (.rfl _) (.cons (.rfl _) (.cons (.nil 0 2) (.cons (.rfl _) .nil)))))) ⟨[2], [], rfl, rfl, rfl, rfl⟩
              | trace_state
    · repeat' with_reducible first
      | refine stp ?_ | refine seg_both ?_ ?_ | refine seg_case (fun x h => ?_) (fun h => ?_) | refine seg_gate (fun h => ?_) (fun h => ?_) | refine seg_need ?_ ?_ | refine cond_v (fun h => ?_) (fun h => ?_)
      | refine seg_eval (by simp -dsimp -implicitDefEqProofs; rfl) ?_
      refine wp_loop' (fun j ts mm => ∃ i : Nat, i + j = rs.length ∧ ts = [(2, .ptr 0 0 0), (3, .ptr 1 0 0), (30, .fsl 2 (rs.map avBa)), (31, .v (.int .i64 rs.length)), (32, .v (.int .i64 i))] ∧
        ((i = 0 ∧ mm = [.var [.v (.bool false), .v (.bool false), .v (.bool false), .v (.slice none 0 0), .v (.slice none 0 0)], .var [.v (.bool e), .v (.bool r), .v (.bool d), .osl 2, .v (.slice none 0 0)], .arr 116 2 (es.map avBa)]) ∨ (0 < i ∧ mm = [.var [.v (.bool false), .v (.bool false), .v (.bool false), .v (.slice none 0 0), .v (.slice none 0 0)], .var [.v (.bool e), .v (.bool r), .v (.bool d), .osl 2, .osl 3], .arr 116 2 (es.map avBa), .arr 116 2 ((rs.take i).map avBa)]))) rs.length ?_ ?_
      · exact ⟨[], [0, 1, 2], rfl, rfl, 0, by omega, by simp, .inl ⟨rfl, by simp⟩⟩
      · rintro j ts mm ⟨i, hi, rfl, hmm⟩
        by_cases hlt : i < rs.length
        · obtain ⟨x, hx⟩ : ∃ x, rs[i]? = some x := ⟨_, List.getElem?_eq_getElem (by omega)⟩
          have hd : decide ((i : Int) < (rs.length : Int)) = true := by rw [decide_eq_true_eq]; omega
          have hd2 : decide (i < rs.length) = true := by simp [hlt]
          have h64 : IntKind.wrap .i64 ((i : Int) + 1) = ((i + 1 : Nat) : Int) := by rw [IntWalk.i64_in _ (by omega)]; rfl
          have hul : (rs.take i).length ≤ 1000000 := by simp; omega
          have hst := take_more hx
          have hxc := ba_shaped x
          obtain ⟨xb, xn⟩ := x
          simp only [avBa] at hxc
          rcases hmm with ⟨rfl, rfl⟩ | ⟨h0, rfl⟩
          · repeat' with_reducible first
            | refine stp ?_ | refine seg_both ?_ ?_ | refine seg_case (fun x h => ?_) (fun h => ?_) | refine seg_gate (fun h => ?_) (fun h => ?_) | refine seg_need ?_ ?_ | refine cond_v (fun h => ?_) (fun h => ?_)
            | refine seg_eval (by simp -dsimp -implicitDefEqProofs [avBa, hd, hd2, h64, hx, hxc]; rfl) ?_
            all_goals first
              | omega
              | exact ⟨j - 1, by omega, [], [0, 1, 2, 5], by simp, by simp, 1, by omega, by simp; decide, .inr ⟨by omega, by simp [hst, avBa]⟩⟩
              | trace_state
          · repeat' with_reducible first
            | refine stp ?_ | refine seg_both ?_ ?_ | refine seg_case (fun x h => ?_) (fun h => ?_) | refine seg_gate (fun h => ?_) (fun h => ?_) | refine seg_need ?_ ?_ | refine cond_v (fun h => ?_) (fun h => ?_)
            | refine seg_eval (by simp -dsimp -implicitDefEqProofs [avBa, hd, hd2, h64, hx, hxc, hul]; rfl) ?_
            all_goals first
              | omega
              | exact ⟨j - 1, by omega, [], [0, 1, 2, 6], by simp, by simp, i + 1, by omega, by simp, .inr ⟨by omega, by simp [hst, avBa]⟩⟩
              | trace_state
        · have hd : decide ((i : Int) < (rs.length : Int)) = false := by rw [decide_eq_false_iff_not]; omega
          have hd2 : decide (i < rs.length) = false := by simp [hlt]
          rcases hmm with ⟨rfl, rfl⟩ | ⟨h0, rfl⟩
          · have he : rs = [] := List.eq_nil_of_length_eq_zero (by omega)
            subst he
            simp only [List.map_nil]
            repeat' with_reducible first
            | refine stp ?_ | refine seg_both ?_ ?_ | refine seg_case (fun x h => ?_) (fun h => ?_) | refine seg_gate (fun h => ?_) (fun h => ?_) | refine seg_need ?_ ?_ | refine cond_v (fun h => ?_) (fun h => ?_)
            | refine seg_eval (by simp -dsimp -implicitDefEqProofs [hd, hd2]; rfl) ?_
            all_goals first
              | exact post_finS rfl rfl (.agg (.cons (.rfl _) (.cons (.rfl _) (.cons (.rfl _) (.cons (.rfl _) (.cons (.nil 0 2) .nil)))))) ⟨[2], [], rfl, rfl, rfl, rfl⟩
              | trace_state
          · have hil : rs.take i = rs := List.take_of_length_le (by omega)
            rw [hil]
            skip
            skip
            repeat' with_reducible first
            | refine stp ?_ | refine seg_both ?_ ?_ | refine seg_case (fun x h => ?_) (fun h => ?_) | refine seg_gate (fun h => ?_) (fun h => ?_) | refine seg_need ?_ ?_ | refine cond_v (fun h => ?_) (fun h => ?_)
            | refine seg_eval (by simp -dsimp -implicitDefEqProofs [hd, hd2]; rfl) ?_
            all_goals first
              | exact post_finS rfl rfl (.agg (.cons (.rfl _) (.cons (.rfl _) (.cons (.rfl _) (.cons (.rfl _) (.cons (.rfl _) .nil)))))) ⟨[2, 3], [], rfl, rfl, rfl, rfl⟩
              | trace_state

theorem same_tc (v m : Int) (b : List Nat) : Same (.agg (tc v m b (.fsl 0 []))) (.agg (tc v m b (.fsl 7 []))) := .agg (.cons (.rfl _) (.cons (.rfl _) (sameL_app (.cons (.nil 0 7) .nil) (vc b))))
noncomputable def spConvT : Spec := sp1 avTb okTb avTb

set_option maxHeartbeats 8000000 in
theorem theirs8_ok : CallOk Try.prog 13 spConvT := by
  refine ok_13 (Env.put_ok [] (Env.none_ok _) theirs7_ok) spConvT (wb_sp1 ?_)
  rintro ⟨v, m, b, l⟩ ⟨hm, hb, hll, hol⟩
  simp only at hm hb hll hol
  have hbl := hb.1
  simp only [avTb]
  unfold ac_13
  repeat' with_reducible first
  | refine stp ?_ | refine seg_both ?_ ?_ | refine seg_case (fun x h => ?_) (fun h => ?_) | refine seg_gate (fun h => ?_) (fun h => ?_) | refine seg_need ?_ ?_ | refine cond_v (fun h => ?_) (fun h => ?_)
  | refine seg_eval (by simp -dsimp -implicitDefEqProofs [hbl, zV_length]; rfl) ?_
  refine wp_loop' (fun j ts mm => ∃ i : Nat, i + j = l.length ∧ ts = [(2, .ptr 0 0 0), (3, .ptr 1 0 0), (14, .fsl 7 (l.map avOp)), (15, .v (.int .i64 l.length)), (16, .v (.int .i64 i))] ∧
    ((i = 0 ∧ mm = [.var (tc 0 0 zV (.v (.slice none 0 0))), .var (tc v (m : Nat) b (.v (.slice none 0 0)))]) ∨
     (0 < i ∧ mm = [.var (tc 0 0 zV (.v (.slice none 0 0))), .var (tc v (m : Nat) b (.osl 2)), .arr 60 7 ((l.take i).map avOp)]))) l.length ?_ ?_
  · exact ⟨[], [1, 2], by simp, by simp, 0, by omega, by simp, .inl ⟨rfl, by simp⟩⟩
  · rintro j ts mm ⟨i, hi, rfl, hmm⟩
    by_cases hlt : i < l.length
    · obtain ⟨x, hx⟩ : ∃ x, l[i]? = some x := ⟨_, List.getElem?_eq_getElem (by omega)⟩
      have hd : decide ((i : Int) < (l.length : Int)) = true := by rw [decide_eq_true_eq]; omega
      have hd2 : decide (i < l.length) = true := by simp [hlt]
      have h64 : IntKind.wrap .i64 ((i : Int) + 1) = ((i + 1 : Nat) : Int) := by rw [IntWalk.i64_in _ (by omega)]; rfl
      have hul : (l.take i).length ≤ 1000000 := by simp; omega
      have hst := take_more hx
      have hxc := op_shaped x
      have hxo := (hol x (List.mem_of_getElem? hx)).2.2
      obtain ⟨xf, xq, ⟨xe, xr, xd, xes, xrs⟩⟩ := x
      simp only [avOp, cOp] at hxc hxo
      rcases hmm with ⟨rfl, rfl⟩ | ⟨h0, rfl⟩
      · repeat' with_reducible first
        | refine stp ?_ | refine seg_both ?_ ?_ | refine seg_case (fun x h => ?_) (fun h => ?_) | refine seg_gate (fun h => ?_) (fun h => ?_) | refine seg_need ?_ ?_ | refine cond_v (fun h => ?_) (fun h => ?_)
        | refine seg_eval (by simp -dsimp -implicitDefEqProofs [avOp, cOp, hbl, hd, hd2, h64, hx, hxc, spConvC, hxo, avCs]; rfl) ?_
        all_goals first
          | omega
          | exact hxo
          | exact ⟨j - 1, by omega, [], [0, 1, 4], by simp, by simp, 1, by omega, by simp; decide, .inr ⟨by omega, by simp [hst, avOp, cOp]⟩⟩
          | trace_state
      · repeat' with_reducible first
        | refine stp ?_ | refine seg_both ?_ ?_ | refine seg_case (fun x h => ?_) (fun h => ?_) | refine seg_gate (fun h => ?_) (fun h => ?_) | refine seg_need ?_ ?_ | refine cond_v (fun h => ?_) (fun h => ?_)
        | refine seg_eval (by simp -dsimp -implicitDefEqProofs [avOp, cOp, hbl, hd, hd2, h64, hx, hxc, hul, spConvC, hxo, avCs]; rfl) ?_
        all_goals first
          | omega
          | exact hxo
          | exact ⟨j - 1, by omega, [], [0, 1, 5], by simp, by simp, i + 1, by omega, by simp, .inr ⟨by omega, by simp [hst, avOp, cOp]⟩⟩
          | trace_state
    · have hd : decide ((i : Int) < (l.length : Int)) = false := by rw [decide_eq_false_iff_not]; omega
      have hd2 : decide (i < l.length) = false := by simp [hlt]
      rcases hmm with ⟨rfl, rfl⟩ | ⟨h0, rfl⟩
      · have : l = [] := List.eq_nil_of_length_eq_zero (by omega)
        subst this
        repeat' with_reducible first
        | refine stp ?_ | refine seg_both ?_ ?_ | refine seg_case (fun x h => ?_) (fun h => ?_) | refine seg_gate (fun h => ?_) (fun h => ?_) | refine seg_need ?_ ?_ | refine cond_v (fun h => ?_) (fun h => ?_)
        | refine seg_eval (by simp -dsimp -implicitDefEqProofs [hbl, zV_length]; rfl) ?_
        all_goals first
          | (refine post_finS (vs := [.agg (tc v (m : Nat) b (.v (.slice none 0 0)))]) (by simp [rs_13, hbl]) rfl (same_tc ..) ⟨[], [], ?_, ?_, ?_, ?_⟩ <;> simp)
          | trace_state
      · have hil : l.take i = l := List.take_of_length_le (by omega)
        rw [hil]
        repeat' with_reducible first
        | refine stp ?_ | refine seg_both ?_ ?_ | refine seg_case (fun x h => ?_) (fun h => ?_) | refine seg_gate (fun h => ?_) (fun h => ?_) | refine seg_need ?_ ?_ | refine cond_v (fun h => ?_) (fun h => ?_)
        | refine seg_eval (by simp -dsimp -implicitDefEqProofs [hbl, hd, hd2, zV_length]; rfl) ?_
        all_goals first
          | (refine post_fin (vs := [.agg (tc v (m : Nat) b (.osl 2))]) (by simp [rs_13, hbl]) rfl ⟨[2], [], ?_, ?_, ?_, ?_⟩ <;> simp)
          | trace_state

set_option maxHeartbeats 8000000 in
theorem ours8_ok : CallOk Try.prog 18 spConvT := by
  refine ok_18 (Env.put_ok [] (Env.none_ok _) ours7_ok) spConvT (wb_sp1 ?_)
  rintro ⟨v, m, b, l⟩ ⟨hm, hb, hll, hol⟩
  simp only at hm hb hll hol
  have hbl := hb.1
  simp only [avTb]
  unfold ac_18
  repeat' with_reducible first
  | refine stp ?_ | refine seg_both ?_ ?_ | refine seg_case (fun x h => ?_) (fun h => ?_) | refine seg_gate (fun h => ?_) (fun h => ?_) | refine seg_need ?_ ?_ | refine cond_v (fun h => ?_) (fun h => ?_)
  | refine seg_eval (by simp -dsimp -implicitDefEqProofs [hbl, zV_length]; rfl) ?_
  refine wp_loop' (fun j ts mm => ∃ i : Nat, i + j = l.length ∧ ts = [(2, .ptr 0 0 0), (3, .ptr 1 0 0), (14, .fsl 7 (l.map avOp)), (15, .v (.int .i64 l.length)), (16, .v (.int .i64 i))] ∧
    ((i = 0 ∧ mm = [.var (tc 0 0 zV (.v (.slice none 0 0))), .var (tc v (m : Nat) b (.v (.slice none 0 0)))]) ∨
     (0 < i ∧ mm = [.var (tc 0 0 zV (.v (.slice none 0 0))), .var (tc v (m : Nat) b (.osl 2)), .arr 66 7 ((l.take i).map avOp)]))) l.length ?_ ?_
  · exact ⟨[], [1, 2], by simp, by simp, 0, by omega, by simp, .inl ⟨rfl, by simp⟩⟩
  · rintro j ts mm ⟨i, hi, rfl, hmm⟩
    by_cases hlt : i < l.length
    · obtain ⟨x, hx⟩ : ∃ x, l[i]? = some x := ⟨_, List.getElem?_eq_getElem (by omega)⟩
      have hd : decide ((i : Int) < (l.length : Int)) = true := by rw [decide_eq_true_eq]; omega
      have hd2 : decide (i < l.length) = true := by simp [hlt]
      have h64 : IntKind.wrap .i64 ((i : Int) + 1) = ((i + 1 : Nat) : Int) := by rw [IntWalk.i64_in _ (by omega)]; rfl
      have hul : (l.take i).length ≤ 1000000 := by simp; omega
      have hst := take_more hx
      have hxc := op_shaped x
      have hxo := (hol x (List.mem_of_getElem? hx)).2.2
      obtain ⟨xf, xq, ⟨xe, xr, xd, xes, xrs⟩⟩ := x
      simp only [avOp, cOp] at hxc hxo
      rcases hmm with ⟨rfl, rfl⟩ | ⟨h0, rfl⟩
      · repeat' with_reducible first
        | refine stp ?_ | refine seg_both ?_ ?_ | refine seg_case (fun x h => ?_) (fun h => ?_) | refine seg_gate (fun h => ?_) (fun h => ?_) | refine seg_need ?_ ?_ | refine cond_v (fun h => ?_) (fun h => ?_)
        | refine seg_eval (by simp -dsimp -implicitDefEqProofs [avOp, cOp, hbl, hd, hd2, h64, hx, hxc, spConvC, hxo, avCs]; rfl) ?_
        all_goals first
          | omega
          | exact hxo
          | exact ⟨j - 1, by omega, [], [0, 1, 4], by simp, by simp, 1, by omega, by simp; decide, .inr ⟨by omega, by simp [hst, avOp, cOp]⟩⟩
          | trace_state
      · repeat' with_reducible first
        | refine stp ?_ | refine seg_both ?_ ?_ | refine seg_case (fun x h => ?_) (fun h => ?_) | refine seg_gate (fun h => ?_) (fun h => ?_) | refine seg_need ?_ ?_ | refine cond_v (fun h => ?_) (fun h => ?_)
        | refine seg_eval (by simp -dsimp -implicitDefEqProofs [avOp, cOp, hbl, hd, hd2, h64, hx, hxc, hul, spConvC, hxo, avCs]; rfl) ?_
        all_goals first
          | omega
          | exact hxo
          | exact ⟨j - 1, by omega, [], [0, 1, 5], by simp, by simp, i + 1, by omega, by simp, .inr ⟨by omega, by simp [hst, avOp, cOp]⟩⟩
          | trace_state
    · have hd : decide ((i : Int) < (l.length : Int)) = false := by rw [decide_eq_false_iff_not]; omega
      have hd2 : decide (i < l.length) = false := by simp [hlt]
      rcases hmm with ⟨rfl, rfl⟩ | ⟨h0, rfl⟩
      · have : l = [] := List.eq_nil_of_length_eq_zero (by omega)
        subst this
        repeat' with_reducible first
        | refine stp ?_ | refine seg_both ?_ ?_ | refine seg_case (fun x h => ?_) (fun h => ?_) | refine seg_gate (fun h => ?_) (fun h => ?_) | refine seg_need ?_ ?_ | refine cond_v (fun h => ?_) (fun h => ?_)
        | refine seg_eval (by simp -dsimp -implicitDefEqProofs [hbl, zV_length]; rfl) ?_
        all_goals first
          | (refine post_finS (vs := [.agg (tc v (m : Nat) b (.v (.slice none 0 0)))]) (by simp [rs_18, hbl]) rfl (same_tc ..) ⟨[], [], ?_, ?_, ?_, ?_⟩ <;> simp)
          | trace_state
      · have hil : l.take i = l := List.take_of_length_le (by omega)
        rw [hil]
        repeat' with_reducible first
        | refine stp ?_ | refine seg_both ?_ ?_ | refine seg_case (fun x h => ?_) (fun h => ?_) | refine seg_gate (fun h => ?_) (fun h => ?_) | refine seg_need ?_ ?_ | refine cond_v (fun h => ?_) (fun h => ?_)
        | refine seg_eval (by simp -dsimp -implicitDefEqProofs [hbl, hd, hd2, zV_length]; rfl) ?_
        all_goals first
          | (refine post_fin (vs := [.agg (tc v (m : Nat) b (.osl 2))]) (by simp [rs_18, hbl]) rfl ⟨[2], [], ?_, ?_, ?_, ?_⟩ <;> simp)
          | trace_state

/-! ### Few; told -/
open Classical in
noncomputable def fewT (t : Tb) : Bool := decide ((∀ o ∈ t.os, o.c.es.length ≤ 20 ∧ o.c.rs.length ≤ 20) ∧ t.os.length ≤ 40)
open Classical in
theorem few_iff {t : Tb} : fewT t = true ↔ (∀ o ∈ t.os, o.c.es.length ≤ 20 ∧ o.c.rs.length ≤ 20) ∧ t.os.length ≤ 40 := by unfold fewT; exact decide_eq_true_iff
noncomputable def spFew : Spec := sp1 avTb (fun t => t.b.length = 16 ∧ t.os.length ≤ 9223372036854775807) fun t => .v (.bool (fewT t))
set_option maxHeartbeats 8000000 in
theorem few_ok : CallOk Try.prog 11 spFew := by
  refine ok_11 (Env.none_ok _) spFew (wb_sp1 ?_)
  rintro ⟨v, m, b, l⟩ ⟨hbl, hll⟩
  simp only at hbl hll
  simp only [avTb]
  unfold ac_11
  repeat' with_reducible first
  | refine stp ?_ | refine seg_both ?_ ?_ | refine seg_case (fun x h => ?_) (fun h => ?_) | refine seg_gate (fun h => ?_) (fun h => ?_) | refine seg_need ?_ ?_ | refine cond_v (fun h => ?_) (fun h => ?_)
  | refine seg_eval (by simp -dsimp -implicitDefEqProofs [hbl]; rfl) ?_
  refine wp_loop' (fun j ts mm => ∃ i : Nat, i + j = l.length ∧ (∀ (k : Nat) (o : Op), k < i → l[k]? = some o → o.c.es.length ≤ 20 ∧ o.c.rs.length ≤ 20) ∧
    ts = [(1, .fptr (.agg (tc v (m : Nat) b (.fsl 7 (l.map avOp)))) 0), (6, .fsl 7 (l.map avOp)), (7, .v (.int .i64 l.length)), (8, .v (.int .i64 i))] ∧ mm = []) l.length ?_ ?_
  · exact ⟨[], [], by simp, by simp, 0, by omega, fun k o hk => by omega, by simp, by simp⟩
  · rintro j ts mm ⟨i, hi, hlo, rfl, rfl⟩
    by_cases hlt : i < l.length
    · obtain ⟨x, hx⟩ : ∃ x, l[i]? = some x := ⟨_, List.getElem?_eq_getElem (by omega)⟩
      have hd : decide ((i : Int) < (l.length : Int)) = true := by rw [decide_eq_true_eq]; omega
      have hd2 : decide (i < l.length) = true := by simp [hlt]
      have h64 : IntKind.wrap .i64 ((i : Int) + 1) = ((i + 1 : Nat) : Int) := by rw [IntWalk.i64_in _ (by omega)]; rfl
      have hno : ¬ (x.c.es.length ≤ 20 ∧ x.c.rs.length ≤ 20) → fewT ⟨v, m, b, l⟩ = false := fun h => not_true' fun hf => h ((few_iff.1 hf).1 x (List.mem_of_getElem? hx))
      have hyes : x.c.es.length ≤ 20 → x.c.rs.length ≤ 20 → ∀ (k : Nat) (o : Op), k < i + 1 → l[k]? = some o → o.c.es.length ≤ 20 ∧ o.c.rs.length ≤ 20 := fun h1 h2 k o hk ho => by
        rcases Nat.lt_or_eq_of_le (Nat.le_of_lt_succ hk) with h | h
        · exact hlo k o h ho
        · subst h; rw [hx] at ho; cases ho; exact ⟨h1, h2⟩
      obtain ⟨xf, xq, ⟨xe, xr, xd, xes, xrs⟩⟩ := x
      simp only at hno hyes
      by_cases q1 : 20 < xes.length
      · have c1 : decide (20 < xes.length) = true := by simp [q1]
        have c1' : decide ((20 : Int) < (xes.length : Int)) = true := by rw [decide_eq_true_eq]; omega
        rw [hno (by omega)]
        repeat' with_reducible first
        | refine stp ?_ | refine seg_both ?_ ?_ | refine seg_case (fun x h => ?_) (fun h => ?_) | refine seg_gate (fun h => ?_) (fun h => ?_) | refine seg_need ?_ ?_ | refine cond_v (fun h => ?_) (fun h => ?_)
        | refine seg_eval (by simp -dsimp -implicitDefEqProofs [avOp, cOp, hd, hd2, hx, c1, c1']; rfl) ?_
        all_goals first
          | omega
          | exact post_fin rfl rfl ⟨[], [], rfl, rfl, rfl, rfl⟩
          | trace_state
      · have c1 : decide (20 < xes.length) = false := by simp; omega
        have c1' : decide ((20 : Int) < (xes.length : Int)) = false := by rw [decide_eq_false_iff_not]; omega
        by_cases q2 : 20 < xrs.length
        · have c2 : decide (20 < xrs.length) = true := by simp [q2]
          have c2' : decide ((20 : Int) < (xrs.length : Int)) = true := by rw [decide_eq_true_eq]; omega
          rw [hno (by omega)]
          repeat' with_reducible first
          | refine stp ?_ | refine seg_both ?_ ?_ | refine seg_case (fun x h => ?_) (fun h => ?_) | refine seg_gate (fun h => ?_) (fun h => ?_) | refine seg_need ?_ ?_ | refine cond_v (fun h => ?_) (fun h => ?_)
          | refine seg_eval (by simp -dsimp -implicitDefEqProofs [avOp, cOp, hd, hd2, hx, c1, c1', c2, c2']; rfl) ?_
          all_goals first
            | omega
            | exact post_fin rfl rfl ⟨[], [], rfl, rfl, rfl, rfl⟩
            | trace_state
        · have c2 : decide (20 < xrs.length) = false := by simp; omega
          have c2' : decide ((20 : Int) < (xrs.length : Int)) = false := by rw [decide_eq_false_iff_not]; omega
          replace hyes := hyes (by omega) (by omega)
          repeat' with_reducible first
          | refine stp ?_ | refine seg_both ?_ ?_ | refine seg_case (fun x h => ?_) (fun h => ?_) | refine seg_gate (fun h => ?_) (fun h => ?_) | refine seg_need ?_ ?_ | refine cond_v (fun h => ?_) (fun h => ?_)
          | refine seg_eval (by simp -dsimp -implicitDefEqProofs [avOp, cOp, hd, hd2, hx, c1, c1', c2, c2', h64]; rfl) ?_
          all_goals first
            | omega
            | exact ⟨j - 1, by omega, [], [], by simp, by simp, i + 1, by omega, hyes, by simp, by simp⟩
            | trace_state
    · have hd : decide ((i : Int) < (l.length : Int)) = false := by rw [decide_eq_false_iff_not]; omega
      have hd2 : decide (i < l.length) = false := by simp [hlt]
      have e : fewT ⟨v, m, b, l⟩ = decide (l.length ≤ 40) := by
        rw [Bool.eq_iff_iff, few_iff, decide_eq_true_eq]
        exact ⟨fun h => h.2, fun h => ⟨fun o (ho : o ∈ l) => by
          obtain ⟨k, hk⟩ := List.mem_iff_getElem?.1 ho
          exact hlo k o (by have := (List.getElem?_eq_some_iff.1 hk).1; omega) hk, h⟩⟩
      have e2 : decide ((l.length : Int) ≤ 40) = decide (l.length ≤ 40) := by rw [decide_eq_decide]; omega
      rw [e]
      repeat' with_reducible first
      | refine stp ?_ | refine seg_both ?_ ?_ | refine seg_case (fun x h => ?_) (fun h => ?_) | refine seg_gate (fun h => ?_) (fun h => ?_) | refine seg_need ?_ ?_ | refine cond_v (fun h => ?_) (fun h => ?_)
      | refine seg_eval (by simp -dsimp -implicitDefEqProofs [hbl, hd, hd2, e2]; rfl) ?_
      all_goals first
        | omega
        | exact post_fin rfl rfl ⟨[], [], rfl, rfl, rfl, rfl⟩
        | trace_state
def avNms (l : List Nm) : AV := .fsl 3 (l.map avNm)
theorem map_avNm : ∀ {l m : List Nm}, l.map avNm = m.map avNm → l = m
  | [], [], _ => rfl
  | [], _ :: _, h => by simp at h
  | _ :: _, [], h => by simp at h
  | a :: l, b :: m, h => by
    simp only [List.map_cons, List.cons.injEq] at h
    rw [inj_avNm h.1, map_avNm h.2]
theorem un_nms (l : List Nm) : un avNms (.fsl 3 (l.map avNm)) = some l := un_av (av := avNms) (fun x y h => by simp only [avNms, AV.fsl.injEq, true_and] at h; exact map_avNm h) l
attribute [simp] un_nms
open Classical in
noncomputable def inN (l : List Nm) (n : Nm) : Bool := decide (n ∈ l)
open Classical in
theorem inN_iff {l : List Nm} {n : Nm} : inN l n = true ↔ n ∈ l := by unfold inN; exact decide_eq_true_iff
theorem nm_eq {x y : Nm} : (x.v == y.v && ((x.f : Int) == (y.f : Int) && x.q == y.q)) = same x y := by
  rw [Bool.eq_iff_iff, same_iff]
  simp only [Bool.and_eq_true, beq_iff_eq]
  obtain ⟨v, f, q⟩ := x; obtain ⟨v', f', q'⟩ := y
  simp only [Nm.mk.injEq]
  omega
theorem eqCells_iii (v v' q q' : Int) (f f' : Nat) : eqCells [.i, .i, .i] [.v (.int .i64 v), .v (.int .u8 f), .v (.int .i64 q)] [.v (.int .i64 v'), .v (.int .u8 f'), .v (.int .i64 q')] = some (v == v' && ((f : Int) == (f' : Int) && q == q')) := by simp [eqCells]
noncomputable def spTold : Spec := sp2 avNms avNm (fun l n => l.length ≤ 1000001) fun l n => .v (.bool (inN l n))
set_option maxHeartbeats 8000000 in
theorem told_ok : CallOk Try.prog 20 spTold := by
  refine ok_20 (Env.none_ok _) spTold (wb_sp2 ?_)
  rintro l ⟨nv, nf, nq⟩ hll
  simp only [avNms, avNm]
  unfold ac_20
  repeat' with_reducible first
  | refine stp ?_ | refine seg_both ?_ ?_ | refine seg_case (fun x h => ?_) (fun h => ?_) | refine seg_gate (fun h => ?_) (fun h => ?_) | refine seg_need ?_ ?_ | refine cond_v (fun h => ?_) (fun h => ?_)
  | refine seg_eval (by simp -dsimp -implicitDefEqProofs; rfl) ?_
  refine wp_loop' (fun j ts mm => ∃ i : Nat, i + j = l.length ∧ (∀ (k : Nat) (o : Nm), k < i → l[k]? = some o → o ≠ ⟨nv, nf, nq⟩) ∧
    ts = [(3, .fptr (.agg [.v (.int .i64 nv), .v (.int .u8 (nf : Nat)), .v (.int .i64 nq)]) 0), (7, .fsl 3 (l.map avNm)), (8, .v (.int .i64 l.length)), (9, .v (.int .i64 i))] ∧ mm = []) l.length ?_ ?_
  · exact ⟨[], [], by simp, by simp, 0, by omega, fun k o hk => by omega, by simp, by simp⟩
  · rintro j ts mm ⟨i, hi, hlo, rfl, rfl⟩
    by_cases hlt : i < l.length
    · obtain ⟨x, hx⟩ : ∃ x, l[i]? = some x := ⟨_, List.getElem?_eq_getElem (by omega)⟩
      have hd : decide ((i : Int) < (l.length : Int)) = true := by rw [decide_eq_true_eq]; omega
      have hd2 : decide (i < l.length) = true := by simp [hlt]
      have h64 : IntKind.wrap .i64 ((i : Int) + 1) = ((i + 1 : Nat) : Int) := by rw [IntWalk.i64_in _ (by omega)]; rfl
      have heq := nm_eq (x := x) (y := ⟨nv, nf, nq⟩)
      by_cases hxy : x = ⟨nv, nf, nq⟩
      · rw [same_iff.2 hxy] at heq
        rw [inN_iff.2 (hxy ▸ List.mem_of_getElem? hx)]
        obtain ⟨xv, xf, xq⟩ := x
        simp only [Nm.mk.injEq] at hxy
        obtain ⟨rfl, rfl, rfl⟩ := hxy
        repeat' with_reducible first
        | refine stp ?_ | refine seg_both ?_ ?_ | refine seg_case (fun x h => ?_) (fun h => ?_) | refine seg_gate (fun h => ?_) (fun h => ?_) | refine seg_need ?_ ?_ | refine cond_v (fun h => ?_) (fun h => ?_)
        | refine seg_eval (by simp -dsimp -implicitDefEqProofs [avNm, hd, hd2, hx]; rfl) ?_
        all_goals first
          | omega
          | exact post_fin rfl rfl ⟨[], [], rfl, rfl, rfl, rfl⟩
          | trace_state
      · rw [same_no hxy] at heq
        have hnext : ∀ (k : Nat) (o : Nm), k < i + 1 → l[k]? = some o → o ≠ ⟨nv, nf, nq⟩ := fun k o hk ho => by
          rcases Nat.lt_or_eq_of_le (Nat.le_of_lt_succ hk) with h | h
          · exact hlo k o h ho
          · subst h; rw [hx] at ho; cases ho; exact hxy
        obtain ⟨xv, xf, xq⟩ := x
        simp only at heq
        have heq2 := heq
        rw [int_nat] at heq2
        repeat' with_reducible first
        | refine stp ?_ | refine seg_both ?_ ?_ | refine seg_case (fun x h => ?_) (fun h => ?_) | refine seg_gate (fun h => ?_) (fun h => ?_) | refine seg_need ?_ ?_ | refine cond_v (fun h => ?_) (fun h => ?_)
        | refine seg_eval (by simp -dsimp -implicitDefEqProofs [avNm, hd, hd2, hx, eqCells_iii, heq, heq2, h64]; rfl) ?_
        all_goals first
          | omega
          | exact ⟨j - 1, by omega, [], [], by simp, by simp, i + 1, by omega, hnext, by simp, by simp⟩
          | trace_state
    · have hd : decide ((i : Int) < (l.length : Int)) = false := by rw [decide_eq_false_iff_not]; omega
      have hd2 : decide (i < l.length) = false := by simp [hlt]
      have e : inN l ⟨nv, nf, nq⟩ = false := not_true' fun h => by
        obtain ⟨k, hk⟩ := List.mem_iff_getElem?.1 (inN_iff.1 h)
        exact hlo k _ (by have := (List.getElem?_eq_some_iff.1 hk).1; omega) hk rfl
      rw [e]
      repeat' with_reducible first
      | refine stp ?_ | refine seg_both ?_ ?_ | refine seg_case (fun x h => ?_) (fun h => ?_) | refine seg_gate (fun h => ?_) (fun h => ?_) | refine seg_need ?_ ?_ | refine cond_v (fun h => ?_) (fun h => ?_)
      | refine seg_eval (by simp -dsimp -implicitDefEqProofs [hd, hd2]; rfl) ?_
      all_goals first
        | omega
        | exact post_fin rfl rfl ⟨[], [], rfl, rfl, rfl, rfl⟩
        | trace_state
end Go.Proofs.Ytkbgndebfcjojaa.Am
