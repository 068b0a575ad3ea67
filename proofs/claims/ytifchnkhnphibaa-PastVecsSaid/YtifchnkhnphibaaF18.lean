import Derived.Test.YtifchnkhnphibaaF17
namespace Go.Proofs.Ytifchnkhnphibaa.Am
set_option linter.unusedSimpArgs false
set_option linter.unusedVariables false
open Go Go.Proofs
attribute [local irreducible] wpA

theorem valB_none {b : List UInt8} {at_ : Nat} (h : b.length ≤ at_) (k : Nat) : valB b at_ k = 0 := by
  unfold valB
  rw [List.drop_eq_nil_iff.2 h]; simp [leB]
theorem valB_some {b : List UInt8} {at_ : Nat} {c : UInt8} (h : b[at_]? = some c) (k : Nat) : valB b at_ (k + 1) = c.toNat + 256 * valB b (at_ + 1) k := by
  unfold valB
  obtain ⟨hlt, hc⟩ := List.getElem?_eq_some_iff.1 h
  rw [List.drop_eq_getElem_cons hlt, hc, List.take_succ_cons, leB]

def spValue : Spec
  | [.fsl 1 es, .v (.int .i64 a), .v (.int .i64 s)], [] => (inB es).bind fun b => if 0 ≤ a ∧ a ≤ 1000000000 ∧ 0 ≤ s ∧ s ≤ 8 ∧ b.length ≤ 1000000 then some (.ret (.v (.int .u64 (valB b a.toNat s.toNat))), []) else none
  | _, _ => none

set_option maxHeartbeats 2000000 in
theorem value_ok : CallOk Try.prog 49 spValue := by
  refine ok_49 E17e_ok spValue fun args mem r mem1 h => ?_
  unfold spValue at h
  split at h
  case h_2 => cases h
  rename_i es a s
  obtain ⟨b, hb, h2⟩ := Option.bind_eq_some_iff.1 h
  clear h
  have := inB_some es b hb
  subst this
  clear hb
  obtain ⟨hx, h3⟩ := if_some h2
  clear h2
  cases h3
  obtain ⟨a, rfl⟩ := Int.eq_ofNat_of_zero_le hx.1
  obtain ⟨s, rfl⟩ := Int.eq_ofNat_of_zero_le hx.2.2.1
  simp only [Int.toNat_natCast]
  unfold ac_49
  have hs1 : IntKind.wrap .i64 ((s : Int) - 1) = (s : Int) - 1 := IntWalk.i64_in _ (by omega)
  repeat' first
      | with_reducible refine wp_regionS (seg_eval (by simp -dsimp -implicitDefEqProofs [hs1]; rfl) ?_)
      | with_reducible refine wp_region (seg_eval (by simp -dsimp -implicitDefEqProofs [hs1]; rfl) ?_)
      | with_reducible refine wp_drawsS (seg_eval (by simp -dsimp -implicitDefEqProofs [hs1]; rfl) ?_)
      | with_reducible refine wp_draws (seg_eval (by simp -dsimp -implicitDefEqProofs [hs1]; rfl) ?_)
      | with_reducible refine seg_fin ?_
      | with_reducible refine seg_pan ?_
      | with_reducible refine seg_both ?_ ?_
      | with_reducible refine seg_case (fun x h => ?_) (fun h => ?_)
      | with_reducible refine seg_gate (fun h => ?_) (fun h => ?_)
      | with_reducible refine seg_need ?_ ?_
      | with_reducible refine wp_assoc ?_ | with_reducible refine wp_skipS ?_ | with_reducible refine wp_retS ?_ | with_reducible refine wp_exitS ?_ | with_reducible refine wp_dropS (wp_eqT (by simp -dsimp -implicitDefEqProofs [hs1]; rfl) ?_) | with_reducible refine wp_sealS (by simp -dsimp -implicitDefEqProofs [hs1]; rfl) ?_ | with_reducible refine wp_seal (by simp -dsimp -implicitDefEqProofs [hs1]; rfl) ?_ | with_reducible refine wp_blockS ?_ | with_reducible refine wp_skip' ?_ | with_reducible refine wp_ret' ?_ | with_reducible refine wp_exit' ?_ | with_reducible refine wp_drop (wp_eqT (by simp -dsimp -implicitDefEqProofs [hs1]; rfl) ?_) | with_reducible refine wp_block' ?_
      | with_reducible refine wp_condVS (by simp -dsimp -implicitDefEqProofs [hs1]; rfl) ?_
      | with_reducible refine wp_condV (by simp -dsimp -implicitDefEqProofs [hs1]; rfl) ?_
      | with_reducible refine cond_t ?_ | with_reducible refine cond_f ?_ | with_reducible refine cond_v (fun h => ?_) (fun h => ?_)
      | with_reducible refine post_then ?_ | with_reducible refine post_thenE ?_ | with_reducible refine post_thenP ?_ | with_reducible refine post_blkP ?_ | with_reducible refine post_thenR ?_ | with_reducible refine post_blkN ?_ | with_reducible refine post_blkE ?_ | with_reducible refine post_blkF rfl ?_ | with_reducible refine post_blkR ?_
      | with_reducible refine seg_eval (by simp -dsimp -implicitDefEqProofs [hs1]; rfl) ?_
  refine wp_loop' (fun j ts mm => ∃ i : Nat, i = j ∧ i ≤ s ∧ ts = [(0, .fsl 1 (bv b)), (1, .v (.int .i64 a)), (7, .v (.int .u64 (valB b (a + i) (s - i)))), (8, .v (.int .i64 ((i : Int) - 1)))] ∧ mm = []) s ?_ ?_
  · have h0 : valB b (a + s) 0 = 0 := by simp [valB, leB]
    exact ⟨[], [], rfl, rfl, s, rfl, Nat.le_refl _, by simp [h0], by simp⟩
  · rintro j ts mm ⟨i, rfl, his, rfl, rfl⟩
    by_cases h0 : i = 0
    · subst h0
      have hd : decide (0 ≤ ((0 : Nat) : Int) - 1) = false := by decide
      have hd' : decide (0 ≤ (-1 : Int)) = false := by decide
      repeat' first
          | with_reducible refine wp_regionS (seg_eval (by simp -dsimp -implicitDefEqProofs [hd, hd']; rfl) ?_)
          | with_reducible refine wp_region (seg_eval (by simp -dsimp -implicitDefEqProofs [hd, hd']; rfl) ?_)
          | with_reducible refine wp_drawsS (seg_eval (by simp -dsimp -implicitDefEqProofs [hd, hd']; rfl) ?_)
          | with_reducible refine wp_draws (seg_eval (by simp -dsimp -implicitDefEqProofs [hd, hd']; rfl) ?_)
          | with_reducible refine seg_fin ?_
          | with_reducible refine seg_pan ?_
          | with_reducible refine seg_both ?_ ?_
          | with_reducible refine seg_case (fun x h => ?_) (fun h => ?_)
          | with_reducible refine seg_gate (fun h => ?_) (fun h => ?_)
          | with_reducible refine seg_need ?_ ?_
          | with_reducible refine wp_assoc ?_ | with_reducible refine wp_skipS ?_ | with_reducible refine wp_retS ?_ | with_reducible refine wp_exitS ?_ | with_reducible refine wp_dropS (wp_eqT (by simp -dsimp -implicitDefEqProofs [hd, hd']; rfl) ?_) | with_reducible refine wp_sealS (by simp -dsimp -implicitDefEqProofs [hd, hd']; rfl) ?_ | with_reducible refine wp_seal (by simp -dsimp -implicitDefEqProofs [hd, hd']; rfl) ?_ | with_reducible refine wp_blockS ?_ | with_reducible refine wp_skip' ?_ | with_reducible refine wp_ret' ?_ | with_reducible refine wp_exit' ?_ | with_reducible refine wp_drop (wp_eqT (by simp -dsimp -implicitDefEqProofs [hd, hd']; rfl) ?_) | with_reducible refine wp_block' ?_
          | with_reducible refine wp_condVS (by simp -dsimp -implicitDefEqProofs [hd, hd']; rfl) ?_
          | with_reducible refine wp_condV (by simp -dsimp -implicitDefEqProofs [hd, hd']; rfl) ?_
          | with_reducible refine cond_t ?_ | with_reducible refine cond_f ?_ | with_reducible refine cond_v (fun h => ?_) (fun h => ?_)
          | with_reducible refine post_then ?_ | with_reducible refine post_thenE ?_ | with_reducible refine post_thenP ?_ | with_reducible refine post_blkP ?_ | with_reducible refine post_thenR ?_ | with_reducible refine post_blkN ?_ | with_reducible refine post_blkE ?_ | with_reducible refine post_blkF rfl ?_ | with_reducible refine post_blkR ?_
          | with_reducible refine seg_eval (by simp -dsimp -implicitDefEqProofs [hd, hd']; rfl) ?_
      all_goals first
        | exact post_fin rfl rfl ⟨[], [], rfl, rfl, rfl, rfl⟩
        | trace_state
    · obtain ⟨k, rfl⟩ : ∃ k, i = k + 1 := ⟨i - 1, by omega⟩
      have hk1 : (((k + 1 : Nat) : Int) - 1) = (k : Int) := by omega
      have hk2 : ((k : Int) + 1 - 1) = (k : Int) := by omega
      have hw1 : IntKind.wrap .i64 ((a : Int) + (k : Int)) = (a : Int) + (k : Int) := IntWalk.i64_in _ (by omega)
      have htn : ((a : Int) + (k : Int)).toNat = a + k := by omega
      have hw2 : IntKind.wrap .i64 ((k : Int) - 1) = (k : Int) - 1 := IntWalk.i64_in _ (by omega)
      have hsk : s - k = (s - (k + 1)) + 1 := by omega
      by_cases hlt : a + k < b.length
      · obtain ⟨c, hc⟩ : ∃ c, b[a + k]? = some c := ⟨_, List.getElem?_eq_getElem hlt⟩
        have hcl := c.toNat_lt
        have hv := valB_some hc (s - (k + 1))
        rw [← hsk, Nat.add_assoc] at hv
        have hvl := valB_lt b (a + k) (size := s - k) (by omega)
        have hd3 : decide (a + k < b.length) = true := by simp [hlt]
        have hd3' : decide ((a : Int) + (k : Int) < (b.length : Int)) = true := by rw [decide_eq_true_eq]; omega
        have hm : IntKind.wrap .u64 ((valB b (a + (k + 1)) (s - (k + 1)) : Int) * 256) = (valB b (a + (k + 1)) (s - (k + 1)) : Int) * 256 := u64_in _ (by omega)
        have hcw : IntKind.wrap .u64 (c.toNat : Int) = (c.toNat : Int) := u64_in _ (by omega)
        have ha : IntKind.wrap .u64 ((valB b (a + (k + 1)) (s - (k + 1)) : Int) * 256 + (c.toNat : Int)) = (valB b (a + k) (s - k) : Int) := by rw [u64_in _ (by omega), hv]; omega
        have hd : decide (0 ≤ (k : Int)) = true := by rw [decide_eq_true_eq]; omega
        repeat' first
            | with_reducible refine wp_regionS (seg_eval (by simp -dsimp -implicitDefEqProofs [hk1, hk2, hd, hw1, hw2, htn, hd3, hd3', hc, hm, hcw, ha]; rfl) ?_)
            | with_reducible refine wp_region (seg_eval (by simp -dsimp -implicitDefEqProofs [hk1, hk2, hd, hw1, hw2, htn, hd3, hd3', hc, hm, hcw, ha]; rfl) ?_)
            | with_reducible refine wp_drawsS (seg_eval (by simp -dsimp -implicitDefEqProofs [hk1, hk2, hd, hw1, hw2, htn, hd3, hd3', hc, hm, hcw, ha]; rfl) ?_)
            | with_reducible refine wp_draws (seg_eval (by simp -dsimp -implicitDefEqProofs [hk1, hk2, hd, hw1, hw2, htn, hd3, hd3', hc, hm, hcw, ha]; rfl) ?_)
            | with_reducible refine seg_fin ?_
            | with_reducible refine seg_pan ?_
            | with_reducible refine seg_both ?_ ?_
            | with_reducible refine seg_case (fun x h => ?_) (fun h => ?_)
            | with_reducible refine seg_gate (fun h => ?_) (fun h => ?_)
            | with_reducible refine seg_need ?_ ?_
            | with_reducible refine wp_assoc ?_ | with_reducible refine wp_skipS ?_ | with_reducible refine wp_retS ?_ | with_reducible refine wp_exitS ?_ | with_reducible refine wp_dropS (wp_eqT (by simp -dsimp -implicitDefEqProofs [hk1, hk2, hd, hw1, hw2, htn, hd3, hd3', hc, hm, hcw, ha]; rfl) ?_) | with_reducible refine wp_sealS (by simp -dsimp -implicitDefEqProofs [hk1, hk2, hd, hw1, hw2, htn, hd3, hd3', hc, hm, hcw, ha]; rfl) ?_ | with_reducible refine wp_seal (by simp -dsimp -implicitDefEqProofs [hk1, hk2, hd, hw1, hw2, htn, hd3, hd3', hc, hm, hcw, ha]; rfl) ?_ | with_reducible refine wp_blockS ?_ | with_reducible refine wp_skip' ?_ | with_reducible refine wp_ret' ?_ | with_reducible refine wp_exit' ?_ | with_reducible refine wp_drop (wp_eqT (by simp -dsimp -implicitDefEqProofs [hk1, hk2, hd, hw1, hw2, htn, hd3, hd3', hc, hm, hcw, ha]; rfl) ?_) | with_reducible refine wp_block' ?_
            | with_reducible refine wp_condVS (by simp -dsimp -implicitDefEqProofs [hk1, hk2, hd, hw1, hw2, htn, hd3, hd3', hc, hm, hcw, ha]; rfl) ?_
            | with_reducible refine wp_condV (by simp -dsimp -implicitDefEqProofs [hk1, hk2, hd, hw1, hw2, htn, hd3, hd3', hc, hm, hcw, ha]; rfl) ?_
            | with_reducible refine cond_t ?_ | with_reducible refine cond_f ?_ | with_reducible refine cond_v (fun h => ?_) (fun h => ?_)
            | with_reducible refine post_then ?_ | with_reducible refine post_thenE ?_ | with_reducible refine post_thenP ?_ | with_reducible refine post_blkP ?_ | with_reducible refine post_thenR ?_ | with_reducible refine post_blkN ?_ | with_reducible refine post_blkE ?_ | with_reducible refine post_blkF rfl ?_ | with_reducible refine post_blkR ?_
            | with_reducible refine seg_eval (by simp -dsimp -implicitDefEqProofs [hk1, hk2, hd, hw1, hw2, htn, hd3, hd3', hc, hm, hcw, ha]; rfl) ?_
        all_goals first
          | omega
          | exact ⟨k, by omega, [], [], rfl, rfl, k, rfl, by omega, by simp, by simp⟩
          | trace_state
      · have hd3 : decide (a + k < b.length) = false := by simp [hlt]
        have hd3' : decide ((a : Int) + (k : Int) < (b.length : Int)) = false := by rw [decide_eq_false_iff_not]; omega
        have z1 : valB b (a + (k + 1)) (s - (k + 1)) = 0 := valB_none (by omega) _
        have z2 : valB b (a + k) (s - k) = 0 := valB_none (by omega) _
        have hd : decide (0 ≤ (k : Int)) = true := by rw [decide_eq_true_eq]; omega
        repeat' first
            | with_reducible refine wp_regionS (seg_eval (by simp -dsimp -implicitDefEqProofs [hk1, hk2, hd, hw1, hw2, htn, hd3, hd3']; rfl) ?_)
            | with_reducible refine wp_region (seg_eval (by simp -dsimp -implicitDefEqProofs [hk1, hk2, hd, hw1, hw2, htn, hd3, hd3']; rfl) ?_)
            | with_reducible refine wp_drawsS (seg_eval (by simp -dsimp -implicitDefEqProofs [hk1, hk2, hd, hw1, hw2, htn, hd3, hd3']; rfl) ?_)
            | with_reducible refine wp_draws (seg_eval (by simp -dsimp -implicitDefEqProofs [hk1, hk2, hd, hw1, hw2, htn, hd3, hd3']; rfl) ?_)
            | with_reducible refine seg_fin ?_
            | with_reducible refine seg_pan ?_
            | with_reducible refine seg_both ?_ ?_
            | with_reducible refine seg_case (fun x h => ?_) (fun h => ?_)
            | with_reducible refine seg_gate (fun h => ?_) (fun h => ?_)
            | with_reducible refine seg_need ?_ ?_
            | with_reducible refine wp_assoc ?_ | with_reducible refine wp_skipS ?_ | with_reducible refine wp_retS ?_ | with_reducible refine wp_exitS ?_ | with_reducible refine wp_dropS (wp_eqT (by simp -dsimp -implicitDefEqProofs [hk1, hk2, hd, hw1, hw2, htn, hd3, hd3']; rfl) ?_) | with_reducible refine wp_sealS (by simp -dsimp -implicitDefEqProofs [hk1, hk2, hd, hw1, hw2, htn, hd3, hd3']; rfl) ?_ | with_reducible refine wp_seal (by simp -dsimp -implicitDefEqProofs [hk1, hk2, hd, hw1, hw2, htn, hd3, hd3']; rfl) ?_ | with_reducible refine wp_blockS ?_ | with_reducible refine wp_skip' ?_ | with_reducible refine wp_ret' ?_ | with_reducible refine wp_exit' ?_ | with_reducible refine wp_drop (wp_eqT (by simp -dsimp -implicitDefEqProofs [hk1, hk2, hd, hw1, hw2, htn, hd3, hd3']; rfl) ?_) | with_reducible refine wp_block' ?_
            | with_reducible refine wp_condVS (by simp -dsimp -implicitDefEqProofs [hk1, hk2, hd, hw1, hw2, htn, hd3, hd3']; rfl) ?_
            | with_reducible refine wp_condV (by simp -dsimp -implicitDefEqProofs [hk1, hk2, hd, hw1, hw2, htn, hd3, hd3']; rfl) ?_
            | with_reducible refine cond_t ?_ | with_reducible refine cond_f ?_ | with_reducible refine cond_v (fun h => ?_) (fun h => ?_)
            | with_reducible refine post_then ?_ | with_reducible refine post_thenE ?_ | with_reducible refine post_thenP ?_ | with_reducible refine post_blkP ?_ | with_reducible refine post_thenR ?_ | with_reducible refine post_blkN ?_ | with_reducible refine post_blkE ?_ | with_reducible refine post_blkF rfl ?_ | with_reducible refine post_blkR ?_
            | with_reducible refine seg_eval (by simp -dsimp -implicitDefEqProofs [hk1, hk2, hd, hw1, hw2, htn, hd3, hd3']; rfl) ?_
        all_goals first
          | omega
          | exact ⟨k, by omega, [], [], rfl, rfl, k, rfl, by omega, by simp [z1, z2], by simp⟩
          | trace_state

def E18 : Env := E17e.put 49 [] (fixS [1] spValue)
theorem E18_ok : EnvOk Try.prog E18 := Env.put_ok _ E17e_ok (value_ok.fix _)
attribute [simp] E18 spValue
end Go.Proofs.Ytifchnkhnphibaa.Am
